/-
  THE WALKS OF LAYER 1's FUNCTIONS (numbers alone).
-/
import Derived.Test.YtiibglkiakhfgaaDoorRows
import Derived.Test.YtiibglkiakhfgaaDoorPrefixPure
set_option linter.unusedSimpArgs false
set_option linter.unusedVariables false
namespace Go.Proofs.YtiibglkiakhfgaaDoor
open Go.RowKit

/-- A prefix as a value. -/
def pfx (a : Nat) (n : Int) : Value := .agg #[.int .u32 (a : Int), .int .i64 n]

set_option maxHeartbeats 400000 in
theorem mask_any (n : Int) (w : World) (h1 : -9223372036854775808 ≤ n) (h2 : n ≤ 9223372036854775807) : Calls Tryd.prog 91 #[.int .i64 n] w fun e w' => e = .returned (.int .u32 ((maskN (clampN n) : Nat) : Int)) ∧ w = w' := by
  by_cases hn : n < 0
  · have hf := hide (show maskN (clampN n) = maskN 0 by unfold clampN; rw [if_pos hn])
    go_enter Tryd.func91, Tryd.ntmps91
    go_wp2
    go_ret
    rw [hf.out]
    exact ⟨rfl, rfl⟩
  · by_cases hm : 32 < n
    · have hf := hide (show maskN (clampN n) = maskN 32 by unfold clampN; rw [if_neg hn, if_pos hm])
      go_enter Tryd.func91, Tryd.ntmps91
      go_wp2
      go_ret
      rw [hf.out]
      exact ⟨rfl, rfl⟩
    · obtain ⟨k, rfl⟩ := Int.eq_ofNat_of_zero_le (show 0 ≤ n by omega)
      have hk : k ≤ 32 := by omega
      have hf := hide (mask_walk k hk)
      rw [clampN_of hk]
      go_enter Tryd.func91, Tryd.ntmps91
      go_wp2
      go_ret
      refine ⟨?_, rfl⟩
      rw [← hf.out]; rfl

set_option maxHeartbeats 400000 in
theorem Mask_any (n : Int) (w : World) (h1 : -9223372036854775808 ≤ n) (h2 : n ≤ 9223372036854775807) : Calls Tryd.prog 29 #[.int .i64 n] w fun e w' => e = .returned (.int .u32 ((maskN (clampN n) : Nat) : Int)) ∧ w = w' := by
  go_enter Tryd.func29, Tryd.ntmps29
  go_wp2_with fail
  refine (mask_any n _ h1 h2).mono ?_
  rintro e w1 ⟨rfl, rfl⟩
  go_wp2
  go_ret
  exact ⟨rfl, rfl⟩

set_option maxHeartbeats 400000 in
theorem bit_in (a n : Nat) (ha : a < 4294967296) (h : n ≤ 31) (w : World) : Calls Tryd.prog 33 #[.int .u32 a, .int .i64 n] w fun e w' => e = .returned (.int .i64 ((bitN a n : Nat) : Int)) ∧ w = w' := by
  have hf := hide (bit_walk a n ha)
  go_enter Tryd.func33, Tryd.ntmps33
  go_wp2
  go_ret
  refine ⟨?_, rfl⟩
  rw [← hf.out]; rfl
set_option maxHeartbeats 400000 in
theorem bit_out (a n : Int) (h : n < 0 ∨ 31 < n) (w : World) : Calls Tryd.prog 33 #[.int .u32 a, .int .i64 n] w fun e w' => e = .returned (.int .i64 0) ∧ w = w' := by
  rcases h with h | h
  all_goals
    go_enter Tryd.func33, Tryd.ntmps33
    go_wp2
    go_ret
    exact ⟨rfl, rfl⟩

theorem half_pow (a j : Nat) : a / 2 ^ j / 2 = a / 2 ^ (j + 1) := by rw [Nat.div_div_eq_div_mul, Nat.pow_succ]

set_option maxHeartbeats 400000 in
theorem refBit_any (a i : Nat) (ha : a < 4294967296) (hi : i ≤ 31) (w : World) : Calls Tryd.prog 34 #[.int .u32 a, .int .i64 i] w fun e w' => e = .returned (.int .i64 ((bitN a i : Nat) : Int)) ∧ w = w' := by
  go_enter Tryd.func34, Tryd.ntmps34
  go_wp2
  go_loop [0, 5] (fun v k => ∃ j : Nat, i ≤ j ∧ j ≤ 31 ∧ k = .int .i64 j ∧ v = .int .u32 ((a / 2 ^ (31 - j) : Nat) : Int)) (fun _ k => (intOf k).toNat)
  case atStart => exact ⟨31, hi, Nat.le_refl _, rfl, by simp⟩
  case round =>
    obtain ⟨j, hj1, hj2, rfl, rfl⟩ := hrel
    obtain ⟨x, hx⟩ : ∃ x, a / 2 ^ (31 - j) = x := ⟨_, rfl⟩
    have hxl : x < 4294967296 := by rw [← hx]; exact Nat.lt_of_le_of_lt (Nat.div_le_self _ _) ha
    rw [hx]
    have HX := hide hx
    clear hx
    by_cases hlt : i < j
    · have hn := hide (show a / 2 ^ (31 - (j - 1)) = x / 2 by rw [← HX.out, half_pow]; congr 2; omega)
      go_wp2
      go_round
      case rel => exact ⟨j - 1, by omega, by omega, by go_num, by rw [hn.out]; go_num⟩
      case measure => simp [intOf]; omega
    · obtain rfl : i = j := by omega
      have hf := hide (show bitN a i = x % 2 by unfold bitN; rw [HX.out])
      go_wp2
      go_ret
      refine ⟨?_, rfl⟩
      rw [hf.out]; simp

set_option maxHeartbeats 400000 in
theorem refCut_num (a : Nat) (n : Int) (ha : a < 4294967296) (w : World) : Calls Tryd.prog 30 #[.int .u32 a, .int .i64 n] w fun e w' => e = .returned (.int .u32 ((cutN a (clampN n) : Nat) : Int)) ∧ w = w' := by
  obtain ⟨k, hk⟩ : ∃ k, clampN n = k := ⟨_, rfl⟩
  have hk32 : k ≤ 32 := by rw [← hk]; exact clampN_le n
  have hkn : ∀ i : Nat, i < 32 → ((i : Int) < n ↔ i < k) := fun i hi => by rw [← hk]; unfold clampN; split <;> (try split) <;> omega
  rw [hk]
  have HK := hide hkn
  clear hk hkn
  go_enter Tryd.func30, Tryd.ntmps30
  go_wp2
  go_loop [5, 6] (fun v j => ∃ i : Nat, i ≤ 32 ∧ j = .int .i64 i ∧ v = .int .u32 ((topI a k i : Nat) : Int)) (fun _ j => 32 - (intOf j).toNat)
  case atStart => exact ⟨0, by omega, rfl, by rw [topI_0 a k ha]; rfl⟩
  case round =>
    obtain ⟨i, hi, rfl, rfl⟩ := hrel
    obtain ⟨x, hx⟩ : ∃ x, topI a k i = x := ⟨_, rfl⟩
    by_cases hlt : i < 32
    · have hxl : x < 2147483648 := by
        rw [← hx]; exact Nat.lt_of_lt_of_le (topI_lt a k i ha hi hk32) (by show 2 ^ i ≤ 2 ^ 31; exact Nat.pow_le_pow_right (by decide) (by omega))
      rw [hx]
      have HX := hide hx
      clear hx
      by_cases hik : i < k
      · have hin := (HK.out i hlt).2 hik
        have hs := hide (topI_in a k i hik hk32)
        obtain ⟨b, hb⟩ : ∃ b, bitN a i = b := ⟨_, rfl⟩
        have hb2 : b < 2 := by rw [← hb]; exact bitN_lt a i
        have HB := hide hb
        clear hb
        go_wp2_with fail
        refine (refBit_any a i ha (by omega) _).mono ?_
        rintro e w1 ⟨rfl, rfl⟩
        rw [HB.out]
        rcases (show b = 0 ∨ b = 1 by omega) with h0 | h0
        all_goals
          subst h0
          go_wp2
          go_round
          case rel => exact ⟨i + 1, by omega, by go_num, by rw [hs.out, HX.out, HB.out]; go_num⟩
          case measure => simp [intOf]; omega
      · have hnin : ¬ (i : Int) < n := fun h => hik ((HK.out i hlt).1 h)
        have hnin2 : n ≤ (i : Int) := by omega
        have hs := hide (topI_out a k i (by omega))
        go_wp2
        go_round
        case rel => exact ⟨i + 1, by omega, by go_num, by rw [hs.out, HX.out]; go_num⟩
        case measure => simp [intOf]; omega
    · obtain rfl : i = 32 := by omega
      have hf := hide (topI_32 a k hk32)
      rw [hf.out]
      go_wp2
      go_ret
      exact ⟨rfl, rfl⟩
end Go.Proofs.YtiibglkiakhfgaaDoor
