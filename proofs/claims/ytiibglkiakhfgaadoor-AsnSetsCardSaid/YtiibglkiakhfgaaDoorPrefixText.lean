import Derived.Test.YtiibglkiakhfgaaDoorCommWalk
import Derived.Test.YtiibglkiakhfgaaDoorPrefixGood
import Derived.Test.YtiibglkiakhfgaaDoorShJoin
set_option linter.unusedSimpArgs false
set_option linter.unusedVariables false
namespace Go.Proofs.YtiibglkiakhfgaaDoor
open Go.RowKit
def octN (a i : Nat) : Nat := a / 256 ^ (3 - i) % 256
def octS (a k i : Nat) : Value := .string (if i < k then str (Lib.decDigits (octN a i)) else ⟨#[]⟩)
def octs (a k : Nat) : Array Value := #[octS a k 0, octS a k 1, octS a k 2, octS a k 3]
def addrL (a : Nat) : List UInt8 := Lib.decDigits (octN a 0) ++ [46] ++ Lib.decDigits (octN a 1) ++ [46] ++ Lib.decDigits (octN a 2) ++ [46] ++ Lib.decDigits (octN a 3)
theorem octN_lt (a i : Nat) : octN a i < 256 := Nat.mod_lt _ (by decide)
theorem oct_len (a i : Nat) : (Lib.decDigits (octN a i)).length ≤ 3 := dec_len _ 2 (by have := octN_lt a i; omega)
theorem addrL_len (a : Nat) : (addrL a).length ≤ 15 := by
  have h0 := oct_len a 0; have h1 := oct_len a 1; have h2 := oct_len a 2; have h3 := oct_len a 3
  simp [addrL]; omega
theorem oct_walk (a s : Nat) (ha : a < 4294967296) : bits .and .u32 ((a : Int) / ((2 ^ s : Nat) : Int)) 255 = ((a / 2 ^ s % 256 : Nat) : Int) := by
  have e : (a : Int) / ((2 ^ s : Nat) : Int) = ((a / 2 ^ s : Nat) : Int) := by simp
  have h1 : a / 2 ^ s < 4294967296 := Nat.lt_of_le_of_lt (Nat.div_le_self _ _) ha
  rw [e, show (255 : Int) = ((255 : Nat) : Int) from rfl, u32_and_nat _ _ h1 (by decide), show (255 : Nat) = 2 ^ 8 - 1 from rfl, Nat.and_two_pow_sub_one_eq_mod]
theorem blk_read {w : World} {g : Nat} {t : TypeId} {cs : Array Value} (h : Blk w g t cs) {i : Nat} {v : Value} (hv : cs[i]? = some v) : w.cell? ⟨g, i, none⟩ = some v := (h.cell i).trans hv

theorem oct_arg0 (a : Nat) (ha : a < 4294967296) : RowKit.wrap64 (bits .and .u32 ((a : Int) / 16777216) 255) = ((octN a 0 : Nat) : Int) := by
  have := oct_walk a 24 ha
  rw [show ((2 ^ 24 : Nat) : Int) = 16777216 from rfl] at this
  rw [this]; have := octN_lt a 0; unfold octN RowKit.wrap64 at *; omega
theorem oct_arg1 (a : Nat) (ha : a < 4294967296) : RowKit.wrap64 (bits .and .u32 ((a : Int) / 65536) 255) = ((octN a 1 : Nat) : Int) := by
  have := oct_walk a 16 ha
  rw [show ((2 ^ 16 : Nat) : Int) = 65536 from rfl] at this
  rw [this]; have := octN_lt a 1; unfold octN RowKit.wrap64 at *; omega
theorem oct_arg2 (a : Nat) (ha : a < 4294967296) : RowKit.wrap64 (bits .and .u32 ((a : Int) / 256) 255) = ((octN a 2 : Nat) : Int) := by
  have := oct_walk a 8 ha
  rw [show ((2 ^ 8 : Nat) : Int) = 256 from rfl] at this
  rw [this]; have := octN_lt a 2; unfold octN RowKit.wrap64 at *; omega
theorem oct_arg3 (a : Nat) (ha : a < 4294967296) : RowKit.wrap64 (bits .and .u32 (a : Int) 255) = ((octN a 3 : Nat) : Int) := by
  have := oct_walk a 0 ha
  rw [show ((2 ^ 0 : Nat) : Int) = 1 from rfl, Int.ediv_one] at this
  rw [this]; have := octN_lt a 3; unfold octN RowKit.wrap64 at *; omega

theorem makeStr4 (w : World) : (Instr.makeSlice 70 (.int .i64 4) (.int .i64 4)).run Tryd.prog w = .ok (.slice (some ⟨w.heap.size, 0, none⟩) 4 4) (w.alloc (.cells #[.string ⟨#[]⟩, .string ⟨#[]⟩, .string ⟨#[]⟩, .string ⟨#[]⟩] 9)) := by kernel_rfl

set_option maxHeartbeats 1000000 in
theorem addr_any (a : Nat) (ha : a < 4294967296) (w : World) (ht : Tab w) :
    Calls Tryd.prog 123 #[.int .u32 a] w fun e w' => e = .returned (.string (str (addrL a))) ∧ Below w.heap.size w w' := by
  have hmk := makeStr4
  go_enter Tryd.func123, Tryd.ntmps123
  go_wp2
  go_loopw [8] (fun i wr => ∃ k : Nat, k ≤ 4 ∧ i = .int .i64 k ∧ Blk wr w.heap.size 9 (octs a k) ∧ Below w.heap.size w wr) (fun i _ => 4 - (intOf i).toNat)
  case atStart => exact ⟨0, by omega, rfl, Blk.new w _ _, (Below.refl _ _).alloc (Nat.le_refl _) _⟩
  case round =>
    obtain ⟨k, hk, rfl, hB, hbel⟩ := hrel
    have hz : w.heap.size < wr.heap.size := hB.lt
    have htr : Tab wr := ht.below hbel
    by_cases hlt : k < 4
    · rcases (show k = 0 ∨ k = 1 ∨ k = 2 ∨ k = 3 by omega) with h0 | h0 | h0 | h0
      · subst h0
        have he := hide (oct_arg0 a ha)
        have h256 := octN_lt a 0
        go_wp2_with fail
        rw [he.out]
        refine (itoa_any (octN a 0) (by omega) _ htr).mono ?_
        rintro e w1 ⟨rfl, hb1⟩
        have hB1 := hB.below hb1 hz
        have hfz := hB1.frozen 0
        have hcl := hide (hB1.cell 0)
        have hin : w1.cell? ⟨w.heap.size, 0, none⟩ = some (.string ⟨#[]⟩) := hcl.out
        go_wp2
        go_round
        case rel => exact ⟨1, by omega, by go_num, hB1.set_ 0 _, (hbel.trans (hb1.mono (by omega))).setCell (Nat.le_refl _) _⟩
        case measure => simp [intOf]
      · subst h0
        have he := hide (oct_arg1 a ha)
        have h256 := octN_lt a 1
        go_wp2_with fail
        rw [he.out]
        refine (itoa_any (octN a 1) (by omega) _ htr).mono ?_
        rintro e w1 ⟨rfl, hb1⟩
        have hB1 := hB.below hb1 hz
        have hfz := hB1.frozen 1
        have hcl := hide (hB1.cell 1)
        have hin : w1.cell? ⟨w.heap.size, 1, none⟩ = some (.string ⟨#[]⟩) := hcl.out
        go_wp2
        go_round
        case rel => exact ⟨2, by omega, by go_num, hB1.set_ 1 _, (hbel.trans (hb1.mono (by omega))).setCell (Nat.le_refl _) _⟩
        case measure => simp [intOf]
      · subst h0
        have he := hide (oct_arg2 a ha)
        have h256 := octN_lt a 2
        go_wp2_with fail
        rw [he.out]
        refine (itoa_any (octN a 2) (by omega) _ htr).mono ?_
        rintro e w1 ⟨rfl, hb1⟩
        have hB1 := hB.below hb1 hz
        have hfz := hB1.frozen 2
        have hcl := hide (hB1.cell 2)
        have hin : w1.cell? ⟨w.heap.size, 2, none⟩ = some (.string ⟨#[]⟩) := hcl.out
        go_wp2
        go_round
        case rel => exact ⟨3, by omega, by go_num, hB1.set_ 2 _, (hbel.trans (hb1.mono (by omega))).setCell (Nat.le_refl _) _⟩
        case measure => simp [intOf]
      · subst h0
        have he := hide (oct_arg3 a ha)
        have h256 := octN_lt a 3
        go_wp2_with fail
        rw [he.out]
        refine (itoa_any (octN a 3) (by omega) _ htr).mono ?_
        rintro e w1 ⟨rfl, hb1⟩
        have hB1 := hB.below hb1 hz
        have hfz := hB1.frozen 3
        have hcl := hide (hB1.cell 3)
        have hin : w1.cell? ⟨w.heap.size, 3, none⟩ = some (.string ⟨#[]⟩) := hcl.out
        go_wp2
        go_round
        case rel => exact ⟨4, by omega, by go_num, hB1.set_ 3 _, (hbel.trans (hb1.mono (by omega))).setCell (Nat.le_refl _) _⟩
        case measure => simp [intOf]
    · obtain rfl : k = 4 := by omega
      have l0 := oct_len a 0
      have l1 := oct_len a 1
      have l2 := oct_len a 2
      have l3 := oct_len a 3
      have c0 := hide (show wr.cell? ⟨w.heap.size, 0, none⟩ = some (.string (str (Lib.decDigits (octN a 0)))) from blk_read hB (i := 0) rfl)
      have c1 := hide (show wr.cell? ⟨w.heap.size, 1, none⟩ = some (.string (str (Lib.decDigits (octN a 1)))) from blk_read hB (i := 1) rfl)
      have c2 := hide (show wr.cell? ⟨w.heap.size, 2, none⟩ = some (.string (str (Lib.decDigits (octN a 2)))) from blk_read hB (i := 2) rfl)
      have c3 := hide (show wr.cell? ⟨w.heap.size, 3, none⟩ = some (.string (str (Lib.decDigits (octN a 3)))) from blk_read hB (i := 3) rfl)
      have HJ := hide (Tryd.strings_Join w.heap.size 0 4 [str (Lib.decDigits (octN a 0)), str (Lib.decDigits (octN a 1)), str (Lib.decDigits (octN a 2)), str (Lib.decDigits (octN a 3))] ⟨#[46]⟩ wr
        (by
          intro j x hj
          rcases (show j = 0 ∨ j = 1 ∨ j = 2 ∨ j = 3 ∨ 4 ≤ j by omega) with h | h | h | h | h
          · subst h; obtain rfl := Option.some.inj hj; simpa using c0.out
          · subst h; obtain rfl := Option.some.inj hj; simpa using c1.out
          · subst h; obtain rfl := Option.some.inj hj; simpa using c2.out
          · subst h; obtain rfl := Option.some.inj hj; simpa using c3.out
          · rw [List.getElem?_eq_none (by simpa using h)] at hj; cases hj)
        hz (by simp) (by simp) (by simp [Lib.join, str_data]; omega))
      go_wp2_with fail
      refine HJ.out.mono ?_
      rintro e w1 ⟨rfl, hb1⟩
      go_wp2
      go_ret
      refine ⟨?_, hbel.trans (hb1.mono (by omega))⟩
      refine ret_str ?_
      show str _ = str _
      congr 1
      simp [Lib.join, str_data, addrL]
def textL (a : Nat) (n : Int) : List UInt8 := if goodB a n then addrL a ++ [47] ++ Lib.decDigits n.toNat else []

set_option maxHeartbeats 1000000 in
theorem ptext_any (a : Nat) (n : Int) (ha : a < 4294967296) (h1 : -9223372036854775808 ≤ n) (h2 : n ≤ 9223372036854775807) (w : World) (ht : Tab w) :
    Calls Tryd.prog 122 #[pfx a n] w fun e w' => e = .returned (.string (str (textL a n))) ∧ Below w.heap.size w w' := by
  have hgd := good_any a n ha h1 h2
  unfold pfx at hgd ⊢
  have HG := hide hgd
  clear hgd
  have k0 := fun x => cell?_far (W := w.alloc (.cells #[.int .u32 (a : Int), .int .i64 n] 46)) x (p := ⟨w.heap.size, 0, none⟩) (v := .int .u32 (a : Int)) (by simp)
  have k1 := fun x => cell?_far (W := w.alloc (.cells #[.int .u32 (a : Int), .int .i64 n] 46)) x (p := ⟨w.heap.size, 1, none⟩) (v := .int .i64 n) (by simp)
  cases hg : goodB a n
  · have hf := hide (show textL a n = [] by simp [textL, hg])
    rw [hg] at HG
    clear hg
    go_enter Tryd.func122, Tryd.ntmps122
    go_wp2_with fail
    refine (HG.out _).mono ?_
    rintro e w1 ⟨rfl, hb1⟩
    obtain ⟨x1, rfl⟩ := far_of_below hb1
    go_wp2
    go_ret
    rw [hf.out]
    exact ⟨rfl, below_box _ _ _⟩
  · have hf := hide (show textL a n = addrL a ++ [47] ++ Lib.decDigits n.toNat by simp [textL, hg])
    rw [hg] at HG
    have hn : 0 ≤ n ∧ n ≤ 32 := by simp [goodB] at hg; omega
    obtain ⟨k, rfl⟩ := Int.eq_ofNat_of_zero_le hn.1
    have hk : k ≤ 32 := by omega
    have l1 := addrL_len a
    have l2 : (Lib.decDigits k).length ≤ 2 := dec_len _ 1 (by omega)
    clear hg hn
    have s1 : (str (addrL a)).size ≤ 15 := by rw [str_size]; exact l1
    have s2 : (str (Lib.decDigits k)).size ≤ 2 := by rw [str_size]; exact l2
    go_enter Tryd.func122, Tryd.ntmps122
    go_wp2_with fail
    refine (HG.out _).mono ?_
    rintro e w1 ⟨rfl, hb1⟩
    have ht1 : Tab w1 := ht.below (((Below.refl _ w).alloc (Nat.le_refl _) _).trans (hb1.mono (by simp)))
    have hbw : Below w.heap.size w w1 := ((Below.refl _ w).alloc (Nat.le_refl _) _).trans (hb1.mono (by simp))
    obtain ⟨x1, rfl⟩ := far_of_below hb1
    have m0 := fun y => cell?_far y (k0 x1)
    have m1 := fun y => cell?_far y (k1 x1)
    have hT : ∀ y, Tab (far (far (w.alloc (.cells #[.int .u32 (a : Int), .int .i64 (k : Int)] 46)) x1) y) := fun y => ht1.below (below_far _ _)
    have HT := hide hT
    clear hT
    go_wp2
    refine wp_region_far (by kernel_rfl) (by kernel_rfl) ?_
    repeat (go_big_quiet_step ((first | (go_at_call 123; exact far_call (addr_any a ha _ (HT.out _))) | (go_at_call 106; exact far_call (itoa_any k (by omega) _ (HT.out _))))))
    refine wpQuiet_nil ?_
    rintro _ ⟨nq, rfl⟩
    go_wp2
    go_ret
    refine ⟨?_, hbw.trans ((below_far _ _).mono hbw.size)⟩
    rw [hf.out]
    refine ret_str ?_
    show str (addrL a) ++ str [47] ++ str (Lib.decDigits k) = _
    rw [cat_str, cat_str]
    simp

set_option maxHeartbeats 400000 in
theorem PText_any (a : Nat) (n : Int) (ha : a < 4294967296) (h1 : -9223372036854775808 ≤ n) (h2 : n ≤ 9223372036854775807) (w : World) (ht : Tab w) :
    Calls Tryd.prog 73 #[pfx a n] w fun e w' => e = .returned (.string (str (textL a n))) ∧ Below w.heap.size w w' := by
  have HX := hide (ptext_any a n ha h1 h2)
  unfold pfx at HX ⊢
  go_enter Tryd.func73, Tryd.ntmps73
  go_wp2_with fail
  refine (HX.out _ (ht.below ((Below.refl _ w).alloc (Nat.le_refl _) _))).mono ?_
  rintro e w1 ⟨rfl, hb1⟩
  rw [World.size_alloc] at hb1
  go_wp2
  go_ret
  exact ⟨rfl, ((Below.refl _ w).alloc (Nat.le_refl _) _).trans (hb1.mono (by omega))⟩

set_option maxHeartbeats 400000 in
theorem Make_in (a k : Nat) (ha : a < 4294967296) (hk : k ≤ 32) (w : World) :
    Calls Tryd.prog 28 #[.int .u32 a, .int .i64 k] w fun e w' => e = .returned (.tuple #[pfx (cutN a k) k, .int .i64 0]) ∧ Below w.heap.size w w' := by
  unfold pfx
  have hf := hide (show bits .and .u32 (a : Int) ((maskN k : Nat) : Int) = ((cutN a k : Nat) : Int) by rw [u32_and_nat _ _ ha (maskN_lt k), and_mask a k ha hk])
  go_enter Tryd.func28, Tryd.ntmps28
  go_wp2_with fail
  refine (mask_in k hk _).mono ?_
  rintro e w1 ⟨rfl, rfl⟩
  go_wp2
  refine bodyPost_ret (v := .tuple #[.agg #[.int .u32 (bits .and .u32 (a : Int) ((maskN k : Nat) : Int)), .int .i64 (k : Int)], .int .i64 0]) (by simp [results, Tryd.results28, go_sem]) rfl ⟨by rw [hf.out], ?_⟩
  repeat (first | exact Below.refl _ _ | refine Below.setCell ?_ (by simp) _ | refine Below.alloc ?_ (by simp) _)
set_option maxHeartbeats 400000 in
theorem Make_out (a : Nat) (n : Int) (ha : a < 4294967296) (hn : n < 0 ∨ 32 < n) (w : World) :
    Calls Tryd.prog 28 #[.int .u32 a, .int .i64 n] w fun e w' => e = .returned (.tuple #[pfx 0 0, .int .i64 1]) ∧ Below w.heap.size w w' := by
  unfold pfx
  go_enter Tryd.func28, Tryd.ntmps28
  go_wp2
  all_goals
    refine bodyPost_ret (v := .tuple #[.agg #[.int .u32 0, .int .i64 0], .int .i64 1]) (by simp [results, Tryd.results28, go_sem]) rfl ⟨rfl, ?_⟩
    repeat (first | exact Below.refl _ _ | refine Below.setCell ?_ (by simp) _ | refine Below.alloc ?_ (by simp) _)

theorem lives_text : str (textL 167772160 8) = ⟨#[49, 48, 46, 48, 46, 48, 46, 48, 47, 56]⟩ := by decide +kernel

set_option maxHeartbeats 1000000 in
theorem plives_any (w : World) (ht : Tab w) : Calls Tryd.prog 35 #[] w (GoodP true w) := by
  have hm := hide (Make_in 167772415 8 (by decide) (by decide))
  have hx := hide (PText_any 167772160 8 (by decide) (by decide) (by decide))
  have hh := hide (Has_any 167772160 8 184549375 (by decide) (by decide) (by decide) (by decide))
  have hk := hide (fun w => Mask_any 8 w (by decide) (by decide))
  have hq : cutN 167772415 8 = 167772160 := by decide
  have hq2 : hasB 167772160 8 184549375 = true := by decide
  have hq3 : maskN (clampN 8) = 4278190080 := by decide
  go_enter Tryd.func35, Tryd.ntmps35
  go_wp2_with fail
  refine (hm.out _).mono ?_
  rintro e w1 ⟨rfl, hb1⟩
  rw [hq]
  unfold pfx at *
  have ht1 : Tab w1 := ht.below hb1
  go_wp2_with fail
  refine (hx.out _ (ht1.below ((Below.refl _ w1).alloc (Nat.le_refl _) _))).mono ?_
  rintro e w2 ⟨rfl, hb2⟩
  obtain ⟨x2, rfl⟩ := far_of_below hb2
  have k0 := fun x => cell?_far (W := w1.alloc (.cells #[.int .u32 167772160, .int .i64 8] 46)) x (p := ⟨w1.heap.size, 0, none⟩) (v := .int .u32 167772160) (by simp)
  have k1 := fun x => cell?_far (W := w1.alloc (.cells #[.int .u32 167772160, .int .i64 8] 46)) x (p := ⟨w1.heap.size, 1, none⟩) (v := .int .i64 8) (by simp)
  rw [lives_text]
  go_wp2_with fail
  refine (hh.out _).mono ?_
  rw [hq2]
  rintro e w3 ⟨rfl, hb3⟩
  obtain ⟨x3, rfl⟩ := far_below hb3
  go_wp2_with fail
  refine (hk.out _).mono ?_
  rw [hq3]
  rintro e w4 ⟨rfl, rfl⟩
  go_wp2
  go_ret
  exact ⟨rfl, hb1.trans ((below_box w1 _ _).mono hb1.size)⟩
end Go.Proofs.YtiibglkiakhfgaaDoor
