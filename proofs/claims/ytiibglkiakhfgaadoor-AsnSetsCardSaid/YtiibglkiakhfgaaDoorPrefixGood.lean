import Derived.Test.YtiibglkiakhfgaaDoorPrefixWalk
import Derived.Test.YtiibglkiakhfgaaDoorFar
set_option linter.unusedSimpArgs false
set_option linter.unusedVariables false
namespace Go.Proofs.YtiibglkiakhfgaaDoor
open Go.RowKit
theorem goodB_range {a : Nat} {n : Int} (h1 : 0 ≤ n) (h2 : n ≤ 32) : goodB a n = (cutN a n.toNat == a) := by simp [goodB, h1, h2]

/-- What a call that only computes leaves: new blocks, nothing else. -/
def GoodP (b : Bool) (w : World) (e : Ending) (w' : World) : Prop := e = .returned (.bool b) ∧ Below w.heap.size w w'

theorem good_test (a k : Nat) (ha : a < 4294967296) (hk : k ≤ 32) : (bits .andNot .u32 (a : Int) ((maskN k : Nat) : Int) == 0) = (cutN a k == a) := by
  rw [u32_andNot_nat _ _ ha (maskN_lt k), andNot_mask a k hk, Bool.eq_iff_iff]
  have := cutN_fix a k
  generalize a % 2 ^ (32 - k) = r at *
  generalize cutN a k = c at *
  simp; omega
theorem mask_in (k : Nat) (hk : k ≤ 32) (w : World) : Calls Tryd.prog 91 #[.int .i64 k] w fun e w' => e = .returned (.int .u32 ((maskN k : Nat) : Int)) ∧ w = w' := by
  have := mask_any (k : Int) w (by omega) (by omega)
  rwa [clampN_of hk] at this

set_option maxHeartbeats 400000 in
theorem good_any (a : Nat) (n : Int) (ha : a < 4294967296) (h1 : -9223372036854775808 ≤ n) (h2 : n ≤ 9223372036854775807) (w : World) :
    Calls Tryd.prog 92 #[pfx a n] w (GoodP (goodB a n) w) := by
  unfold pfx
  by_cases hn : 0 ≤ n
  · by_cases hm : n ≤ 32
    · obtain ⟨k, rfl⟩ := Int.eq_ofNat_of_zero_le hn
      have hk : k ≤ 32 := by omega
      have hf := hide (show goodB a (k : Int) = (bits .andNot .u32 (a : Int) ((maskN k : Nat) : Int) == 0) by rw [goodB_range hn hm, good_test a k ha hk]; simp)
      go_enter Tryd.func92, Tryd.ntmps92
      go_wp2
      go_quiet ((go_at_call 91; exact quiet_left (mask_in k hk _)))
      go_wp2
      go_ret
      refine ⟨?_, below_drewN ((Below.refl _ _).alloc (Nat.le_refl _) _) _⟩
      rw [hf.out]; rfl
    · have hf := hide (show goodB a n = false by simp [goodB, hm])
      have hd : decide (n ≤ 32) = false := by simp; omega
      go_enter Tryd.func92, Tryd.ntmps92
      go_wp2
      go_quiet (fail)
      go_wp2
      go_ret
      rw [hf.out]
      exact ⟨rfl, below_drewN ((Below.refl _ _).alloc (Nat.le_refl _) _) _⟩
  · have hf := hide (show goodB a n = false by simp [goodB, hn])
    have hd : decide (0 ≤ n) = false := by simp; omega
    go_enter Tryd.func92, Tryd.ntmps92
    go_wp2
    go_quiet (fail)
    go_wp2
    go_ret
    rw [hf.out]
    exact ⟨rfl, below_drewN ((Below.refl _ _).alloc (Nat.le_refl _) _) _⟩
set_option maxHeartbeats 400000 in
theorem Good_any (a : Nat) (n : Int) (ha : a < 4294967296) (h1 : -9223372036854775808 ≤ n) (h2 : n ≤ 9223372036854775807) (w : World) :
    Calls Tryd.prog 31 #[pfx a n] w (GoodP (goodB a n) w) := by
  unfold pfx
  go_enter Tryd.func31, Tryd.ntmps31
  go_wp2_with fail
  refine (good_any a n ha h1 h2 _).mono ?_
  rintro e w1 ⟨rfl, hb1⟩
  rw [World.size_alloc] at hb1
  go_wp2
  go_ret
  exact ⟨rfl, ((Below.refl _ w).alloc (Nat.le_refl _) _).trans (hb1.mono (by omega))⟩

set_option maxHeartbeats 400000 in
theorem refGood_any (a : Nat) (n : Int) (ha : a < 4294967296) (w : World) :
    Calls Tryd.prog 32 #[pfx a n] w (GoodP (goodB a n) w) := by
  unfold pfx
  by_cases hn : 0 ≤ n
  · by_cases hm : n ≤ 32
    · have hf := hide (show goodB a n = (((cutN a (clampN n) : Nat) : Int) == (a : Int)) by
        rw [goodB_range hn hm]
        have : clampN n = n.toNat := by unfold clampN; rw [if_neg (by omega), if_neg (by omega)]
        rw [this, Bool.eq_iff_iff]; simp; omega)
      go_enter Tryd.func32, Tryd.ntmps32
      go_wp2
      go_quiet ((go_at_call 30; exact quiet_left (refCut_num a n ha _)))
      go_wp2
      go_ret
      refine ⟨?_, below_drewN ((Below.refl _ _).alloc (Nat.le_refl _) _) _⟩
      rw [hf.out]; rfl
    · have hf := hide (show goodB a n = false by simp [goodB, hm])
      have hd : decide (n ≤ 32) = false := by simp; omega
      go_enter Tryd.func32, Tryd.ntmps32
      go_wp2
      go_quiet (fail)
      go_wp2
      go_ret
      rw [hf.out]
      exact ⟨rfl, below_drewN ((Below.refl _ _).alloc (Nat.le_refl _) _) _⟩
  · have hf := hide (show goodB a n = false by simp [goodB, hn])
    have hd : decide (0 ≤ n) = false := by simp; omega
    go_enter Tryd.func32, Tryd.ntmps32
    go_wp2
    go_quiet (fail)
    go_wp2
    go_ret
    rw [hf.out]
    exact ⟨rfl, below_drewN ((Below.refl _ _).alloc (Nat.le_refl _) _) _⟩

def hasB (a : Nat) (n : Int) (x : Nat) : Bool := goodB a n && (cutN x n.toNat == a)

set_option maxHeartbeats 1000000 in
theorem has_any (a : Nat) (n : Int) (x : Nat) (ha : a < 4294967296) (hx : x < 4294967296) (h1 : -9223372036854775808 ≤ n) (h2 : n ≤ 9223372036854775807) (w : World) :
    Calls Tryd.prog 97 #[pfx a n, .int .u32 x] w (GoodP (hasB a n x) w) := by
  have hgd := good_any a n ha h1 h2
  unfold pfx at hgd ⊢
  have HG := hide hgd
  clear hgd
  have k0 := fun x => cell?_far (W := w.alloc (.cells #[.int .u32 (a : Int), .int .i64 n] 46)) x (p := ⟨w.heap.size, 0, none⟩) (v := .int .u32 (a : Int)) (by simp)
  have k1 := fun x => cell?_far (W := w.alloc (.cells #[.int .u32 (a : Int), .int .i64 n] 46)) x (p := ⟨w.heap.size, 1, none⟩) (v := .int .i64 n) (by simp)
  cases hg : goodB a n
  · have hf := hide (show hasB a n x = false by simp [hasB, hg])
    rw [hg] at HG
    clear hg
    go_enter Tryd.func97, Tryd.ntmps97
    go_wp2
    refine wp_region_far (by kernel_rfl) (by kernel_rfl) ?_
    repeat (go_big_quiet_step ((first | (go_at_call 92; exact far_call (HG.out _)))))
    refine wpQuiet_nil ?_
    rintro _ ⟨nq, rfl⟩
    go_wp2
    go_ret
    rw [hf.out]
    exact ⟨rfl, ((Below.refl _ w).alloc (Nat.le_refl _) _).trans ((below_far _ _).mono (by simp))⟩
  · have hf := hide (show hasB a n x = (cutN x n.toNat == a) by simp [hasB, hg])
    rw [hg] at HG
    have hn : 0 ≤ n ∧ n ≤ 32 := by simp [goodB] at hg; omega
    obtain ⟨k, rfl⟩ := Int.eq_ofNat_of_zero_le hn.1
    have hk : k ≤ 32 := by omega
    clear hg hn
    go_enter Tryd.func97, Tryd.ntmps97
    go_wp2
    refine wp_region_far (by kernel_rfl) (by kernel_rfl) ?_
    repeat (go_big_quiet_step ((first | (go_at_call 92; exact far_call (HG.out _)) | (go_at_call 91; exact far_same (mask_in k hk _)))))
    refine wpQuiet_nil ?_
    rintro _ ⟨nq, rfl⟩
    go_wp2
    go_ret
    refine ⟨?_, ((Below.refl _ w).alloc (Nat.le_refl _) _).trans ((below_far _ _).mono (by simp))⟩
    rw [hf.out]
    show Ending.returned (.bool (bits .and .u32 (x : Int) ((maskN k : Nat) : Int) == (a : Int))) = _
    rw [u32_and_nat _ _ hx (maskN_lt k), and_mask x k hx hk]
    refine ret_bool ?_
    rw [Bool.eq_iff_iff]; simp; omega

set_option maxHeartbeats 400000 in
theorem Has_any (a : Nat) (n : Int) (x : Nat) (ha : a < 4294967296) (hx : x < 4294967296) (h1 : -9223372036854775808 ≤ n) (h2 : n ≤ 9223372036854775807) (w : World) :
    Calls Tryd.prog 40 #[pfx a n, .int .u32 x] w (GoodP (hasB a n x) w) := by
  unfold pfx
  go_enter Tryd.func40, Tryd.ntmps40
  go_wp2_with fail
  refine (has_any a n x ha hx h1 h2 _).mono ?_
  rintro e w1 ⟨rfl, hb1⟩
  rw [World.size_alloc] at hb1
  go_wp2
  go_ret
  exact ⟨rfl, ((Below.refl _ w).alloc (Nat.le_refl _) _).trans (hb1.mono (by omega))⟩

/-- Two boxes: what lies in them, however the world has gone on. -/
theorem boxes (w : World) (c0 c1 d0 d1 : Value) (t u : TypeId) :
    (∀ x, (far ((w.alloc (.cells #[c0, c1] t)).alloc (.cells #[d0, d1] u)) x).cell? ⟨w.heap.size, 0, none⟩ = some c0) ∧ (∀ x, (far ((w.alloc (.cells #[c0, c1] t)).alloc (.cells #[d0, d1] u)) x).cell? ⟨w.heap.size, 1, none⟩ = some c1) ∧
    (∀ x, (far ((w.alloc (.cells #[c0, c1] t)).alloc (.cells #[d0, d1] u)) x).cell? ⟨w.heap.size + 1, 0, none⟩ = some d0) ∧ (∀ x, (far ((w.alloc (.cells #[c0, c1] t)).alloc (.cells #[d0, d1] u)) x).cell? ⟨w.heap.size + 1, 1, none⟩ = some d1) :=
  ⟨fun x => cell?_far x (by simp), fun x => cell?_far x (by simp), fun x => cell?_far x (by simp), fun x => cell?_far x (by simp)⟩
theorem below_boxes (w : World) (o o' : Obj) (x : World) : Below w.heap.size w (far ((w.alloc o).alloc o') x) :=
  (((Below.refl _ w).alloc (Nat.le_refl _) _).alloc (by simp) _).trans ((below_far _ _).mono (by simp; omega))
theorem below_box (w : World) (o : Obj) (x : World) : Below w.heap.size w (far (w.alloc o) x) :=
  ((Below.refl _ w).alloc (Nat.le_refl _) _).trans ((below_far _ _).mono (by simp))

def covB (a : Nat) (n : Int) (b : Nat) (m : Int) : Bool := goodB b m && decide (n ≤ m) && hasB a n b

set_option maxHeartbeats 1000000 in
theorem covers_any (a : Nat) (n : Int) (b : Nat) (m : Int) (ha : a < 4294967296) (hb : b < 4294967296) (h1 : -9223372036854775808 ≤ n) (h2 : n ≤ 9223372036854775807) (h3 : -9223372036854775808 ≤ m) (h4 : m ≤ 9223372036854775807) (w : World) :
    Calls Tryd.prog 93 #[pfx a n, pfx b m] w (GoodP (covB a n b m) w) := by
  have hg1 := good_any b m hb h3 h4
  have hh1 := has_any a n b ha hb h1 h2
  unfold pfx at hg1 hh1 ⊢
  have HG := hide hg1
  have HH := hide hh1
  obtain ⟨k0, k1, k2, k3⟩ := boxes w (.int .u32 (a : Int)) (.int .i64 n) (.int .u32 (b : Int)) (.int .i64 m) 46 46
  obtain ⟨g, hg⟩ : ∃ g, goodB b m = g := ⟨_, rfl⟩
  obtain ⟨h, hh⟩ : ∃ h, hasB a n b = h := ⟨_, rfl⟩
  have hf := hide (show covB a n b m = (g && decide (n ≤ m) && h) by unfold covB; rw [hg, hh])
  rw [hg] at HG
  rw [hh] at HH
  clear hg hh hg1 hh1
  cases g
  · go_enter Tryd.func93, Tryd.ntmps93
    go_wp2_with fail
    refine (HG.out _).mono ?_
    rintro e w1 ⟨rfl, hb1⟩
    obtain ⟨x1, rfl⟩ := far_of_below hb1
    go_wp2
    go_ret
    rw [hf.out]
    exact ⟨rfl, below_boxes _ _ _ _⟩
  · by_cases hnm : n ≤ m
    · go_enter Tryd.func93, Tryd.ntmps93
      go_wp2_with fail
      refine (HG.out _).mono ?_
      rintro e w1 ⟨rfl, hb1⟩
      obtain ⟨x1, rfl⟩ := far_of_below hb1
      go_wp2_with fail
      refine (HH.out _).mono ?_
      rintro e w1 ⟨rfl, hb2⟩
      obtain ⟨x2, rfl⟩ := far_below hb2
      go_wp2
      go_ret
      refine ⟨?_, below_boxes _ _ _ _⟩
      rw [hf.out]
      simp [hnm]
    · have hd : decide (n ≤ m) = false := by simp; omega
      go_enter Tryd.func93, Tryd.ntmps93
      go_wp2_with fail
      refine (HG.out _).mono ?_
      rintro e w1 ⟨rfl, hb1⟩
      obtain ⟨x1, rfl⟩ := far_of_below hb1
      go_wp2
      go_ret
      refine ⟨?_, below_boxes _ _ _ _⟩
      rw [hf.out, hd]
      rfl
end Go.Proofs.YtiibglkiakhfgaaDoor
