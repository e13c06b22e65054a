import Derived.Test.YtiibglkiakhfgaaDoorPrefixCmp
set_option linter.unusedSimpArgs false
set_option linter.unusedVariables false
namespace Go.Proofs.YtiibglkiakhfgaaDoor
open Go.RowKit
theorem wp_region_far2 {P : Program} {id : Nat} {Q : Exit → Act → World → Prop} {a : Act} {W x0 : World} {l : List Oper} (hm : P.follows .mixedOrders = true) (hB : Region.lexB .any l.toArray = true)
    (h : wpQuiet P l.toArray (fun w' => ∃ x, w' = far W x) (fun a' => ∀ w', (∃ x, w' = far W x) → Q .normal a' w') l a) : (Code.region id l.toArray true).wp P Q a (far W x0) :=
  wp_region_quiet (C := fun w' => ∃ x, w' = far W x) hm hB ⟨{ x0 with drawn := x0.drawn + 1 }, by simp [far]⟩ (by simpa using h)
theorem below_cell {B : Nat} {w w' : World} {p : Addr} {v : Value} (h : Below B w w') (hp : p.block < B) (hv : w.cell? p = some v) : w'.cell? p = some v := (h.cell hp).trans hv


set_option maxRecDepth 100000 in
set_option maxHeartbeats 1000000 in
theorem prefixMakes_A (a : Nat) (n : Int) (b : Nat) (m : Int) (ha : a < 4294967296) (hb : b < 4294967296) (h1 : -9223372036854775808 ≤ n) (h2 : n ≤ 9223372036854775807) (h3 : -9223372036854775808 ≤ m) (h4 : m ≤ 9223372036854775807) (hn : n < 0) (w : World) (ht : Tab w) :
    Calls Tryd.prog 6 #[.int .u32 a, .int .i64 n, pfx b m] w (GoodP true w) := by
  have hn2 : ¬ n > 32 := by omega
  have hn3 : ¬ n > 31 := by omega
  have hcl : clampN n = 0 := by unfold clampN; rw [if_pos hn]
  have hmk := Make_out a n ha (Or.inl hn)
  have hbt := bit_out a n (Or.inl hn)
  have hms := fun w => Mask_any n w h1 h2
  have hct := refCut_num 4294967295 0 (by decide)
  have hg1 := Good_any b m hb h3 h4
  have hg2 := refGood_any b m hb
  have e1 : maskN (clampN n) = cutN 4294967295 (clampN (0 : Int)) := by rw [hcl]; rfl
  rw [e1] at hms
  generalize cutN 4294967295 (clampN (0 : Int)) = M at *
  generalize goodB b m = g at *
  unfold pfx at hmk hg1 hg2 ⊢
  have HM := hide hmk
  have HS := hide hms
  have HC := hide hct
  have HG := hide hg1
  have HR := hide hg2
  have HB := hide hbt
  clear hmk hms hct hg1 hg2 hbt e1 hcl
  go_enter Tryd.func6, Tryd.ntmps6
  go_wp2_with fail
  refine (HM.out _).mono ?_
  rintro e w1 ⟨rfl, hb1⟩
  have hbw : Below w.heap.size w w1 := ((Below.refl _ w).alloc (Nat.le_refl _) _).trans (hb1.mono (by simp))
  have hz : w.heap.size < w1.heap.size := Nat.lt_of_lt_of_le (by simp) hb1.size
  have c0 : w1.cell? ⟨w.heap.size, 0, none⟩ = some (.int .u32 (b : Int)) := below_cell hb1 (by simp) (by simp)
  have c1 : w1.cell? ⟨w.heap.size, 1, none⟩ = some (.int .i64 m) := below_cell hb1 (by simp) (by simp)
  have HT := hide (ht.below hbw)
  clear hb1
  have k0 := fun x => cell?_far (W := w1.alloc (.cells #[.int .u32 0, .int .i64 0] 46)) x (p := ⟨w.heap.size, 0, none⟩) (v := .int .u32 (b : Int)) (by rw [World.cell?_alloc_lt _ _ _ hz]; exact c0)
  have k1 := fun x => cell?_far (W := w1.alloc (.cells #[.int .u32 0, .int .i64 0] 46)) x (p := ⟨w.heap.size, 1, none⟩) (v := .int .i64 m) (by rw [World.cell?_alloc_lt _ _ _ hz]; exact c1)
  have k2 := fun x => cell?_far (W := w1.alloc (.cells #[.int .u32 0, .int .i64 0] 46)) x (p := ⟨w1.heap.size, 0, none⟩) (v := .int .u32 0) (by simp)
  have k3 := fun x => cell?_far (W := w1.alloc (.cells #[.int .u32 0, .int .i64 0] 46)) x (p := ⟨w1.heap.size, 1, none⟩) (v := .int .i64 0) (by simp)
  have hend : ∀ x, Below w.heap.size w (far (w1.alloc (.cells #[.int .u32 0, .int .i64 0] 46)) x) := fun x => (hbw.alloc (Nat.le_of_lt hz) _).trans ((below_far _ _).mono (by simp; omega))
  have HE := hide hend
  have hT2 : ∀ x, Tab (far (w1.alloc (.cells #[.int .u32 0, .int .i64 0] 46)) x) := fun x => ht.below (hend x)
  have HT2 := hide hT2
  clear hend hT2 c0 c1
  go_wp2_with fail
  refine wp_region_far (by kernel_rfl) (by kernel_rfl) ?_
  repeat (go_big_quiet_step ((first | (go_at_call 29; exact far_same (HS.out _)) | (go_at_call 30; exact far_same (HC.out _)) | (go_at_call 31; exact far_call (HG.out _)) | (go_at_call 32; exact far_call (HR.out _)))))
  refine wpQuiet_nil ?_
  rintro _ ⟨nq, rfl⟩
  go_wp2_with fail
  refine (HB.out _).mono ?_
  rintro e w3 ⟨rfl, rfl⟩
  go_wp2_with fail
  refine (plives_any _ (HT2.out _)).mono ?_
  rintro e w5 ⟨rfl, hb5⟩
  obtain ⟨x5, rfl⟩ := far_below hb5
  go_wp2
  go_ret
  exact ⟨rfl, HE.out _⟩


set_option maxRecDepth 100000 in
set_option maxHeartbeats 1000000 in
theorem prefixMakes_B (a : Nat) (n : Int) (b : Nat) (m : Int) (ha : a < 4294967296) (hb : b < 4294967296) (h1 : -9223372036854775808 ≤ n) (h2 : n ≤ 9223372036854775807) (h3 : -9223372036854775808 ≤ m) (h4 : m ≤ 9223372036854775807) (hn : n > 32) (w : World) (ht : Tab w) :
    Calls Tryd.prog 6 #[.int .u32 a, .int .i64 n, pfx b m] w (GoodP true w) := by
  have hn2 : ¬ n < 0 := by omega
  have hn3 : n > 31 := by omega
  have hcl : clampN n = 32 := by unfold clampN; rw [if_neg hn2, if_pos hn]
  have hmk := Make_out a n ha (Or.inr hn)
  have hbt := bit_out a n (Or.inr hn3)
  have hms := fun w => Mask_any n w h1 h2
  have hct := refCut_num 4294967295 32 (by decide)
  have hg1 := Good_any b m hb h3 h4
  have hg2 := refGood_any b m hb
  have e1 : maskN (clampN n) = cutN 4294967295 (clampN (32 : Int)) := by rw [hcl]; rfl
  rw [e1] at hms
  generalize cutN 4294967295 (clampN (32 : Int)) = M at *
  generalize goodB b m = g at *
  unfold pfx at hmk hg1 hg2 ⊢
  have HM := hide hmk
  have HS := hide hms
  have HC := hide hct
  have HG := hide hg1
  have HR := hide hg2
  have HB := hide hbt
  clear hmk hms hct hg1 hg2 hbt e1 hcl
  go_enter Tryd.func6, Tryd.ntmps6
  go_wp2_with fail
  refine (HM.out _).mono ?_
  rintro e w1 ⟨rfl, hb1⟩
  have hbw : Below w.heap.size w w1 := ((Below.refl _ w).alloc (Nat.le_refl _) _).trans (hb1.mono (by simp))
  have hz : w.heap.size < w1.heap.size := Nat.lt_of_lt_of_le (by simp) hb1.size
  have c0 : w1.cell? ⟨w.heap.size, 0, none⟩ = some (.int .u32 (b : Int)) := below_cell hb1 (by simp) (by simp)
  have c1 : w1.cell? ⟨w.heap.size, 1, none⟩ = some (.int .i64 m) := below_cell hb1 (by simp) (by simp)
  have HT := hide (ht.below hbw)
  clear hb1
  have k0 := fun x => cell?_far (W := w1.alloc (.cells #[.int .u32 0, .int .i64 0] 46)) x (p := ⟨w.heap.size, 0, none⟩) (v := .int .u32 (b : Int)) (by rw [World.cell?_alloc_lt _ _ _ hz]; exact c0)
  have k1 := fun x => cell?_far (W := w1.alloc (.cells #[.int .u32 0, .int .i64 0] 46)) x (p := ⟨w.heap.size, 1, none⟩) (v := .int .i64 m) (by rw [World.cell?_alloc_lt _ _ _ hz]; exact c1)
  have k2 := fun x => cell?_far (W := w1.alloc (.cells #[.int .u32 0, .int .i64 0] 46)) x (p := ⟨w1.heap.size, 0, none⟩) (v := .int .u32 0) (by simp)
  have k3 := fun x => cell?_far (W := w1.alloc (.cells #[.int .u32 0, .int .i64 0] 46)) x (p := ⟨w1.heap.size, 1, none⟩) (v := .int .i64 0) (by simp)
  have hend : ∀ x, Below w.heap.size w (far (w1.alloc (.cells #[.int .u32 0, .int .i64 0] 46)) x) := fun x => (hbw.alloc (Nat.le_of_lt hz) _).trans ((below_far _ _).mono (by simp; omega))
  have HE := hide hend
  have hT2 : ∀ x, Tab (far (w1.alloc (.cells #[.int .u32 0, .int .i64 0] 46)) x) := fun x => ht.below (hend x)
  have HT2 := hide hT2
  clear hend hT2 c0 c1
  go_wp2_with fail
  refine wp_region_far (by kernel_rfl) (by kernel_rfl) ?_
  repeat (go_big_quiet_step ((first | (go_at_call 29; exact far_same (HS.out _)) | (go_at_call 30; exact far_same (HC.out _)) | (go_at_call 31; exact far_call (HG.out _)) | (go_at_call 32; exact far_call (HR.out _)))))
  refine wpQuiet_nil ?_
  rintro _ ⟨nq, rfl⟩
  go_wp2_with fail
  refine (HB.out _).mono ?_
  rintro e w3 ⟨rfl, rfl⟩
  go_wp2_with fail
  refine (plives_any _ (HT2.out _)).mono ?_
  rintro e w5 ⟨rfl, hb5⟩
  obtain ⟨x5, rfl⟩ := far_below hb5
  go_wp2
  go_ret
  exact ⟨rfl, HE.out _⟩


set_option maxRecDepth 100000 in
set_option maxHeartbeats 1000000 in
theorem prefixMakes_C (a k : Nat) (b : Nat) (m : Int) (ha : a < 4294967296) (hb : b < 4294967296) (h3 : -9223372036854775808 ≤ m) (h4 : m ≤ 9223372036854775807) (hk : k < 32) (w : World) (ht : Tab w) :
    Calls Tryd.prog 6 #[.int .u32 a, .int .i64 k, pfx b m] w (GoodP true w) := by
  have hk2 : k ≤ 32 := by omega
  have hn1 : ¬ (k : Int) < 0 := by omega
  have hn2 : ¬ (k : Int) > 32 := by omega
  have hmk := Make_in a k ha hk2
  have hbt := fun w => bit_in a k ha (by omega) w
  have hrb := fun w => refBit_any a k ha (by omega) w
  have hn4 : ¬ (k : Int) > 31 := by omega
  have hms := fun w => Mask_any (k : Int) w (by omega) (by omega)
  have hct := refCut_num 4294967295 (k : Int) (by decide)
  have hct2 := refCut_num a (k : Int) ha
  rw [clampN_of hk2] at hct2
  have hg1 := Good_any b m hb h3 h4
  have hg2 := refGood_any b m hb
  have e1 : maskN (clampN (k : Int)) = cutN 4294967295 (clampN (k : Int)) := rfl
  rw [e1] at hms
  generalize cutN 4294967295 (clampN (k : Int)) = M at *
  generalize cutN a k = X at *
  generalize goodB b m = g at *
  unfold pfx at hmk hg1 hg2 ⊢
  have HM := hide hmk
  have HS := hide hms
  have HC := hide hct
  have HC2 := hide hct2
  have HG := hide hg1
  have HR := hide hg2
  have HB := hide hbt
  have HRB := hide hrb
  clear hmk hms hct hct2 hg1 hg2 hbt hrb e1
  go_enter Tryd.func6, Tryd.ntmps6
  go_wp2_with fail
  refine (HM.out _).mono ?_
  rintro e w1 ⟨rfl, hb1⟩
  have hbw : Below w.heap.size w w1 := ((Below.refl _ w).alloc (Nat.le_refl _) _).trans (hb1.mono (by simp))
  have hz : w.heap.size < w1.heap.size := Nat.lt_of_lt_of_le (by simp) hb1.size
  have c0 : w1.cell? ⟨w.heap.size, 0, none⟩ = some (.int .u32 (b : Int)) := below_cell hb1 (by simp) (by simp)
  have c1 : w1.cell? ⟨w.heap.size, 1, none⟩ = some (.int .i64 m) := below_cell hb1 (by simp) (by simp)
  clear hb1
  have k0 := fun x => cell?_far (W := w1.alloc (.cells #[.int .u32 (X : Int), .int .i64 (k : Int)] 46)) x (p := ⟨w.heap.size, 0, none⟩) (v := .int .u32 (b : Int)) (by rw [World.cell?_alloc_lt _ _ _ hz]; exact c0)
  have k1 := fun x => cell?_far (W := w1.alloc (.cells #[.int .u32 (X : Int), .int .i64 (k : Int)] 46)) x (p := ⟨w.heap.size, 1, none⟩) (v := .int .i64 m) (by rw [World.cell?_alloc_lt _ _ _ hz]; exact c1)
  have k2 := fun x => cell?_far (W := w1.alloc (.cells #[.int .u32 (X : Int), .int .i64 (k : Int)] 46)) x (p := ⟨w1.heap.size, 0, none⟩) (v := .int .u32 (X : Int)) (by simp)
  have k3 := fun x => cell?_far (W := w1.alloc (.cells #[.int .u32 (X : Int), .int .i64 (k : Int)] 46)) x (p := ⟨w1.heap.size, 1, none⟩) (v := .int .i64 (k : Int)) (by simp)
  have hend : ∀ x, Below w.heap.size w (far (w1.alloc (.cells #[.int .u32 (X : Int), .int .i64 (k : Int)] 46)) x) := fun x => (hbw.alloc (Nat.le_of_lt hz) _).trans ((below_far _ _).mono (by simp; omega))
  have HE := hide hend
  have hT2 : ∀ x, Tab (far (w1.alloc (.cells #[.int .u32 (X : Int), .int .i64 (k : Int)] 46)) x) := fun x => ht.below (hend x)
  have HT2 := hide hT2
  clear hend hT2 c0 c1
  go_wp2_with fail
  refine wp_region_far (by kernel_rfl) (by kernel_rfl) ?_
  repeat (go_big_quiet_step ((first | (go_at_call 29; exact far_same (HS.out _)) | (go_at_call 30; exact far_same (HC.out _)) | (go_at_call 31; exact far_call (HG.out _)) | (go_at_call 32; exact far_call (HR.out _)))))
  refine wpQuiet_nil ?_
  rintro _ ⟨nq, rfl⟩
  go_wp2_with fail
  refine (HB.out _).mono ?_
  rintro e w3 ⟨rfl, rfl⟩
  go_wp2_with fail
  refine (HRB.out _).mono ?_
  rintro e w4 ⟨rfl, rfl⟩
  go_wp2_with fail
  refine wp_region_far2 (by kernel_rfl) (by kernel_rfl) ?_
  repeat (go_big_quiet_step ((first | (go_at_call 30; exact far_same (HC2.out _)) | (go_at_call 35; exact far_call (plives_any _ (HT2.out _))))))
  refine wpQuiet_nil ?_
  rintro _ ⟨nq2, rfl⟩
  go_wp2
  go_ret
  exact ⟨rfl, HE.out _⟩


set_option maxRecDepth 100000 in
set_option maxHeartbeats 1000000 in
theorem prefixMakes_D (a k : Nat) (b : Nat) (m : Int) (ha : a < 4294967296) (hb : b < 4294967296) (h3 : -9223372036854775808 ≤ m) (h4 : m ≤ 9223372036854775807) (hk : k = 32) (w : World) (ht : Tab w) :
    Calls Tryd.prog 6 #[.int .u32 a, .int .i64 k, pfx b m] w (GoodP true w) := by
  have hk2 : k ≤ 32 := by omega
  have hn1 : ¬ (k : Int) < 0 := by omega
  have hn2 : ¬ (k : Int) > 32 := by omega
  have hmk := Make_in a k ha hk2
  have hbt := bit_out a (k : Int) (Or.inr (by omega))
  have hrb := True.intro
  have hn4 : (k : Int) > 31 := by omega
  clear hk
  have hms := fun w => Mask_any (k : Int) w (by omega) (by omega)
  have hct := refCut_num 4294967295 (k : Int) (by decide)
  have hct2 := refCut_num a (k : Int) ha
  rw [clampN_of hk2] at hct2
  have hg1 := Good_any b m hb h3 h4
  have hg2 := refGood_any b m hb
  have e1 : maskN (clampN (k : Int)) = cutN 4294967295 (clampN (k : Int)) := rfl
  rw [e1] at hms
  generalize cutN 4294967295 (clampN (k : Int)) = M at *
  generalize cutN a k = X at *
  generalize goodB b m = g at *
  unfold pfx at hmk hg1 hg2 ⊢
  have HM := hide hmk
  have HS := hide hms
  have HC := hide hct
  have HC2 := hide hct2
  have HG := hide hg1
  have HR := hide hg2
  have HB := hide hbt
  have HRB := hide hrb
  clear hmk hms hct hct2 hg1 hg2 hbt hrb e1
  go_enter Tryd.func6, Tryd.ntmps6
  go_wp2_with fail
  refine (HM.out _).mono ?_
  rintro e w1 ⟨rfl, hb1⟩
  have hbw : Below w.heap.size w w1 := ((Below.refl _ w).alloc (Nat.le_refl _) _).trans (hb1.mono (by simp))
  have hz : w.heap.size < w1.heap.size := Nat.lt_of_lt_of_le (by simp) hb1.size
  have c0 : w1.cell? ⟨w.heap.size, 0, none⟩ = some (.int .u32 (b : Int)) := below_cell hb1 (by simp) (by simp)
  have c1 : w1.cell? ⟨w.heap.size, 1, none⟩ = some (.int .i64 m) := below_cell hb1 (by simp) (by simp)
  clear hb1
  have k0 := fun x => cell?_far (W := w1.alloc (.cells #[.int .u32 (X : Int), .int .i64 (k : Int)] 46)) x (p := ⟨w.heap.size, 0, none⟩) (v := .int .u32 (b : Int)) (by rw [World.cell?_alloc_lt _ _ _ hz]; exact c0)
  have k1 := fun x => cell?_far (W := w1.alloc (.cells #[.int .u32 (X : Int), .int .i64 (k : Int)] 46)) x (p := ⟨w.heap.size, 1, none⟩) (v := .int .i64 m) (by rw [World.cell?_alloc_lt _ _ _ hz]; exact c1)
  have k2 := fun x => cell?_far (W := w1.alloc (.cells #[.int .u32 (X : Int), .int .i64 (k : Int)] 46)) x (p := ⟨w1.heap.size, 0, none⟩) (v := .int .u32 (X : Int)) (by simp)
  have k3 := fun x => cell?_far (W := w1.alloc (.cells #[.int .u32 (X : Int), .int .i64 (k : Int)] 46)) x (p := ⟨w1.heap.size, 1, none⟩) (v := .int .i64 (k : Int)) (by simp)
  have hend : ∀ x, Below w.heap.size w (far (w1.alloc (.cells #[.int .u32 (X : Int), .int .i64 (k : Int)] 46)) x) := fun x => (hbw.alloc (Nat.le_of_lt hz) _).trans ((below_far _ _).mono (by simp; omega))
  have HE := hide hend
  have hT2 : ∀ x, Tab (far (w1.alloc (.cells #[.int .u32 (X : Int), .int .i64 (k : Int)] 46)) x) := fun x => ht.below (hend x)
  have HT2 := hide hT2
  clear hend hT2 c0 c1
  go_wp2_with fail
  refine wp_region_far (by kernel_rfl) (by kernel_rfl) ?_
  repeat (go_big_quiet_step ((first | (go_at_call 29; exact far_same (HS.out _)) | (go_at_call 30; exact far_same (HC.out _)) | (go_at_call 31; exact far_call (HG.out _)) | (go_at_call 32; exact far_call (HR.out _)))))
  refine wpQuiet_nil ?_
  rintro _ ⟨nq, rfl⟩
  go_wp2_with fail
  refine (HB.out _).mono ?_
  rintro e w3 ⟨rfl, rfl⟩
  go_wp2_with fail
  refine wp_region_far2 (by kernel_rfl) (by kernel_rfl) ?_
  repeat (go_big_quiet_step ((first | (go_at_call 30; exact far_same (HC2.out _)) | (go_at_call 35; exact far_call (plives_any _ (HT2.out _))))))
  refine wpQuiet_nil ?_
  rintro _ ⟨nq2, rfl⟩
  go_wp2
  go_ret
  exact ⟨rfl, HE.out _⟩

theorem prefixMakes_any (a : Nat) (n : Int) (b : Nat) (m : Int) (ha : a < 4294967296) (hb : b < 4294967296) (h1 : -9223372036854775808 ≤ n) (h2 : n ≤ 9223372036854775807) (h3 : -9223372036854775808 ≤ m) (h4 : m ≤ 9223372036854775807) (w : World) (ht : Tab w) :
    Calls Tryd.prog 6 #[.int .u32 a, .int .i64 n, pfx b m] w (GoodP true w) := by
  rcases (show n < 0 ∨ n > 32 ∨ 0 ≤ n ∧ n ≤ 32 by omega) with h | h | ⟨h, h'⟩
  · exact prefixMakes_A a n b m ha hb h1 h2 h3 h4 h w ht
  · exact prefixMakes_B a n b m ha hb h1 h2 h3 h4 h w ht
  · obtain ⟨k, rfl⟩ := Int.eq_ofNat_of_zero_le h
    by_cases hk : k < 32
    · exact prefixMakes_C a k b m ha hb h3 h4 hk w ht
    · exact prefixMakes_D a k b m ha hb h3 h4 (by omega) w ht
end Go.Proofs.YtiibglkiakhfgaaDoor
