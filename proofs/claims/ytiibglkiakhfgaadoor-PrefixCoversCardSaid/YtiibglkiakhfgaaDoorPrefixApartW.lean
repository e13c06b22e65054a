import Derived.Test.YtiibglkiakhfgaaDoorPrefixCmp
set_option linter.unusedSimpArgs false
set_option linter.unusedVariables false
namespace Go.Proofs.YtiibglkiakhfgaaDoor
open Go.RowKit
theorem cov_cmp {a : Nat} {n : Int} {b : Nat} {m : Int} (h : covB a n b m = true) (hne : ¬ (a = b ∧ n = m)) : cmpB a n b m = -1 := by
  simp only [covB, hasB, Bool.and_eq_true, decide_eq_true_eq, beq_iff_eq] at h
  obtain ⟨⟨h1, h2⟩, h3, h4⟩ := h
  have := cutN_le b n.toNat
  unfold cmpB cmpP
  rw [h1, h3]
  rw [if_pos (by rfl), if_pos (by omega)]
theorem goodB_iff (a : Nat) (n : Int) : goodB a n = true ↔ 0 ≤ n ∧ n ≤ 32 ∧ cutN a n.toNat = a := by
  simp [goodB, and_assoc]
theorem apart_law (a : Nat) (n : Int) (b : Nat) (m : Int) (x : Nat) : (covB a n b m || covB b m a n || !(hasB a n x && hasB b m x)) = true := by
  cases h : (hasB a n x && hasB b m x)
  · simp
  · simp only [hasB, Bool.and_eq_true, beq_iff_eq] at h
    obtain ⟨⟨h1, h2⟩, h3, h4⟩ := h
    have g1 := (goodB_iff a n).1 h1
    have g2 := (goodB_iff b m).1 h3
    rcases (show n ≤ m ∨ m ≤ n by omega) with hl | hl
    · have e : cutN b n.toNat = a := by rw [← h4, cutN_cutN x (by omega) (by omega), h2]
      simp [covB, hasB, h1, h3, hl, e]
    · have e : cutN a m.toNat = b := by rw [← h2, cutN_cutN x (by omega) (by omega), h4]
      simp [covB, hasB, h1, h3, hl, e]

/-- One prefix's facts. -/
structure PfxOk (a : Nat) (n : Int) : Prop where
  a : a < 4294967296
  l : -9223372036854775808 ≤ n
  h : n ≤ 9223372036854775807

set_option maxRecDepth 100000 in
set_option maxHeartbeats 1000000 in
theorem prefixApart_any (a : Nat) (n : Int) (b : Nat) (m : Int) (x : Nat) (ha : a < 4294967296) (hb : b < 4294967296) (hx : x < 4294967296) (h1 : -9223372036854775808 ≤ n) (h2 : n ≤ 9223372036854775807) (h3 : -9223372036854775808 ≤ m) (h4 : m ≤ 9223372036854775807) (w : World) (ht : Tab w) :
    Calls Tryd.prog 8 #[pfx a n, pfx b m, .int .u32 x] w (GoodP true w) := by
  have q1 := Covers_any a n b m ha hb h1 h2 h3 h4
  have q2 := Covers_any b m a n hb ha h3 h4 h1 h2
  have q3 := Cmp_any a n b m ha hb h1 h2 h3 h4
  have q4 := Has_any a n x ha hx h1 h2
  have q5 := Has_any b m x hb hx h3 h4
  have l1 := @cov_cmp a n b m
  have l2 := apart_law a n b m x
  generalize covB a n b m = c1 at *
  generalize covB b m a n = c2 at *
  generalize hasB a n x = c4 at *
  generalize hasB b m x = c5 at *
  generalize cmpB a n b m = c3 at *
  unfold pfx at q1 q2 q3 q4 q5 ⊢
  have Q1 := hide q1
  have Q2 := hide q2
  have Q3 := hide q3
  have Q4 := hide q4
  have Q5 := hide q5
  have L1 := hide l1
  have hT : ∀ y, Tab (far ((w.alloc (.cells #[.int .u32 (a : Int), .int .i64 n] 46)).alloc (.cells #[.int .u32 (b : Int), .int .i64 m] 46)) y) := fun y => ht.below (below_boxes _ _ _ _)
  have HT := hide hT
  obtain ⟨k0, k1, k2, k3⟩ := boxes w (.int .u32 (a : Int)) (.int .i64 n) (.int .u32 (b : Int)) (.int .i64 m) 46 46
  clear q1 q2 q3 q4 q5 l1 hT ha hb hx h1 h2 h3 h4
  cases c1
  · have ll := hide l2
    clear l2
    go_enter Tryd.func8, Tryd.ntmps8
    go_wp2_with fail
    refine (Q1.out _).mono ?_
    rintro e w1 ⟨rfl, hb1⟩
    obtain ⟨x1, rfl⟩ := far_of_below hb1
    go_wp2_with fail
    refine (Q1.out _).mono ?_
    rintro e w2 ⟨rfl, hb2⟩
    obtain ⟨x2, rfl⟩ := far_below hb2
    go_wp2_with fail
    refine (Q2.out _).mono ?_
    rintro e w3 ⟨rfl, hb3⟩
    obtain ⟨x3, rfl⟩ := far_below hb3
    clear hb1 hb2 hb3
    cases c2
    · go_wp2_with fail
      refine (Q4.out _).mono ?_
      rintro e w4 ⟨rfl, hb4⟩
      obtain ⟨x4, rfl⟩ := far_below hb4
      cases c4
      · go_wp2_with fail
        refine (plives_any _ (HT.out _)).mono ?_
        rintro e w5 ⟨rfl, hb5⟩
        obtain ⟨x5, rfl⟩ := far_below hb5
        go_wp2
        go_ret
        exact ⟨rfl, below_boxes _ _ _ _⟩
      · go_wp2_with fail
        refine (Q5.out _).mono ?_
        rintro e w5 ⟨rfl, hb5⟩
        obtain ⟨x5, rfl⟩ := far_below hb5
        have hc5 : c5 = false := by simpa using ll.out
        subst hc5
        go_wp2_with fail
        refine (plives_any _ (HT.out _)).mono ?_
        rintro e w6 ⟨rfl, hb6⟩
        obtain ⟨x6, rfl⟩ := far_below hb6
        go_wp2
        go_ret
        exact ⟨rfl, below_boxes _ _ _ _⟩
    · go_wp2_with fail
      refine (plives_any _ (HT.out _)).mono ?_
      rintro e w5 ⟨rfl, hb5⟩
      obtain ⟨x5, rfl⟩ := far_below hb5
      go_wp2
      go_ret
      exact ⟨rfl, below_boxes _ _ _ _⟩
  · clear l2
    by_cases hab : a = b ∧ n = m
    · obtain ⟨rfl, rfl⟩ := hab
      go_enter Tryd.func8, Tryd.ntmps8
      go_wp2_with fail
      refine (Q1.out _).mono ?_
      rintro e w1 ⟨rfl, hb1⟩
      obtain ⟨x1, rfl⟩ := far_of_below hb1
      go_wp2_with fail
      refine (Q1.out _).mono ?_
      rintro e w2 ⟨rfl, hb2⟩
      obtain ⟨x2, rfl⟩ := far_below hb2
      go_wp2_with fail
      refine (plives_any _ (HT.out _)).mono ?_
      rintro e w5 ⟨rfl, hb5⟩
      obtain ⟨x5, rfl⟩ := far_below hb5
      go_wp2
      go_ret
      exact ⟨rfl, below_boxes _ _ _ _⟩
    · have hc3 : c3 = -1 := L1.out rfl hab
      subst hc3
      have hd : ((a : Int) == (b : Int) && n == m) = false := by rw [pfx_eq]; simpa using hab
      by_cases hab1 : a = b
      · subst hab1
        have hnm : ¬ n = m := fun h => hab ⟨rfl, h⟩
        clear hab hd
        go_enter Tryd.func8, Tryd.ntmps8
        go_wp2_with fail
        refine (Q1.out _).mono ?_
        rintro e w1 ⟨rfl, hb1⟩
        obtain ⟨x1, rfl⟩ := far_of_below hb1
        go_wp2_with fail
        refine (Q3.out _).mono ?_
        rintro e w2 ⟨rfl, hb2⟩
        obtain ⟨x2, rfl⟩ := far_below hb2
        go_wp2_with fail
        refine (Q1.out _).mono ?_
        rintro e w3 ⟨rfl, hb3⟩
        obtain ⟨x3, rfl⟩ := far_below hb3
        go_wp2_with fail
        refine (plives_any _ (HT.out _)).mono ?_
        rintro e w5 ⟨rfl, hb5⟩
        obtain ⟨x5, rfl⟩ := far_below hb5
        go_wp2
        go_ret
        exact ⟨rfl, below_boxes _ _ _ _⟩
      · clear hab hd
        go_enter Tryd.func8, Tryd.ntmps8
        go_wp2_with fail
        refine (Q1.out _).mono ?_
        rintro e w1 ⟨rfl, hb1⟩
        obtain ⟨x1, rfl⟩ := far_of_below hb1
        go_wp2_with fail
        refine (Q3.out _).mono ?_
        rintro e w2 ⟨rfl, hb2⟩
        obtain ⟨x2, rfl⟩ := far_below hb2
        go_wp2_with fail
        refine (Q1.out _).mono ?_
        rintro e w3 ⟨rfl, hb3⟩
        obtain ⟨x3, rfl⟩ := far_below hb3
        go_wp2_with fail
        refine (plives_any _ (HT.out _)).mono ?_
        rintro e w5 ⟨rfl, hb5⟩
        obtain ⟨x5, rfl⟩ := far_below hb5
        go_wp2
        go_ret
        exact ⟨rfl, below_boxes _ _ _ _⟩
end Go.Proofs.YtiibglkiakhfgaaDoor
