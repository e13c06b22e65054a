import Derived.Test.YtiibglkiakhfgaaDoorPrefixText
import Derived.StillTailTactics
set_option linter.unusedSimpArgs false
set_option linter.unusedVariables false
namespace Go.Proofs.YtiibglkiakhfgaaDoor
open Go.RowKit

set_option maxHeartbeats 400000 in
theorem Covers_any (a : Nat) (n : Int) (b : Nat) (m : Int) (ha : a < 4294967296) (hb : b < 4294967296) (h1 : -9223372036854775808 ≤ n) (h2 : n ≤ 9223372036854775807) (h3 : -9223372036854775808 ≤ m) (h4 : m ≤ 9223372036854775807) (w : World) :
    Calls Tryd.prog 38 #[pfx a n, pfx b m] w (GoodP (covB a n b m) w) := by
  have hc := covers_any a n b m ha hb h1 h2 h3 h4
  unfold pfx at hc ⊢
  have HC := hide hc
  clear hc
  obtain ⟨k0, k1, k2, k3⟩ := boxes w (.int .u32 (a : Int)) (.int .i64 n) (.int .u32 (b : Int)) (.int .i64 m) 46 46
  go_enter Tryd.func38, Tryd.ntmps38
  go_wp2_with fail
  refine (HC.out _).mono ?_
  rintro e w1 ⟨rfl, hb1⟩
  obtain ⟨x1, rfl⟩ := far_of_below hb1
  go_wp2
  go_ret
  exact ⟨rfl, below_boxes _ _ _ _⟩

theorem pfx_eq (a b : Nat) (n m : Int) : ((a : Int) == (b : Int) && n == m) = decide (a = b ∧ n = m) := by
  rw [Bool.eq_iff_iff]; simp; omega

set_option maxHeartbeats 400000 in
theorem Within_any (a : Nat) (n : Int) (b : Nat) (m : Int) (ha : a < 4294967296) (hb : b < 4294967296) (h1 : -9223372036854775808 ≤ n) (h2 : n ≤ 9223372036854775807) (h3 : -9223372036854775808 ≤ m) (h4 : m ≤ 9223372036854775807) (w : World) :
    Calls Tryd.prog 45 #[pfx a n, pfx b m] w (GoodP (covB b m a n && !decide (a = b ∧ n = m)) w) := by
  have hc := covers_any b m a n hb ha h3 h4 h1 h2
  unfold pfx at hc ⊢
  obtain ⟨g, hg⟩ : ∃ g, covB b m a n = g := ⟨_, rfl⟩
  rw [hg] at hc ⊢
  have HC := hide hc
  clear hc hg
  obtain ⟨k0, k1, k2, k3⟩ := boxes w (.int .u32 (a : Int)) (.int .i64 n) (.int .u32 (b : Int)) (.int .i64 m) 46 46
  cases g
  · go_enter Tryd.func45, Tryd.ntmps45
    go_wp2_with fail
    refine (HC.out _).mono ?_
    rintro e w1 ⟨rfl, hb1⟩
    obtain ⟨x1, rfl⟩ := far_of_below hb1
    go_wp2
    go_ret
    exact ⟨rfl, below_boxes _ _ _ _⟩
  · have hne := hide (show (true && !decide (a = b ∧ n = m)) = !((a : Int) == (b : Int) && n == m) by rw [pfx_eq]; rfl)
    rw [hne.out]
    go_enter Tryd.func45, Tryd.ntmps45
    go_wp2_with fail
    refine (HC.out _).mono ?_
    rintro e w1 ⟨rfl, hb1⟩
    obtain ⟨x1, rfl⟩ := far_of_below hb1
    go_wp2
    all_goals
      go_ret
      refine ⟨?_, below_boxes _ _ _ _⟩
      clear k0 k1 k2 k3 HC hne hb1
      refine ret_bool ?_
      simp_all

def refCovB (a : Nat) (n : Int) (b : Nat) (m : Int) : Bool := goodB a n && goodB b m && decide (n ≤ m) && (cutN b n.toNat == a)

set_option maxHeartbeats 1000000 in
theorem refCovers_any (a : Nat) (n : Int) (b : Nat) (m : Int) (ha : a < 4294967296) (hb : b < 4294967296) (w : World) :
    Calls Tryd.prog 37 #[pfx a n, pfx b m] w (GoodP (refCovB a n b m) w) := by
  have hg1 := refGood_any a n ha
  have hh1 := refGood_any b m hb
  unfold pfx at hg1 hh1 ⊢
  have HG := hide hg1
  have HH := hide hh1
  obtain ⟨k0, k1, k2, k3⟩ := boxes w (.int .u32 (a : Int)) (.int .i64 n) (.int .u32 (b : Int)) (.int .i64 m) 46 46
  cases hg : goodB a n
  · have hf := hide (show refCovB a n b m = false by unfold refCovB; rw [hg]; rfl)
    rw [hg] at HG
    clear hg hg1 hh1
    go_enter Tryd.func37, Tryd.ntmps37
    go_wp2_with fail
    refine (HG.out _).mono ?_
    rintro e w1 ⟨rfl, hb1⟩
    obtain ⟨x1, rfl⟩ := far_of_below hb1
    go_wp2
    go_ret
    rw [hf.out]
    exact ⟨rfl, below_boxes _ _ _ _⟩
  · cases hh : goodB b m
    · have hf := hide (show refCovB a n b m = false by unfold refCovB; rw [hg, hh]; rfl)
      rw [hg] at HG
      rw [hh] at HH
      clear hg hg1 hh1 hh
      go_enter Tryd.func37, Tryd.ntmps37
      go_wp2_with fail
      refine (HG.out _).mono ?_
      rintro e w1 ⟨rfl, hb1⟩
      obtain ⟨x1, rfl⟩ := far_of_below hb1
      go_wp2_with fail
      refine (HH.out _).mono ?_
      rintro e w1 ⟨rfl, hb2⟩
      obtain ⟨x2, rfl⟩ := far_below hb2
      go_wp2
      go_ret
      rw [hf.out]
      exact ⟨rfl, below_boxes _ _ _ _⟩
    · by_cases hnm : n ≤ m
      · have hn : 0 ≤ n ∧ n ≤ 32 := by simp [goodB] at hg; omega
        have hf := hide (show refCovB a n b m = (((cutN b (clampN n) : Nat) : Int) == (a : Int)) by
          unfold refCovB; rw [hg, hh]
          have : clampN n = n.toNat := by unfold clampN; rw [if_neg (by omega), if_neg (by omega)]
          rw [this, Bool.eq_iff_iff]; simp [hnm]; omega)
        rw [hg] at HG
        rw [hh] at HH
        clear hg hg1 hh1 hh hn
        go_enter Tryd.func37, Tryd.ntmps37
        go_wp2_with fail
        refine (HG.out _).mono ?_
        rintro e w1 ⟨rfl, hb1⟩
        obtain ⟨x1, rfl⟩ := far_of_below hb1
        go_wp2_with fail
        refine (HH.out _).mono ?_
        rintro e w1 ⟨rfl, hb2⟩
        obtain ⟨x2, rfl⟩ := far_below hb2
        go_wp2_with fail
        go_quiet ((go_at_call 30; exact quiet_left (refCut_num b n hb _)))
        go_wp2
        go_ret
        refine ⟨?_, below_drewN (below_boxes _ _ _ _) _⟩
        rw [hf.out]; rfl
      · have hf := hide (show refCovB a n b m = false by unfold refCovB; rw [hg, hh]; simp [hnm])
        have hd : decide (m < n) = true := by simp; omega
        rw [hg] at HG
        rw [hh] at HH
        clear hg hg1 hh1 hh
        go_enter Tryd.func37, Tryd.ntmps37
        go_wp2_with fail
        refine (HG.out _).mono ?_
        rintro e w1 ⟨rfl, hb1⟩
        obtain ⟨x1, rfl⟩ := far_of_below hb1
        go_wp2_with fail
        refine (HH.out _).mono ?_
        rintro e w1 ⟨rfl, hb2⟩
        obtain ⟨x2, rfl⟩ := far_below hb2
        go_wp2
        go_ret
        rw [hf.out]
        exact ⟨rfl, below_boxes _ _ _ _⟩
theorem isNaNU_any (a : Nat) (w : World) : Calls Tryd.prog 136 #[.int .u32 a] w fun e w' => e = .returned (.bool false) ∧ w' = w := by
  go_enter Tryd.func136, Tryd.ntmps136
  go_wp2
  go_ret
  exact ⟨by simp, rfl⟩

def cmpN (a b : Nat) : Int := if a < b then -1 else if b < a then 1 else 0
set_option maxHeartbeats 400000 in
theorem compareU_any (a b : Nat) (w : World) : Calls Tryd.prog 95 #[.int .u32 a, .int .u32 b] w fun e w' => e = .returned (.int .i64 (cmpN a b)) ∧ w' = w := by
  rcases Nat.lt_trichotomy a b with h | h | h
  · have hf := hide (show cmpN a b = -1 by unfold cmpN; rw [if_pos h])
    go_enter Tryd.func95, Tryd.ntmps95
    go_wp2_with fail
    refine (isNaNU_any a _).mono ?_
    rintro e w1 ⟨rfl, rfl⟩
    go_wp2_with fail
    refine (isNaNU_any b _).mono ?_
    rintro e w1 ⟨rfl, rfl⟩
    go_wp2
    go_ret
    exact ⟨by rw [hf.out]; rfl, rfl⟩
  · have hf := hide (show cmpN a b = 0 by unfold cmpN; rw [if_neg (by omega), if_neg (by omega)])
    subst h
    go_enter Tryd.func95, Tryd.ntmps95
    go_wp2_with fail
    refine (isNaNU_any a _).mono ?_
    rintro e w1 ⟨rfl, rfl⟩
    go_wp2_with fail
    refine (isNaNU_any a _).mono ?_
    rintro e w1 ⟨rfl, rfl⟩
    go_wp2
    go_ret
    exact ⟨by rw [hf.out]; rfl, rfl⟩
  · have hf := hide (show cmpN a b = 1 by unfold cmpN; rw [if_neg (by omega), if_pos h])
    have hnn : ¬ a < b := by omega
    go_enter Tryd.func95, Tryd.ntmps95
    go_wp2_with fail
    refine (isNaNU_any a _).mono ?_
    rintro e w1 ⟨rfl, rfl⟩
    go_wp2_with fail
    refine (isNaNU_any b _).mono ?_
    rintro e w1 ⟨rfl, rfl⟩
    go_wp2
    go_ret
    exact ⟨by rw [hf.out]; rfl, rfl⟩

set_option maxHeartbeats 400000 in
theorem or_any (g : Nat) (x y : Int) (w : World) (c0 : w.cell? ⟨g, 0, none⟩ = some (.int .i64 x)) (c1 : w.cell? ⟨g, 1, none⟩ = some (.int .i64 y)) :
    Calls Tryd.prog 94 #[.slice (some ⟨g, 0, none⟩) 2 2] w fun e w' => e = .returned (.int .i64 (if x = 0 then y else x)) ∧ w' = w := by
  go_enter Tryd.func94, Tryd.ntmps94
  go_wp2
  go_loop [8] (fun i => ∃ k : Nat, k ≤ 2 ∧ i = .int .i64 k ∧ (0 < k → x = 0) ∧ (1 < k → y = 0)) (fun i => 2 - (intOf i).toNat)
  case atStart => exact ⟨0, by omega, rfl, by omega, by omega⟩
  case round =>
    obtain ⟨k, hk, rfl, hx, hy⟩ := hrel
    rcases (show k = 0 ∨ k = 1 ∨ k = 2 by omega) with h | h | h
    · subst h
      by_cases h0 : x = 0
      · subst h0
        go_wp2
        go_round
        case rel => exact ⟨1, by omega, by go_num, by simp, by omega⟩
        case measure => simp [intOf]
      · go_wp2
        go_ret
        exact ⟨rfl, rfl⟩
    · subst h
      have h0 := hx (by omega)
      subst h0
      by_cases h1 : y = 0
      · subst h1
        go_wp2
        go_round
        case rel => exact ⟨2, by omega, by go_num, by simp, by simp⟩
        case measure => simp [intOf]
      · go_wp2
        go_ret
        exact ⟨rfl, rfl⟩
    · subst h
      have h0 := hx (by omega)
      have h1 := hy (by omega)
      subst h0 h1
      go_wp2
      go_ret
      exact ⟨rfl, rfl⟩

def cmpP (a : Nat) (n : Int) (b : Nat) (m : Int) : Int := if a < b ∨ (a = b ∧ n < m) then -1 else if a = b ∧ n = m then 0 else 1
set_option maxHeartbeats 400000 in
theorem refCmp_any (a : Nat) (n : Int) (b : Nat) (m : Int) (ha : a < 4294967296) (hb : b < 4294967296) (w : World) :
    Calls Tryd.prog 46 #[pfx a n, pfx b m] w fun e w' => e = .returned (.int .i64 (cmpP a n b m)) ∧ Below w.heap.size w w' := by
  have hb2 : ∀ o o' : Obj, Below w.heap.size w ((w.alloc o).alloc o') := fun o o' => ((Below.refl _ w).alloc (Nat.le_refl _) _).alloc (by simp) _
  have HB := hide hb2
  clear hb2
  unfold pfx
  by_cases h1 : a < b
  · have hf := hide (show cmpP a n b m = -1 by unfold cmpP; rw [if_pos (Or.inl h1)])
    go_enter Tryd.func46, Tryd.ntmps46
    go_wp2
    go_ret
    exact ⟨by rw [hf.out]; rfl, HB.out _ _⟩
  · by_cases h2 : a = b
    · subst h2
      by_cases h3 : n < m
      · have hf := hide (show cmpP a n a m = -1 by unfold cmpP; rw [if_pos (Or.inr ⟨rfl, h3⟩)])
        go_enter Tryd.func46, Tryd.ntmps46
        go_wp2
        go_ret
        exact ⟨by rw [hf.out]; rfl, HB.out _ _⟩
      · by_cases h4 : n = m
        · subst h4
          have hf := hide (show cmpP a n a n = 0 by unfold cmpP; rw [if_neg (by omega), if_pos ⟨rfl, rfl⟩])
          go_enter Tryd.func46, Tryd.ntmps46
          go_wp2
          go_ret
          exact ⟨by rw [hf.out]; rfl, HB.out _ _⟩
        · have hf := hide (show cmpP a n a m = 1 by unfold cmpP; rw [if_neg (by omega), if_neg (by omega)])
          go_enter Tryd.func46, Tryd.ntmps46
          go_wp2
          go_ret
          exact ⟨by rw [hf.out]; rfl, HB.out _ _⟩
    · have hf := hide (show cmpP a n b m = 1 by unfold cmpP; rw [if_neg (by omega), if_neg (by omega)])
      have hd : ((a : Int) == (b : Int)) = false := by simp; omega
      have hd2 : (decide ((a : Int) < (b : Int))) = false := by simp; omega
      go_enter Tryd.func46, Tryd.ntmps46
      go_wp2
      go_ret
      exact ⟨by rw [hf.out]; rfl, HB.out _ _⟩
theorem wpList_gen {P : Program} {ops : Array Oper} {Q : Exit → Act → World → Prop} {l : List Oper} {a : Act} {w : World} (I : World → Prop) (h0 : I w) (h : ∀ w3, I w3 → wpList P ops Q l a w3) : wpList P ops Q l a w := h w h0
theorem or_cmp (a : Nat) (n : Int) (b : Nat) (m : Int) : (if cmpN a b = 0 then Lib.compareInt n m else cmpN a b) = cmpP a n b m := by
  unfold cmpN cmpP Lib.compareInt
  split <;> split <;> (try split) <;> (try split) <;> omega

set_option maxRecDepth 100000 in
set_option maxHeartbeats 1000000 in
theorem cmp_good (a : Nat) (n : Int) (b : Nat) (m : Int) (ha : a < 4294967296) (hb : b < 4294967296) (h1 : -9223372036854775808 ≤ n) (h2 : n ≤ 9223372036854775807) (h3 : -9223372036854775808 ≤ m) (h4 : m ≤ 9223372036854775807)
    (hg : goodB a n = true) (hh : goodB b m = true) (w : World) :
    Calls Tryd.prog 39 #[pfx a n, pfx b m] w fun e w' => e = .returned (.int .i64 (cmpP a n b m)) ∧ Below w.heap.size w w' := by
  have hg1 := good_any a n ha h1 h2
  have hh1 := good_any b m hb h3 h4
  rw [hg] at hg1
  rw [hh] at hh1
  unfold pfx at hg1 hh1 ⊢
  have HG := hide hg1
  have HH := hide hh1
  have hf := hide (or_cmp a n b m)
  obtain ⟨k0, k1, k2, k3⟩ := boxes w (.int .u32 (a : Int)) (.int .i64 n) (.int .u32 (b : Int)) (.int .i64 m) 46 46
  clear hg hh hg1 hh1
  go_enter Tryd.func39, Tryd.ntmps39
  go_wp2_with fail
  refine (HG.out _).mono ?_
  rintro e w1 ⟨rfl, hb1⟩
  obtain ⟨x1, rfl⟩ := far_of_below hb1
  go_wp2_with fail
  refine (HH.out _).mono ?_
  rintro e w2 ⟨rfl, hb2⟩
  obtain ⟨x2, rfl⟩ := far_below hb2
  go_wp2_with fail
  refine wp_region_still_tail 10 (by kernel_rfl) (by kernel_rfl) ?_
  simp only [List.take_succ_cons, List.take_zero, List.drop_succ_cons, List.drop_zero]
  repeat (first | still_step | still_call (compareU_any a b _) | still_call (Tryd.cmp_Compare_int n m _))
  try refine wpStill_nil ?_
  refine wpList_gen (fun w3 => Below w.heap.size w w3) (below_boxes w _ _ x2).drew ?_
  intro w3 hb3
  clear hb1 hb2 k0 k1 k2 k3 HG HH
  go_wp2_with fail
  refine (or_any w3.heap.size (cmpN a b) (Lib.compareInt n m) _ (by simp) (by simp)).mono ?_
  rintro e w4 ⟨rfl, rfl⟩
  rw [hf.out]
  go_wp2
  go_ret
  exact ⟨rfl, hb3.alloc (hb3.size) _⟩

set_option maxHeartbeats 1000000 in
theorem cmp_bad (a : Nat) (n : Int) (b : Nat) (m : Int) (ha : a < 4294967296) (hb : b < 4294967296) (h1 : -9223372036854775808 ≤ n) (h2 : n ≤ 9223372036854775807) (h3 : -9223372036854775808 ≤ m) (h4 : m ≤ 9223372036854775807)
    (hgh : (goodB a n && goodB b m) = false) (w : World) :
    Calls Tryd.prog 39 #[pfx a n, pfx b m] w fun e w' => e = .returned (.int .i64 0) ∧ Below w.heap.size w w' := by
  have hg1 := good_any a n ha h1 h2
  have hh1 := good_any b m hb h3 h4
  cases hg : goodB a n
  · rw [hg] at hg1
    unfold pfx at hg1 hh1 ⊢
    have HG := hide hg1
    obtain ⟨k0, k1, k2, k3⟩ := boxes w (.int .u32 (a : Int)) (.int .i64 n) (.int .u32 (b : Int)) (.int .i64 m) 46 46
    clear hg hh1 hg1 hgh
    go_enter Tryd.func39, Tryd.ntmps39
    go_wp2_with fail
    refine (HG.out _).mono ?_
    rintro e w1 ⟨rfl, hb1⟩
    obtain ⟨x1, rfl⟩ := far_of_below hb1
    go_wp2
    go_ret
    exact ⟨rfl, below_boxes _ _ _ _⟩
  · have hh : goodB b m = false := by rw [hg] at hgh; simpa using hgh
    rw [hg] at hg1
    rw [hh] at hh1
    unfold pfx at hg1 hh1 ⊢
    have HG := hide hg1
    have HH := hide hh1
    obtain ⟨k0, k1, k2, k3⟩ := boxes w (.int .u32 (a : Int)) (.int .i64 n) (.int .u32 (b : Int)) (.int .i64 m) 46 46
    clear hg hh hh1 hg1 hgh
    go_enter Tryd.func39, Tryd.ntmps39
    go_wp2_with fail
    refine (HG.out _).mono ?_
    rintro e w1 ⟨rfl, hb1⟩
    obtain ⟨x1, rfl⟩ := far_of_below hb1
    go_wp2_with fail
    refine (HH.out _).mono ?_
    rintro e w2 ⟨rfl, hb2⟩
    obtain ⟨x2, rfl⟩ := far_below hb2
    go_wp2
    go_ret
    exact ⟨rfl, below_boxes _ _ _ _⟩
def cmpB (a : Nat) (n : Int) (b : Nat) (m : Int) : Int := if goodB a n && goodB b m then cmpP a n b m else 0
theorem Cmp_any (a : Nat) (n : Int) (b : Nat) (m : Int) (ha : a < 4294967296) (hb : b < 4294967296) (h1 : -9223372036854775808 ≤ n) (h2 : n ≤ 9223372036854775807) (h3 : -9223372036854775808 ≤ m) (h4 : m ≤ 9223372036854775807) (w : World) :
    Calls Tryd.prog 39 #[pfx a n, pfx b m] w fun e w' => e = .returned (.int .i64 (cmpB a n b m)) ∧ Below w.heap.size w w' := by
  unfold cmpB
  cases hgh : (goodB a n && goodB b m)
  · exact cmp_bad a n b m ha hb h1 h2 h3 h4 hgh w
  · simp only [Bool.and_eq_true] at hgh
    exact cmp_good a n b m ha hb h1 h2 h3 h4 hgh.1 hgh.2 w
end Go.Proofs.YtiibglkiakhfgaaDoor
