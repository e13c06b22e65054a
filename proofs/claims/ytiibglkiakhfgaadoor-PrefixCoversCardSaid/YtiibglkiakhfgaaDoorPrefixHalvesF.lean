import Derived.Test.YtiibglkiakhfgaaDoorPrefixApartW
set_option linter.unusedSimpArgs false
set_option linter.unusedVariables false
namespace Go.Proofs.YtiibglkiakhfgaaDoor
open Go.RowKit
theorem code_gen {P : Program} {c : Code} {Q : Exit → Act → World → Prop} {a : Act} {w : World} (I : World → Prop) (h0 : I w) (h : ∀ w3, I w3 → c.wp P Q a w3) : c.wp P Q a w := h w h0
theorem or_half (a k : Nat) (ha : a < 4294967296) (hk : k < 32) (hg : goodB a (k : Int) = true) : bits .or .u32 (a : Int) ((2 ^ (31 - k) : Nat) : Int) = ((a + 2 ^ (31 - k) : Nat) : Int) := by
  have h2 : 2 ^ (31 - k) < 4294967296 := Nat.lt_of_le_of_lt (Nat.pow_le_pow_right (by decide) (by omega : 31 - k ≤ 31)) (by decide)
  have g := (goodB_iff a k).1 hg
  have hm : a % 2 ^ (32 - k) = 0 := (cutN_fix a k).1 (by simpa using g.2.2)
  rw [u32_or_nat _ _ ha h2]
  congr 1
  have e : a = (a / 2 ^ (32 - k)) * 2 ^ (32 - k) := by have := Nat.div_add_mod' a (2 ^ (32 - k)); omega
  have hlt : (2 : Nat) ^ (31 - k) < 2 ^ (32 - k) := Nat.pow_lt_pow_right (by decide) (by omega)
  have := Nat.two_pow_add_eq_or_of_lt hlt (a / 2 ^ (32 - k))
  rw [Nat.mul_comm, ← e] at this
  exact this.symm

theorem half_w1 (k : Nat) (hk : k < 32) : IntKind.i64.wrap (31 - (k : Int)) = ((31 - k : Nat) : Int) := by
  have h : ∀ k : Fin 32, IntKind.i64.wrap (31 - (k.val : Int)) = ((31 - k.val : Nat) : Int) := by decide +kernel
  exact h ⟨k, hk⟩
theorem half_w2 (k : Nat) (hk : k < 32) : IntKind.u32.wrap (2 ^ (31 - k)) = ((2 ^ (31 - k) : Nat) : Int) := by
  have h : ∀ k : Fin 32, IntKind.u32.wrap (2 ^ (31 - k.val)) = ((2 ^ (31 - k.val) : Nat) : Int) := by decide +kernel
  exact h ⟨k, hk⟩
theorem half_w3 (k : Nat) (hk : k < 32) : IntKind.i64.wrap ((k : Int) + 1) = (k : Int) + 1 := by
  have h : ∀ k : Fin 32, IntKind.i64.wrap ((k.val : Int) + 1) = (k.val : Int) + 1 := by decide +kernel
  exact h ⟨k, hk⟩
set_option maxRecDepth 100000 in
set_option maxHeartbeats 1000000 in
theorem halves_good (a k : Nat) (ha : a < 4294967296) (hk : k < 32) (hg : goodB a (k : Int) = true) (w : World) :
    Calls Tryd.prog 36 #[pfx a k] w fun e w' => e = .returned (.tuple #[pfx a ((k : Int) + 1), pfx (a + 2 ^ (31 - k)) ((k : Int) + 1), .bool true]) ∧ Below w.heap.size w w' := by
  have hor := hide (show bits .or .u32 (a : Int) ((2 : Int) ^ (31 - k)) = ((a + 2 ^ (31 - k) : Nat) : Int) by rw [← or_half a k ha hk hg]; simp)
  have hgd := good_any a k ha (by omega) (by omega)
  rw [hg] at hgd
  unfold pfx at hgd ⊢
  have HG := hide hgd
  have hk1 : ¬ (k : Int) = 32 := by omega
  clear hgd hg
  go_enter Tryd.func36, Tryd.ntmps36
  go_wp2_with fail
  refine (HG.out _).mono ?_
  rintro e w1 ⟨rfl, hb1⟩
  have B0 : Blk w1 w.heap.size 46 #[.int .u32 (a : Int), .int .i64 (k : Int)] := (((Blk.new w _ _).alloc _).alloc _).below hb1 (by simp; omega)
  have B1 : Blk w1 (w.heap.size + 1) 46 #[.int .u32 0, .int .i64 0] := ((by simpa using Blk.new (w.alloc (.cells #[.int .u32 (a : Int), .int .i64 (k : Int)] 46)) 46 #[.int .u32 0, .int .i64 0] : Blk _ (w.heap.size + 1) _ _).alloc _).below hb1 (by simp)
  have B2 : Blk w1 (w.heap.size + 2) 46 #[.int .u32 0, .int .i64 0] := (by simpa using Blk.new ((w.alloc (.cells #[.int .u32 (a : Int), .int .i64 (k : Int)] 46)).alloc (.cells #[.int .u32 0, .int .i64 0] 46)) 46 #[.int .u32 0, .int .i64 0] : Blk _ (w.heap.size + 2) _ _).below hb1 (by simp)
  have hbw : Below w.heap.size w w1 := ((((Below.refl _ w).alloc (Nat.le_refl _) _).alloc (by simp) _).alloc (by simp; omega) _).trans (hb1.mono (by simp; omega))
  have r0 := B0.cell 0
  have r1 := B0.cell 1
  have s0 := B1.cell 0
  have s1 := B1.cell 1
  have t0 := B2.cell 0
  have t1 := B2.cell 1
  have p0 := B1.frozen 0
  have p1 := B1.frozen 1
  have q0 := B2.frozen 0
  have q1 := B2.frozen 1
  simp at r0 r1 s0 s1 t0 t1
  clear hb1
  go_wp2_with fail
  refine code_gen (fun w3 => Blk w3 w.heap.size 46 #[.int .u32 (a : Int), .int .i64 (k : Int)] ∧ Blk w3 (w.heap.size + 1) 46 #[.int .u32 (a : Int), .int .i64 ((k : Int) + 1)] ∧ Blk w3 (w.heap.size + 2) 46 #[.int .u32 0, .int .i64 0] ∧ Below w.heap.size w w3)
    ⟨(B0.far (by simp) _).far (by simp) _, (B1.set_ 0 _).set_ 1 _, (B2.far (by simp) _).far (by simp) _, (hbw.setCell (by simp) _).setCell (by simp) _⟩ ?_
  clear r0 r1 s0 s1 t0 t1 p0 p1 q0 q1 hbw B0 B1 B2
  rintro w3 ⟨B0, B1, B2, hbw⟩
  have r0 := B0.cell 0
  have r1 := B0.cell 1
  have s0 := B1.cell 0
  have s1 := B1.cell 1
  have t0 := B2.cell 0
  have t1 := B2.cell 1
  have p0 := B1.frozen 0
  have p1 := B1.frozen 1
  have q0 := B2.frozen 0
  have q1 := B2.frozen 1
  simp at r0 r1 s0 s1 t0 t1
  have hsh := half_w1 k hk
  have hsl := half_w2 k hk
  have hsp := half_w3 k hk
  refine wp_region_still_tail 11 (by kernel_rfl) (by kernel_rfl) ?_
  simp only [List.take_succ_cons, List.take_zero, List.drop_succ_cons, List.drop_zero]
  repeat still_step
  rw [hor.out]
  refine wpStill_nil ?_
  refine wpList_gen (fun w4 => Blk w4 w.heap.size 46 #[.int .u32 (a : Int), .int .i64 (k : Int)] ∧ Blk w4 (w.heap.size + 1) 46 #[.int .u32 (a : Int), .int .i64 ((k : Int) + 1)] ∧ Blk w4 (w.heap.size + 2) 46 #[.int .u32 0, .int .i64 0] ∧ Below w.heap.size w w4)
    ⟨B0.drew, B1.drew, B2.drew, hbw.drew⟩ ?_
  clear r0 r1 s0 s1 t0 t1 p0 p1 q0 q1 hbw B0 B1 B2
  rintro w4 ⟨B0, B1, B2, hbw⟩
  have q0 := B2.frozen 0
  have q1 := B2.frozen 1
  have t0 := B2.cell 0
  have t1 := B2.cell 1
  simp at t0 t1
  obtain ⟨Y, hY⟩ : ∃ Y, a + 2 ^ (31 - k) = Y := ⟨_, rfl⟩
  rw [hY]
  have HY := hide hY
  clear hY
  go_wp2_with fail
  refine code_gen (fun w5 => Blk w5 (w.heap.size + 1) 46 #[.int .u32 (a : Int), .int .i64 ((k : Int) + 1)] ∧ Blk w5 (w.heap.size + 2) 46 #[.int .u32 (Y : Int), .int .i64 ((k : Int) + 1)] ∧ Below w.heap.size w w5)
    ⟨(B1.far (by simp) _).far (by simp) _, (B2.set_ 0 _).set_ 1 _, (hbw.setCell (by simp; omega) _).setCell (by simp; omega) _⟩ ?_
  clear t0 t1 q0 q1 hbw B0 B1 B2
  rintro w5 ⟨B1, B2, hbw⟩
  have s0 := B1.cell 0
  have s1 := B1.cell 1
  have t0 := B2.cell 0
  have t1 := B2.cell 1
  have p0 := B1.frozen 0
  have p1 := B1.frozen 1
  have q0 := B2.frozen 0
  have q1 := B2.frozen 1
  simp at s0 s1 t0 t1
  go_region
  go_wp2
  refine bodyPost_ret (v := .tuple #[.agg #[.int .u32 (a : Int), .int .i64 ((k : Int) + 1)], .agg #[.int .u32 (Y : Int), .int .i64 ((k : Int) + 1)], .bool true]) (by simp [results, Tryd.results36, go_sem, s0, s1, t0, t1, p0, p1, q0, q1]) rfl ⟨by rw [HY.out], ?_⟩
  exact ((((hbw.setCell (by simp) _).setCell (by simp) _).setCell (by simp; omega) _).setCell (by simp; omega) _).drew

set_option maxRecDepth 100000 in
set_option maxHeartbeats 1000000 in
theorem halves_bad1 (a : Nat) (n : Int) (ha : a < 4294967296) (h1 : -9223372036854775808 ≤ n) (h2 : n ≤ 9223372036854775807) (hg : goodB a n = false) (w : World) :
    Calls Tryd.prog 36 #[pfx a n] w fun e w' => e = .returned (.tuple #[pfx 0 0, pfx 0 0, .bool false]) ∧ Below w.heap.size w w' := by
  have hgd := good_any a n ha h1 h2
  rw [hg] at hgd
  unfold pfx at hgd ⊢
  have HG := hide hgd
  clear hgd hg
  go_enter Tryd.func36, Tryd.ntmps36
  go_wp2_with fail
  refine (HG.out _).mono ?_
  rintro e w1 ⟨rfl, hb1⟩
  have B0 : Blk w1 w.heap.size 46 #[.int .u32 (a : Int), .int .i64 n] := (((Blk.new w _ _).alloc _).alloc _).below hb1 (by simp; omega)
  have B1 : Blk w1 (w.heap.size + 1) 46 #[.int .u32 0, .int .i64 0] := ((by simpa using Blk.new (w.alloc (.cells #[.int .u32 (a : Int), .int .i64 n] 46)) 46 #[.int .u32 0, .int .i64 0] : Blk _ (w.heap.size + 1) _ _).alloc _).below hb1 (by simp)
  have B2 : Blk w1 (w.heap.size + 2) 46 #[.int .u32 0, .int .i64 0] := (by simpa using Blk.new ((w.alloc (.cells #[.int .u32 (a : Int), .int .i64 n] 46)).alloc (.cells #[.int .u32 0, .int .i64 0] 46)) 46 #[.int .u32 0, .int .i64 0] : Blk _ (w.heap.size + 2) _ _).below hb1 (by simp)
  have hbw : Below w.heap.size w w1 := ((((Below.refl _ w).alloc (Nat.le_refl _) _).alloc (by simp) _).alloc (by simp; omega) _).trans (hb1.mono (by simp; omega))
  have r0 := B0.cell 0
  have r1 := B0.cell 1
  have s0 := B1.cell 0
  have s1 := B1.cell 1
  have t0 := B2.cell 0
  have t1 := B2.cell 1
  have p0 := B1.frozen 0
  have p1 := B1.frozen 1
  have q0 := B2.frozen 0
  have q1 := B2.frozen 1
  simp at r0 r1 s0 s1 t0 t1
  clear hb1
  go_wp2_with fail
  go_region
  go_wp2
  refine bodyPost_ret (v := .tuple #[.agg #[.int .u32 0, .int .i64 0], .agg #[.int .u32 0, .int .i64 0], .bool false]) (by simp [results, Tryd.results36, go_sem, s0, s1, t0, t1, p0, p1, q0, q1]) rfl ⟨rfl, ?_⟩
  exact ((((hbw.setCell (by simp) _).setCell (by simp) _).setCell (by simp; omega) _).setCell (by simp; omega) _).drew

set_option maxRecDepth 100000 in
set_option maxHeartbeats 1000000 in
theorem halves_bad2 (a : Nat) (ha : a < 4294967296) (hg : goodB a 32 = true) (w : World) :
    Calls Tryd.prog 36 #[pfx a 32] w fun e w' => e = .returned (.tuple #[pfx 0 0, pfx 0 0, .bool false]) ∧ Below w.heap.size w w' := by
  have hgd := good_any a 32 ha (by omega) (by omega)
  rw [hg] at hgd
  unfold pfx at hgd ⊢
  have HG := hide hgd
  clear hgd hg
  go_enter Tryd.func36, Tryd.ntmps36
  go_wp2_with fail
  refine (HG.out _).mono ?_
  rintro e w1 ⟨rfl, hb1⟩
  have B0 : Blk w1 w.heap.size 46 #[.int .u32 (a : Int), .int .i64 32] := (((Blk.new w _ _).alloc _).alloc _).below hb1 (by simp; omega)
  have B1 : Blk w1 (w.heap.size + 1) 46 #[.int .u32 0, .int .i64 0] := ((by simpa using Blk.new (w.alloc (.cells #[.int .u32 (a : Int), .int .i64 32] 46)) 46 #[.int .u32 0, .int .i64 0] : Blk _ (w.heap.size + 1) _ _).alloc _).below hb1 (by simp)
  have B2 : Blk w1 (w.heap.size + 2) 46 #[.int .u32 0, .int .i64 0] := (by simpa using Blk.new ((w.alloc (.cells #[.int .u32 (a : Int), .int .i64 32] 46)).alloc (.cells #[.int .u32 0, .int .i64 0] 46)) 46 #[.int .u32 0, .int .i64 0] : Blk _ (w.heap.size + 2) _ _).below hb1 (by simp)
  have hbw : Below w.heap.size w w1 := ((((Below.refl _ w).alloc (Nat.le_refl _) _).alloc (by simp) _).alloc (by simp; omega) _).trans (hb1.mono (by simp; omega))
  have r0 := B0.cell 0
  have r1 := B0.cell 1
  have s0 := B1.cell 0
  have s1 := B1.cell 1
  have t0 := B2.cell 0
  have t1 := B2.cell 1
  have p0 := B1.frozen 0
  have p1 := B1.frozen 1
  have q0 := B2.frozen 0
  have q1 := B2.frozen 1
  simp at r0 r1 s0 s1 t0 t1
  clear hb1
  go_wp2_with fail
  go_region
  go_wp2
  refine bodyPost_ret (v := .tuple #[.agg #[.int .u32 0, .int .i64 0], .agg #[.int .u32 0, .int .i64 0], .bool false]) (by simp [results, Tryd.results36, go_sem, s0, s1, t0, t1, p0, p1, q0, q1]) rfl ⟨rfl, ?_⟩
  exact ((((hbw.setCell (by simp) _).setCell (by simp) _).setCell (by simp; omega) _).setCell (by simp; omega) _).drew
theorem half_form (a k : Nat) (ha : a < 4294967296) (hk : k < 32) (hg : goodB a (k : Int) = true) :
    ∃ q D, 0 < D ∧ 2 ^ (31 - k) = D ∧ 2 ^ (32 - k) = 2 * D ∧ a = q * (2 * D) ∧ (2 * q + 1) * D < 4294967296 := by
  have g := (goodB_iff a k).1 hg
  have hm : a % 2 ^ (32 - k) = 0 := (cutN_fix a k).1 (by simpa using g.2.2)
  have e2 : (2 : Nat) ^ (32 - k) = 2 * 2 ^ (31 - k) := by rw [← Nat.pow_succ']; congr 1; omega
  have ea : a = (a / 2 ^ (32 - k)) * 2 ^ (32 - k) := by have := Nat.div_add_mod' a (2 ^ (32 - k)); omega
  have e3 : 2 ^ (k + 1) * 2 ^ (31 - k) = 4294967296 := by rw [← Nat.pow_add, show k + 1 + (31 - k) = 32 by omega]
  have e4 : (2 : Nat) ^ (k + 1) = 2 * 2 ^ k := by rw [Nat.pow_succ']
  refine ⟨a / 2 ^ (32 - k), 2 ^ (31 - k), Nat.two_pow_pos _, rfl, e2, by rw [← e2]; exact ea, ?_⟩
  generalize a / 2 ^ (32 - k) = q at *
  have hq : 2 * q < 2 ^ (k + 1) := by
    have : (2 * q) * 2 ^ (31 - k) < 2 ^ (k + 1) * 2 ^ (31 - k) := by rw [e3, Nat.mul_comm 2 q, Nat.mul_assoc, ← e2, ← ea]; exact ha
    exact Nat.lt_of_mul_lt_mul_right this
  have : 2 * q + 1 < 2 ^ (k + 1) := by omega
  calc (2 * q + 1) * 2 ^ (31 - k) < 2 ^ (k + 1) * 2 ^ (31 - k) := Nat.mul_lt_mul_of_pos_right this (Nat.two_pow_pos _)
    _ = 4294967296 := e3

/-- The halves' law. -/
theorem halves_law (a k x : Nat) (ha : a < 4294967296) (hx : x < 4294967296) (hk : k < 32) (hg : goodB a (k : Int) = true) (Y : Nat) (hY : a + 2 ^ (31 - k) = Y) :
    Y < 4294967296 ∧ a < Y ∧ goodB a ((k : Int) + 1) = true ∧ goodB Y ((k : Int) + 1) = true ∧
    ((refCovB a k x 32 = true ∧ refCovB a ((k : Int) + 1) x 32 = true ∧ refCovB Y ((k : Int) + 1) x 32 = false) ∨ (refCovB a k x 32 = true ∧ refCovB a ((k : Int) + 1) x 32 = false ∧ refCovB Y ((k : Int) + 1) x 32 = true) ∨
     (refCovB a k x 32 = false ∧ refCovB a ((k : Int) + 1) x 32 = false ∧ refCovB Y ((k : Int) + 1) x 32 = false)) := by
  obtain ⟨q, D, hD, d1, d2, ea, hYl⟩ := half_form a k ha hk hg
  have eY : Y = (2 * q + 1) * D := by rw [← hY, ea, d1, Nat.add_mul, Nat.one_mul, Nat.mul_assoc 2 q D, Nat.mul_left_comm]
  have ea2 : a = 2 * q * D := by rw [ea, Nat.mul_comm 2 q, Nat.mul_assoc]
  have g1 : goodB a ((k : Int) + 1) = true := by
    rw [goodB_iff]
    refine ⟨by omega, by omega, ?_⟩
    have : ((k : Int) + 1).toNat = k + 1 := by omega
    rw [this, cutN_fix, show 32 - (k + 1) = 31 - k by omega, d1, ea2, Nat.mul_mod_left]
  have g2 : goodB Y ((k : Int) + 1) = true := by
    rw [goodB_iff]
    refine ⟨by omega, by omega, ?_⟩
    have : ((k : Int) + 1).toNat = k + 1 := by omega
    rw [this, cutN_fix, show 32 - (k + 1) = 31 - k by omega, d1, eY, Nat.mul_mod_left]
  have g3 : goodB x 32 = true := by
    rw [goodB_iff]; exact ⟨by omega, by omega, cutN_32 x⟩
  have c0 : refCovB a k x 32 = decide (x / D / 2 = q) := by
    unfold refCovB
    rw [hg, g3, Bool.eq_iff_iff]
    have : ((k : Int)).toNat = k := by omega
    have hk2 : (k : Int) ≤ 32 := by omega
    rw [this]
    simp only [hk2, decide_true, Bool.true_and, Bool.and_true, beq_iff_eq, decide_eq_true_eq]
    unfold cutN
    rw [d2, ea, Nat.div_div_eq_div_mul, Nat.mul_comm D 2]
    exact ⟨fun h => Nat.eq_of_mul_eq_mul_right (by omega) h, fun h => by rw [h]⟩
  have c1 : refCovB a ((k : Int) + 1) x 32 = decide (x / D = 2 * q) := by
    unfold refCovB
    rw [g1, g3, Bool.eq_iff_iff]
    have : ((k : Int) + 1).toNat = k + 1 := by omega
    have hk2 : (k : Int) + 1 ≤ 32 := by omega
    rw [this]
    simp only [hk2, decide_true, Bool.true_and, Bool.and_true, beq_iff_eq, decide_eq_true_eq]
    unfold cutN
    rw [show 32 - (k + 1) = 31 - k by omega, d1, ea2]
    exact ⟨fun h => Nat.eq_of_mul_eq_mul_right hD h, fun h => by rw [h]⟩
  have c2 : refCovB Y ((k : Int) + 1) x 32 = decide (x / D = 2 * q + 1) := by
    unfold refCovB
    rw [g2, g3, Bool.eq_iff_iff]
    have : ((k : Int) + 1).toNat = k + 1 := by omega
    have hk2 : (k : Int) + 1 ≤ 32 := by omega
    rw [this]
    simp only [hk2, decide_true, Bool.true_and, Bool.and_true, beq_iff_eq, decide_eq_true_eq]
    unfold cutN
    rw [show 32 - (k + 1) = 31 - k by omega, d1, eY]
    exact ⟨fun h => Nat.eq_of_mul_eq_mul_right hD h, fun h => by rw [h]⟩
  refine ⟨by rw [eY]; exact hYl, by rw [← hY, d1]; omega, g1, g2, ?_⟩
  rw [c0, c1, c2]
  generalize x / D = u
  rcases (show u = 2 * q ∨ u = 2 * q + 1 ∨ (u ≠ 2 * q ∧ u ≠ 2 * q + 1) by omega) with h | h | h
  · left; simp; omega
  · right; left; simp; omega
  · right; right; simp; omega
end Go.Proofs.YtiibglkiakhfgaaDoor
