import Derived.Test.YtiibglkiakhfgaaDoorPrefixHalvesF
set_option linter.unusedSimpArgs false
set_option linter.unusedVariables false
namespace Go.Proofs.YtiibglkiakhfgaaDoor
open Go.RowKit
structure GB (z : Nat) (j : Int) : Prop where
  lt : z < 4294967296
  good : goodB z j = true
structure CB (x z : Nat) (j : Int) (c : Bool) : Prop where
  lt : z < 4294967296
  cov : refCovB z j x 32 = c
theorem gb_call (z : Nat) (j : Int) (h : GB z j) (w : World) : Calls Tryd.prog 32 #[.agg #[.int .u32 (z : Int), .int .i64 j]] w (GoodP true w) := by
  have := refGood_any z j h.lt w
  rwa [h.good] at this
theorem cb_call (x : Nat) (hx : x < 4294967296) (z : Nat) (j : Int) (c : Bool) (h : CB x z j c) (w : World) : Calls Tryd.prog 37 #[.agg #[.int .u32 (z : Int), .int .i64 j], .agg #[.int .u32 (x : Int), .int .i64 32]] w (GoodP c w) := by
  have := refCovers_any z j x 32 h.lt hx w
  rwa [h.cov] at this
set_option maxRecDepth 100000 in
set_option maxHeartbeats 4000000 in
theorem prefixHalves_good (a k x : Nat) (ha : a < 4294967296) (hx : x < 4294967296) (hk : k < 32) (hg : goodB a (k : Int) = true) (w : World) (ht : Tab w) :
    Calls Tryd.prog 7 #[pfx a k, .int .u32 x] w (GoodP true w) := by
  obtain ⟨Y, hY⟩ : ∃ Y, a + 2 ^ (31 - k) = Y := ⟨_, rfl⟩
  obtain ⟨hYl, hlt, g1, g2, hcs⟩ := halves_law a k x ha hx hk hg Y hY
  have qh := halves_good a k ha hk hg
  rw [hY] at qh
  have qg := refGood_any a (k : Int) ha
  rw [hg] at qg
  have GX : GB a ((k : Int) + 1) := ⟨ha, g1⟩
  have GY : GB Y ((k : Int) + 1) := ⟨hYl, g2⟩
  have V0 : CB x a (k : Int) (refCovB a (k : Int) x 32) := ⟨ha, rfl⟩
  have V1 : CB x a ((k : Int) + 1) (refCovB a ((k : Int) + 1) x 32) := ⟨ha, rfl⟩
  have V2 : CB x Y ((k : Int) + 1) (refCovB Y ((k : Int) + 1) x 32) := ⟨hYl, rfl⟩
  have HV := hide (cb_call x hx)
  generalize refCovB a (k : Int) x 32 = c0 at *
  generalize refCovB a ((k : Int) + 1) x 32 = c1 at *
  generalize refCovB Y ((k : Int) + 1) x 32 = c2 at *
  unfold pfx at qh qg ⊢
  have QH := hide qh
  have QG := hide qg
  have hk1 : ¬ (k : Int) = 32 := by omega
  clear qh qg g1 g2 hY hg ha hx hYl
  have hend : ∀ w3 : World, Below w.heap.size w w3 → ∀ y, Below w.heap.size w (far w3 y) := fun w3 h y => h.trans ((below_far _ _).mono h.size)
  have HE := hide hend
  clear hend
  go_enter Tryd.func7, Tryd.ntmps7
  go_wp2_with fail
  refine (QH.out _).mono ?_
  rintro e w1 ⟨rfl, hb1⟩
  have B0 : Blk w1 w.heap.size 46 #[.int .u32 (a : Int), .int .i64 (k : Int)] := (Blk.new w _ _).below hb1 (by simp)
  have hbw : Below w.heap.size w w1 := ((Below.refl _ w).alloc (Nat.le_refl _) _).trans (hb1.mono (by simp))
  have hz := B0.lt
  have r0 := B0.cell 0
  have r1 := B0.cell 1
  simp at r0 r1
  clear hb1
  go_wp2_with fail
  refine (QG.out _).mono ?_
  rintro e w2 ⟨rfl, hb2⟩
  have hbw2 : Below w.heap.size w w2 := ((hbw.alloc (Nat.le_of_lt hz) _).alloc (by simp; omega) _).trans (hb2.mono (by simp; omega))
  have C0 : Blk w2 w.heap.size 46 #[.int .u32 (a : Int), .int .i64 (k : Int)] := ((B0.alloc _).alloc _).below hb2 (by simp; omega)
  have C1 : Blk w2 w1.heap.size 46 #[.int .u32 (a : Int), .int .i64 ((k : Int) + 1)] := ((Blk.new w1 _ _).alloc _).below hb2 (by simp; omega)
  have C2 : Blk w2 (w1.heap.size + 1) 46 #[.int .u32 (Y : Int), .int .i64 ((k : Int) + 1)] := (by simpa using Blk.new (w1.alloc (.cells #[.int .u32 (a : Int), .int .i64 ((k : Int) + 1)] 46)) 46 #[.int .u32 (Y : Int), .int .i64 ((k : Int) + 1)] : Blk _ (w1.heap.size + 1) _ _).below hb2 (by simp)
  have hz0 := C0.lt
  have hz1 := C1.lt
  have hz2 := C2.lt
  have r0 := C0.cell 0
  have r1 := C0.cell 1
  simp at r0 r1
  clear hb2 hbw B0
  go_wp2_with fail
  refine code_gen (fun w3 => Blk w3 w.heap.size 46 #[.int .u32 (a : Int), .int .i64 (k : Int)] ∧ Blk w3 w1.heap.size 46 #[.int .u32 (a : Int), .int .i64 ((k : Int) + 1)] ∧ Blk w3 (w1.heap.size + 1) 46 #[.int .u32 (Y : Int), .int .i64 ((k : Int) + 1)] ∧
      Blk w3 w2.heap.size 46 #[.int .u32 (x : Int), .int .i64 32] ∧ Below w.heap.size w w3) ⟨C0.alloc _, C1.alloc _, C2.alloc _, Blk.new _ _ _, hbw2.alloc hbw2.size _⟩ ?_
  clear r0 r1 C0 C1 C2 hbw2 hz hz0 hz1 hz2
  rintro w3 ⟨D0, D1, D2, D3, hbw⟩
  have k0 := fun y => cell?_far y (blk_read D0 (i := 0) rfl)
  have k1 := fun y => cell?_far y (blk_read D0 (i := 1) rfl)
  have k2 := fun y => cell?_far y (blk_read D1 (i := 0) rfl)
  have k3 := fun y => cell?_far y (blk_read D1 (i := 1) rfl)
  have k4 := fun y => cell?_far y (blk_read D2 (i := 0) rfl)
  have k5 := fun y => cell?_far y (blk_read D2 (i := 1) rfl)
  have k6 := fun y => cell?_far y (blk_read D3 (i := 0) rfl)
  have k7 := fun y => cell?_far y (blk_read D3 (i := 1) rfl)
  have hE2 := HE.out w3 hbw
  have hT : ∀ y, Tab (far w3 y) := fun y => ht.below (hE2 y)
  have HE2 := hide hE2
  have HT := hide hT
  clear HE hE2 hT hbw D0 D1 D2 D3
  have hltb : decide ((a : Int) < (Y : Int)) = true := by simp; omega
  rcases hcs with ⟨rfl, rfl, rfl⟩ | ⟨rfl, rfl, rfl⟩ | ⟨rfl, rfl, rfl⟩
  all_goals
    refine wp_region_far (by kernel_rfl) (by kernel_rfl) ?_
    iterate 61 (go_big_quiet_step ((first | (go_at_call 32; exact far_call (gb_call _ _ (by assumption) _)) | (go_at_call 37; exact far_call (HV.out _ _ _ (by assumption) _)) | (go_at_call 35; exact far_call (plives_any _ (HT.out _))))))
    refine wpQuiet_nil ?_
    rintro _ ⟨nq, rfl⟩
    go_wp2
    go_ret
    exact ⟨rfl, HE2.out _⟩

set_option maxRecDepth 100000 in
set_option maxHeartbeats 2000000 in
theorem prefixHalves_bad1 (a : Nat) (n : Int) (x : Nat) (ha : a < 4294967296) (h1 : -9223372036854775808 ≤ n) (h2 : n ≤ 9223372036854775807) (hg : goodB a n = false) (w : World) (ht : Tab w) :
    Calls Tryd.prog 7 #[pfx a n, .int .u32 x] w (GoodP true w) := by
  have qh := halves_bad1 a n ha h1 h2 hg
  have qg := refGood_any a n ha
  rw [hg] at qg
  unfold pfx at qh qg ⊢
  have QH := hide qh
  have QG := hide qg
  clear qh qg hg ha h1 h2
  go_enter Tryd.func7, Tryd.ntmps7
  go_wp2_with fail
  refine (QH.out _).mono ?_
  rintro e w1 ⟨rfl, hb1⟩
  have B0 : Blk w1 w.heap.size 46 #[.int .u32 (a : Int), .int .i64 n] := (Blk.new w _ _).below hb1 (by simp)
  have hbw : Below w.heap.size w w1 := ((Below.refl _ w).alloc (Nat.le_refl _) _).trans (hb1.mono (by simp))
  have hz := B0.lt
  have r0 := B0.cell 0
  have r1 := B0.cell 1
  simp at r0 r1
  clear hb1
  go_wp2_with fail
  refine (QG.out _).mono ?_
  rintro e w2 ⟨rfl, hb2⟩
  have hbw2 : Below w.heap.size w w2 := ((hbw.alloc (Nat.le_of_lt hz) _).alloc (by simp; omega) _).trans (hb2.mono (by simp; omega))
  have C1 : Blk w2 w1.heap.size 46 #[.int .u32 0, .int .i64 0] := ((Blk.new w1 _ _).alloc _).below hb2 (by simp; omega)
  have C2 : Blk w2 (w1.heap.size + 1) 46 #[.int .u32 0, .int .i64 0] := (by simpa using Blk.new (w1.alloc (.cells #[.int .u32 0, .int .i64 0] 46)) 46 #[.int .u32 0, .int .i64 0] : Blk _ (w1.heap.size + 1) _ _).below hb2 (by simp)
  have s0 := C1.cell 0
  have s1 := C1.cell 1
  have t0 := C2.cell 0
  have t1 := C2.cell 1
  simp at s0 s1 t0 t1
  clear hb2 hbw B0
  go_wp2_with fail
  refine (plives_any _ (ht.below hbw2)).mono ?_
  rintro e w3 ⟨rfl, hb3⟩
  go_wp2
  go_ret
  exact ⟨rfl, hbw2.trans (hb3.mono hbw2.size)⟩

set_option maxRecDepth 100000 in
set_option maxHeartbeats 2000000 in
theorem prefixHalves_bad2 (a : Nat) (x : Nat) (ha : a < 4294967296) (hg : goodB a 32 = true) (w : World) (ht : Tab w) :
    Calls Tryd.prog 7 #[pfx a 32, .int .u32 x] w (GoodP true w) := by
  have qh := halves_bad2 a ha hg
  have qg := refGood_any a 32 ha
  rw [hg] at qg
  unfold pfx at qh qg ⊢
  have QH := hide qh
  have QG := hide qg
  clear qh qg hg ha
  go_enter Tryd.func7, Tryd.ntmps7
  go_wp2_with fail
  refine (QH.out _).mono ?_
  rintro e w1 ⟨rfl, hb1⟩
  have B0 : Blk w1 w.heap.size 46 #[.int .u32 (a : Int), .int .i64 32] := (Blk.new w _ _).below hb1 (by simp)
  have hbw : Below w.heap.size w w1 := ((Below.refl _ w).alloc (Nat.le_refl _) _).trans (hb1.mono (by simp))
  have hz := B0.lt
  have r0 := B0.cell 0
  have r1 := B0.cell 1
  simp at r0 r1
  clear hb1
  go_wp2_with fail
  refine (QG.out _).mono ?_
  rintro e w2 ⟨rfl, hb2⟩
  have hbw2 : Below w.heap.size w w2 := ((hbw.alloc (Nat.le_of_lt hz) _).alloc (by simp; omega) _).trans (hb2.mono (by simp; omega))
  have C1 : Blk w2 w1.heap.size 46 #[.int .u32 0, .int .i64 0] := ((Blk.new w1 _ _).alloc _).below hb2 (by simp; omega)
  have C2 : Blk w2 (w1.heap.size + 1) 46 #[.int .u32 0, .int .i64 0] := (by simpa using Blk.new (w1.alloc (.cells #[.int .u32 0, .int .i64 0] 46)) 46 #[.int .u32 0, .int .i64 0] : Blk _ (w1.heap.size + 1) _ _).below hb2 (by simp)
  have C0 : Blk w2 w.heap.size 46 #[.int .u32 (a : Int), .int .i64 32] := ((B0.alloc _).alloc _).below hb2 (by simp; omega)
  have u0 := C0.cell 0
  have u1 := C0.cell 1
  simp at u0 u1
  have s0 := C1.cell 0
  have s1 := C1.cell 1
  have t0 := C2.cell 0
  have t1 := C2.cell 1
  simp at s0 s1 t0 t1
  clear hb2 hbw B0
  go_wp2_with fail
  refine (plives_any _ (ht.below hbw2)).mono ?_
  rintro e w3 ⟨rfl, hb3⟩
  go_wp2
  go_ret
  exact ⟨rfl, hbw2.trans (hb3.mono hbw2.size)⟩

theorem prefixHalves_any (a : Nat) (n : Int) (x : Nat) (ha : a < 4294967296) (hx : x < 4294967296) (h1 : -9223372036854775808 ≤ n) (h2 : n ≤ 9223372036854775807) (w : World) (ht : Tab w) :
    Calls Tryd.prog 7 #[pfx a n, .int .u32 x] w (GoodP true w) := by
  cases hg : goodB a n
  · exact prefixHalves_bad1 a n x ha h1 h2 hg w ht
  · have g := (goodB_iff a n).1 hg
    obtain ⟨k, rfl⟩ := Int.eq_ofNat_of_zero_le g.1
    by_cases hk : k < 32
    · exact prefixHalves_good a k x ha hx hk hg w ht
    · obtain rfl : k = 32 := by omega
      exact prefixHalves_bad2 a x ha hg w ht
end Go.Proofs.YtiibglkiakhfgaaDoor
