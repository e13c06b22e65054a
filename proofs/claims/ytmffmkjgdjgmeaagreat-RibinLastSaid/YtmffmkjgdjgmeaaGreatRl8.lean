import Derived.Test.YtmffmkjgdjgmeaaGreatRl7
set_option linter.unusedSimpArgs false
set_option linter.unusedVariables false
namespace Go.Proofs.YtmffmkjgdjgmeaaGreat
open Go.RowKit Go.WideShapes Go.ChangeShapes
attribute [local go_sem] Oper.semAt_some
theorem refANormY_any (x : AT) (v : Value) (w : World) (hv : AtR w x v) (hn : numS x.path ≤ 10000) (hn2 : x.path.length ≤ 100000) (hm : x.comms.length ≤ 10000) : Calls Tryz.prog 74 #[v] w (AtP (normA x) w) := by
 obtain ⟨A, n, c, B, m, d, rfl, hP, hC⟩ := hv; obtain ⟨h, o, pl, hp, md, pf, aa, ai, cl⟩ := x; exact refANorm_any h o A n c hp md pf aa ai B m d pl cl w hP hC hn (by rw [← hP.1]; exact hn2) (by rw [← hC.1]; exact hm)
set_option maxRecDepth 100000 in
set_option maxHeartbeats 8000000 in
theorem refacc_has (own ax : Nat) (X Y : AT) (v : Value) (w : World) (hv : AtR w X v) (hn : numS X.path ≤ 10000) (hn2 : X.path.length ≤ 100000) (hm : X.comms.length ≤ 10000) (hY : normA X = Y) (hh : pathHas X.path own = true) :
  Calls Tryz.prog 28 #[.int .u32 (own : Int), .int .u32 (ax : Int), v] w fun e w' => ∃ v', e = .returned (.tuple #[v', .bool false]) ∧ AtO w.heap.size w' Y v' ∧ Below w.heap.size w w' := by
 obtain ⟨A, n, c, B, m, d, rfl, hP, hC⟩ := hv; obtain ⟨w0, hw0⟩ : ∃ w0, (w.alloc (.cells (aC X A n c B m d) 28)).alloc (.cells zeroA 28) = w0 := ⟨_, rfl⟩
 have hb0 : Below w.heap.size w w0 := hw0 ▸ blkBelow2 w _ _; have hs0 : w0.heap.size = w.heap.size + 2 := (by rw [← hw0]; simp)
 have HK : Hid (Blk w0 (w.heap.size) 28 (aC X A n c B m d)) := hide (hw0 ▸ (Blk.new w _ _).alloc _); have HZ : Hid (Blk w0 (w.heap.size + 1) 28 zeroA) := hide (hw0 ▸ blk_new' _ _ (by simp)); have HNm := hide (refANormY_any X (atV X.has X.org A n c X.hop X.med X.pref X.aas X.aid B m d) w0 ⟨A, n, c, B, m, d, rfl, hP.below sgMono hb0, hC.below hb0⟩ hn hn2 hm); rw [hY] at HNm; have HPp := hide (fun W (hb : Below w.heap.size w W) => hP.below sgMono hb); have HAl := hide (fun W (hb : Below w.heap.size w W) => refAll04_any A n c X.path W (hP.below sgMono hb) hn); have HHs := hide (fun A' n' c' W (hu : U32s W A' n' c' (setOf (flatS X.path))) => refHas_any A' n' c' (setOf (flatS X.path)) own W hu); rw [flatS_has, hh] at HHs; have HB0 := hide hb0; have HS0 := hide hs0; have HW0 := hide hw0
 clear hw0 hb0 hP hC hn hn2 hm hY hh hs0; obtain ⟨x0, x1, x2, x3, x4, x5, x6, x7, x8⟩ := blk9 HK.out
 go_enter Tryz.func28, Tryz.ntmps28
 go_wp2_with fail
 rw [HW0.out]; refine HNm.out.mono ?_; rintro e w1 ⟨v6, rfl, ⟨A6, n6, c6, xs6, B6, m6, d6, rfl, hl6, hu6⟩, hb1⟩; obtain ⟨w2, hw2⟩ : ∃ W, w1.alloc (.cells (aC Y A6 n6 c6 B6 m6 d6) 28) = W := ⟨_, rfl⟩
 have hb2 : Below w1.heap.size w1 w2 := hw2 ▸ blkBelow1 w1 _; have HY2 : Hid (Blk w2 w1.heap.size 28 (aC Y A6 n6 c6 B6 m6 d6)) := hide (hw2 ▸ Blk.new w1 _ _); have HB1 := hide (btr HB0.out hb1); have HB2 := hide (btr HB1.out hb2); have HK1 := hide (HK.out.below hb1 HK.out.lt); have HK2 := hide (HK1.out.below hb2 HK1.out.lt); have HZ1 := hide (HZ.out.below hb1 HZ.out.lt); have HZ2 := hide (HZ1.out.below hb2 HZ1.out.lt); have HAt : Hid (AtO w0.heap.size w1 Y (atV Y.has Y.org A6 n6 c6 Y.hop Y.med Y.pref Y.aas Y.aid B6 m6 d6)) := hide ⟨A6, n6, c6, xs6, B6, m6, d6, rfl, hl6, hu6⟩; have HW2 := hide hw2; have HS1 := hide hb1.size; have HBe2 := hide hb2; clear hw2 hb1 hb2 hl6 hu6 x0 x1 x2 x3 x4 x5 x6 x7 x8; obtain ⟨x0, x1, x2, x3, x4, x5, x6, x7, x8⟩ := blk9 HK2.out
 go_upto_region 2 with fail
 rw [HW2.out]
 go_wp2_with fail
 refine (HAl.out _ HB2.out).mono ?_; rintro e w4 ⟨A3, n3, c3, rfl, hu3, hb4⟩; have HHx := hide (HHs.out A3 n3 c3 w4 hu3); clear hu3
 go_wp2_with fail
 refine HHx.out.mono ?_; rintro e w44 ⟨rfl, hw44⟩; subst hw44; have HY4 := hide (HY2.out.below hb4 HY2.out.lt); have HZ4 := hide (HZ2.out.below hb4 HZ2.out.lt); have HC4 : Hid (ChgS (fun _ => False) w1 w4) := hide (chg_below (btr HBe2.out hb4)); have hso : w.heap.size + 1 < w1.heap.size := (by have := HS1.out; have := HS0.out; omega)
 clear hb4 x0 x1 x2 x3 x4 x5 x6 x7 x8; obtain ⟨y0, y1, y2, y3, y4, y5, y6, y7, y8⟩ := blk9 HY4.out; obtain ⟨z0, z1, z2, z3, z4, z5, z6, z7, z8⟩ := blk9 HZ4.out; have zf := fun i => HZ4.out.frozen i; go_wp2; change bodyPost _ _ _ _ _ (w4.setCells (w.heap.size + 1) 0 (aL Y A6 n6 c6 B6 m6 d6)); obtain ⟨wF, hwF⟩ : ∃ x, w4.setCells (w.heap.size + 1) 0 (aL Y A6 n6 c6 B6 m6 d6) = x := ⟨_, rfl⟩
 have HFk := hide (hwF ▸ blk_sets (aL Y A6 n6 c6 B6 m6 d6) [] zeroL HZ4.out rfl : Blk wF (w.heap.size + 1) 28 (aC Y A6 n6 c6 B6 m6 d6)); have HFc : Hid (ChgS (fun k => k = w.heap.size + 1) w1 wF) := hide (hwF ▸ chg_trans (chg_mono HC4.out (fun k h => h.elim)) (chg_sets (S := fun k => k = w.heap.size + 1) rfl [.int .i64 Y.has, .int .i64 Y.org, .slice A6 n6 c6, .int .u32 Y.hop, .int .u32 Y.med, .int .u32 Y.pref, .int .u32 Y.aas, .int .u32 Y.aid, .slice B6 m6 d6] 0) (fun k h => .inl h)); have HFb : Hid (Below w.heap.size w wF) := hide (chg_to_below (chg_trans (chg_below (S := fun k => w.heap.size ≤ k) HB1.out) HFc.out (fun k h => .inl (by omega))) (Nat.le_refl _) (fun k h => h)); rw [hwF]; clear hwF zf y0 y1 y2 y3 y4 y5 y6 y7 y8 z0 z1 z2 z3 z4 z5 z6 z7 z8; obtain ⟨q0, q1, q2, q3, q4, q5, q6, q7, q8⟩ := blk9 HFk.out; have hAF := ato_chg HAt.out HFc.out (fun k h1 h2 h3 => by have := HS0.out; omega); have hAC : AtO w.heap.size wF Y (.agg #[.int .i64 Y.has, .int .i64 Y.org, .slice A6 n6 c6, .int .u32 Y.hop, .int .u32 Y.med, .int .u32 Y.pref, .int .u32 Y.aas, .int .u32 Y.aid, .slice B6 m6 d6]) := hAF.less (by have := HS0.out; omega); refine bodyPost_ret (v := .tuple #[.agg #[.int .i64 Y.has, .int .i64 Y.org, .slice A6 n6 c6, .int .u32 Y.hop, .int .u32 Y.med, .int .u32 Y.pref, .int .u32 Y.aas, .int .u32 Y.aid, .slice B6 m6 d6], .bool false]) (by simp [results, Tryz.results28, go_sem, q0, q1, q2, q3, q4, q5, q6, q7, q8]) rfl ⟨_, rfl, hAC, HFb.out⟩
set_option maxRecDepth 100000 in
set_option maxHeartbeats 8000000 in
theorem refacc_pre (own : Nat) (X Y : AT) (v : Value) (w : World) (hv : AtR w X v) (hn : numS X.path ≤ 10000) (hn2 : X.path.length ≤ 100000) (hm : X.comms.length ≤ 10000) (hY : normA X = Y) (hh : pathHas X.path own = false) (h5 : attB Y.has 5 = true) :
  Calls Tryz.prog 28 #[.int .u32 (own : Int), .int .u32 (own : Int), v] w fun e w' => ∃ v', e = .returned (.tuple #[v', .bool true]) ∧ AtO w.heap.size w' Y v' ∧ Below w.heap.size w w' := by
 obtain ⟨A, n, c, B, m, d, rfl, hP, hC⟩ := hv; obtain ⟨w0, hw0⟩ : ∃ w0, (w.alloc (.cells (aC X A n c B m d) 28)).alloc (.cells zeroA 28) = w0 := ⟨_, rfl⟩
 have hb0 : Below w.heap.size w w0 := hw0 ▸ blkBelow2 w _ _; have hs0 : w0.heap.size = w.heap.size + 2 := (by rw [← hw0]; simp)
 have HK : Hid (Blk w0 (w.heap.size) 28 (aC X A n c B m d)) := hide (hw0 ▸ (Blk.new w _ _).alloc _); have HZ : Hid (Blk w0 (w.heap.size + 1) 28 zeroA) := hide (hw0 ▸ blk_new' _ _ (by simp)); have HNm := hide (refANormY_any X (atV X.has X.org A n c X.hop X.med X.pref X.aas X.aid B m d) w0 ⟨A, n, c, B, m, d, rfl, hP.below sgMono hb0, hC.below hb0⟩ hn hn2 hm); rw [hY] at HNm; have HPp := hide (fun W (hb : Below w.heap.size w W) => hP.below sgMono hb); have HAl := hide (fun W (hb : Below w.heap.size w W) => refAll04_any A n c X.path W (hP.below sgMono hb) hn); have HHs := hide (fun A' n' c' W (hu : U32s W A' n' c' (setOf (flatS X.path))) => refHas_any A' n' c' (setOf (flatS X.path)) own W hu); rw [flatS_has, hh] at HHs; have HB0 := hide hb0; have HS0 := hide hs0; have HW0 := hide hw0; have e1 : ((own : Int) == (own : Int)) = true := (by simp)
 have H5 := hide h5; clear hw0 hb0 hP hC hn hn2 hm hY hh hs0 h5; obtain ⟨x0, x1, x2, x3, x4, x5, x6, x7, x8⟩ := blk9 HK.out
 go_enter Tryz.func28, Tryz.ntmps28
 go_wp2_with fail
 rw [HW0.out]; refine HNm.out.mono ?_; rintro e w1 ⟨v6, rfl, ⟨A6, n6, c6, xs6, B6, m6, d6, rfl, hl6, hu6⟩, hb1⟩; obtain ⟨w2, hw2⟩ : ∃ W, w1.alloc (.cells (aC Y A6 n6 c6 B6 m6 d6) 28) = W := ⟨_, rfl⟩
 have hb2 : Below w1.heap.size w1 w2 := hw2 ▸ blkBelow1 w1 _; have HY2 : Hid (Blk w2 w1.heap.size 28 (aC Y A6 n6 c6 B6 m6 d6)) := hide (hw2 ▸ Blk.new w1 _ _); have HB1 := hide (btr HB0.out hb1); have HB2 := hide (btr HB1.out hb2); have HK1 := hide (HK.out.below hb1 HK.out.lt); have HK2 := hide (HK1.out.below hb2 HK1.out.lt); have HZ1 := hide (HZ.out.below hb1 HZ.out.lt); have HZ2 := hide (HZ1.out.below hb2 HZ1.out.lt); have HAt : Hid (AtO w0.heap.size w1 Y (atV Y.has Y.org A6 n6 c6 Y.hop Y.med Y.pref Y.aas Y.aid B6 m6 d6)) := hide ⟨A6, n6, c6, xs6, B6, m6, d6, rfl, hl6, hu6⟩; have HW2 := hide hw2; have HS1 := hide hb1.size; have HBe2 := hide hb2; clear hw2 hb1 hb2 hl6 hu6 x0 x1 x2 x3 x4 x5 x6 x7 x8; obtain ⟨x0, x1, x2, x3, x4, x5, x6, x7, x8⟩ := blk9 HK2.out
 go_upto_region 2 with fail
 rw [HW2.out]
 go_wp2_with fail
 refine (HAl.out _ HB2.out).mono ?_; rintro e w3 ⟨A3, n3, c3, rfl, hu3, hb3⟩; have HHx := hide (HHs.out A3 n3 c3 w3 hu3); clear hu3
 go_wp2_with fail
 refine HHx.out.mono ?_; rintro e w44 ⟨rfl, hw44⟩; subst hw44; have HY3 := hide (HY2.out.below hb3 HY2.out.lt); obtain ⟨y0, y1, y2, y3, y4, y5, y6, y7, y8⟩ := blk9 HY3.out
 go_wp2_with fail
 refine (refAHas_any 5 ⟨by decide, by decide⟩ _ _ _ _ _ _ _ _ _ _ _ _ _ w3).mono ?_; rw [H5.out]; rintro e w4 ⟨rfl, hb43⟩; have hb4 : Below w2.heap.size w2 w4 := hb3.trans (hb43.mono hb3.size); clear hb43 HY3 y0 y1 y2 y3 y4 y5 y6 y7 y8; have HY4 := hide (HY2.out.below hb4 HY2.out.lt); have HZ4 := hide (HZ2.out.below hb4 HZ2.out.lt); have HC4 : Hid (ChgS (fun _ => False) w1 w4) := hide (chg_below (btr HBe2.out hb4)); have hso : w.heap.size + 1 < w1.heap.size := (by have := HS1.out; have := HS0.out; omega)
 clear hb4 x0 x1 x2 x3 x4 x5 x6 x7 x8; obtain ⟨y0, y1, y2, y3, y4, y5, y6, y7, y8⟩ := blk9 HY4.out; obtain ⟨z0, z1, z2, z3, z4, z5, z6, z7, z8⟩ := blk9 HZ4.out; have zf := fun i => HZ4.out.frozen i; go_wp2; change bodyPost _ _ _ _ _ (w4.setCells (w.heap.size + 1) 0 (aL Y A6 n6 c6 B6 m6 d6)); obtain ⟨wF, hwF⟩ : ∃ x, w4.setCells (w.heap.size + 1) 0 (aL Y A6 n6 c6 B6 m6 d6) = x := ⟨_, rfl⟩
 have HFk := hide (hwF ▸ blk_sets (aL Y A6 n6 c6 B6 m6 d6) [] zeroL HZ4.out rfl : Blk wF (w.heap.size + 1) 28 (aC Y A6 n6 c6 B6 m6 d6)); have HFc : Hid (ChgS (fun k => k = w.heap.size + 1) w1 wF) := hide (hwF ▸ chg_trans (chg_mono HC4.out (fun k h => h.elim)) (chg_sets (S := fun k => k = w.heap.size + 1) rfl [.int .i64 Y.has, .int .i64 Y.org, .slice A6 n6 c6, .int .u32 Y.hop, .int .u32 Y.med, .int .u32 Y.pref, .int .u32 Y.aas, .int .u32 Y.aid, .slice B6 m6 d6] 0) (fun k h => .inl h)); have HFb : Hid (Below w.heap.size w wF) := hide (chg_to_below (chg_trans (chg_below (S := fun k => w.heap.size ≤ k) HB1.out) HFc.out (fun k h => .inl (by omega))) (Nat.le_refl _) (fun k h => h)); rw [hwF]; clear hwF zf y0 y1 y2 y3 y4 y5 y6 y7 y8 z0 z1 z2 z3 z4 z5 z6 z7 z8; obtain ⟨q0, q1, q2, q3, q4, q5, q6, q7, q8⟩ := blk9 HFk.out; have hAF := ato_chg HAt.out HFc.out (fun k h1 h2 h3 => by have := HS0.out; omega); have hAC : AtO w.heap.size wF Y (.agg #[.int .i64 Y.has, .int .i64 Y.org, .slice A6 n6 c6, .int .u32 Y.hop, .int .u32 Y.med, .int .u32 Y.pref, .int .u32 Y.aas, .int .u32 Y.aid, .slice B6 m6 d6]) := hAF.less (by have := HS0.out; omega); refine bodyPost_ret (v := .tuple #[.agg #[.int .i64 Y.has, .int .i64 Y.org, .slice A6 n6 c6, .int .u32 Y.hop, .int .u32 Y.med, .int .u32 Y.pref, .int .u32 Y.aas, .int .u32 Y.aid, .slice B6 m6 d6], .bool true]) (by simp [results, Tryz.results28, go_sem, q0, q1, q2, q3, q4, q5, q6, q7, q8]) rfl ⟨_, rfl, hAC, HFb.out⟩
set_option maxRecDepth 100000 in
set_option maxHeartbeats 8000000 in
theorem refacc_set (own : Nat) (X Y : AT) (v : Value) (w : World) (hv : AtR w X v) (hn : numS X.path ≤ 10000) (hn2 : X.path.length ≤ 100000) (hm : X.comms.length ≤ 10000) (hY : normA X = Y) (hh : pathHas X.path own = false) (h5 : attB Y.has 5 = false) (hwp : IntKind.i64.wrap (Y.has + 32) = bits .or .i64 Y.has 32) :
  Calls Tryz.prog 28 #[.int .u32 (own : Int), .int .u32 (own : Int), v] w fun e w' => ∃ v', e = .returned (.tuple #[v', .bool true]) ∧ AtO w.heap.size w' (setP Y) v' ∧ Below w.heap.size w w' := by
 obtain ⟨A, n, c, B, m, d, rfl, hP, hC⟩ := hv; obtain ⟨w0, hw0⟩ : ∃ w0, (w.alloc (.cells (aC X A n c B m d) 28)).alloc (.cells zeroA 28) = w0 := ⟨_, rfl⟩
 have hb0 : Below w.heap.size w w0 := hw0 ▸ blkBelow2 w _ _; have hs0 : w0.heap.size = w.heap.size + 2 := (by rw [← hw0]; simp)
 have HK : Hid (Blk w0 (w.heap.size) 28 (aC X A n c B m d)) := hide (hw0 ▸ (Blk.new w _ _).alloc _); have HZ : Hid (Blk w0 (w.heap.size + 1) 28 zeroA) := hide (hw0 ▸ blk_new' _ _ (by simp)); have HNm := hide (refANormY_any X (atV X.has X.org A n c X.hop X.med X.pref X.aas X.aid B m d) w0 ⟨A, n, c, B, m, d, rfl, hP.below sgMono hb0, hC.below hb0⟩ hn hn2 hm); rw [hY] at HNm; have HPp := hide (fun W (hb : Below w.heap.size w W) => hP.below sgMono hb); have HAl := hide (fun W (hb : Below w.heap.size w W) => refAll04_any A n c X.path W (hP.below sgMono hb) hn); have HHs := hide (fun A' n' c' W (hu : U32s W A' n' c' (setOf (flatS X.path))) => refHas_any A' n' c' (setOf (flatS X.path)) own W hu); rw [flatS_has, hh] at HHs; have HB0 := hide hb0; have HS0 := hide hs0; have HW0 := hide hw0; have e1 : ((own : Int) == (own : Int)) = true := (by simp)
 have H5 := hide h5; clear hw0 hb0 hP hC hn hn2 hm hY hh hs0 h5; obtain ⟨x0, x1, x2, x3, x4, x5, x6, x7, x8⟩ := blk9 HK.out
 go_enter Tryz.func28, Tryz.ntmps28
 go_wp2_with fail
 rw [HW0.out]; refine HNm.out.mono ?_; rintro e w1 ⟨v6, rfl, ⟨A6, n6, c6, xs6, B6, m6, d6, rfl, hl6, hu6⟩, hb1⟩; obtain ⟨w2, hw2⟩ : ∃ W, w1.alloc (.cells (aC Y A6 n6 c6 B6 m6 d6) 28) = W := ⟨_, rfl⟩
 have hb2 : Below w1.heap.size w1 w2 := hw2 ▸ blkBelow1 w1 _; have HY2 : Hid (Blk w2 w1.heap.size 28 (aC Y A6 n6 c6 B6 m6 d6)) := hide (hw2 ▸ Blk.new w1 _ _); have HB1 := hide (btr HB0.out hb1); have HB2 := hide (btr HB1.out hb2); have HK1 := hide (HK.out.below hb1 HK.out.lt); have HK2 := hide (HK1.out.below hb2 HK1.out.lt); have HZ1 := hide (HZ.out.below hb1 HZ.out.lt); have HZ2 := hide (HZ1.out.below hb2 HZ1.out.lt); have HAt : Hid (AtO w0.heap.size w1 Y (atV Y.has Y.org A6 n6 c6 Y.hop Y.med Y.pref Y.aas Y.aid B6 m6 d6)) := hide ⟨A6, n6, c6, xs6, B6, m6, d6, rfl, hl6, hu6⟩; have HW2 := hide hw2; have HS1 := hide hb1.size; have HBe2 := hide hb2; clear hw2 hb1 hb2 hl6 hu6 x0 x1 x2 x3 x4 x5 x6 x7 x8; obtain ⟨x0, x1, x2, x3, x4, x5, x6, x7, x8⟩ := blk9 HK2.out
 go_upto_region 2 with fail
 rw [HW2.out]
 go_wp2_with fail
 refine (HAl.out _ HB2.out).mono ?_; rintro e w3 ⟨A3, n3, c3, rfl, hu3, hb3⟩; have HHx := hide (HHs.out A3 n3 c3 w3 hu3); clear hu3
 go_wp2_with fail
 refine HHx.out.mono ?_; rintro e w44 ⟨rfl, hw44⟩; subst hw44; have HY3 := hide (HY2.out.below hb3 HY2.out.lt); obtain ⟨y0, y1, y2, y3, y4, y5, y6, y7, y8⟩ := blk9 HY3.out
 go_wp2_with fail
 refine (refAHas_any 5 ⟨by decide, by decide⟩ _ _ _ _ _ _ _ _ _ _ _ _ _ w3).mono ?_; rw [H5.out]; rintro e w4 ⟨rfl, hb43⟩; have hb4 : Below w2.heap.size w2 w4 := hb3.trans (hb43.mono hb3.size); clear hb43 HY3 y0 y1 y2 y3 y4 y5 y6 y7 y8; have HY4 := hide (HY2.out.below hb4 HY2.out.lt); have HZ4 := hide (HZ2.out.below hb4 HZ2.out.lt); have HC4 : Hid (ChgS (fun _ => False) w1 w4) := hide (chg_below (btr HBe2.out hb4)); have HB4 := hide (btr HB2.out hb4); clear hb4 x0 x1 x2 x3 x4 x5 x6 x7 x8; obtain ⟨y0, y1, y2, y3, y4, y5, y6, y7, y8⟩ := blk9 HY4.out; have yf := fun i => HY4.out.frozen i
 go_upto_region 7 with fail
 obtain ⟨w5, hw5⟩ : ∃ W, (w4.setCell ⟨w1.heap.size, 0, none⟩ (.int .i64 (bits .or .i64 Y.has 32))).setCell ⟨w1.heap.size, 5, none⟩ (.int .u32 100) = W := ⟨_, rfl⟩
 have hso : w.heap.size + 1 < w1.heap.size := (by have := HS1.out; have := HS0.out; omega)
 have HY5 : Hid (Blk w5 w1.heap.size 28 #[.int .i64 (bits .or .i64 Y.has 32), .int .i64 Y.org, .slice A6 n6 c6, .int .u32 Y.hop, .int .u32 Y.med, .int .u32 100, .int .u32 Y.aas, .int .u32 Y.aid, .slice B6 m6 d6]) := hide (hw5 ▸ (HY4.out.set_ 0 _).set_ 5 _); have HZ5 : Hid (Blk w5 (w.heap.size + 1) 28 zeroA) := hide (hw5 ▸ (HZ4.out.far (p := ⟨w1.heap.size, 0, none⟩) (by show w.heap.size + 1 ≠ w1.heap.size; omega) _).far (p := ⟨w1.heap.size, 5, none⟩) (by show w.heap.size + 1 ≠ w1.heap.size; omega) _); have HC5 : Hid (ChgS (fun k => k = w1.heap.size) w4 w5) := hide (hw5 ▸ chg_trans (chg_set (S := fun k => k = w1.heap.size) (p := ⟨w1.heap.size, 0, none⟩) rfl _) (chg_set (S := fun k => k = w1.heap.size) (p := ⟨w1.heap.size, 5, none⟩) rfl _) (fun k h => .inl h)); rw [hw5]; clear hw5 yf y0 y1 y2 y3 y4 y5 y6 y7 y8; obtain ⟨y0, y1, y2, y3, y4, y5, y6, y7, y8⟩ := blk9 HY5.out; obtain ⟨z0, z1, z2, z3, z4, z5, z6, z7, z8⟩ := blk9 HZ5.out; have zf := fun i => HZ5.out.frozen i; go_wp2; change bodyPost _ _ _ _ _ (w5.setCells (w.heap.size + 1) 0 [.int .i64 (bits .or .i64 Y.has 32), .int .i64 Y.org, .slice A6 n6 c6, .int .u32 Y.hop, .int .u32 Y.med, .int .u32 100, .int .u32 Y.aas, .int .u32 Y.aid, .slice B6 m6 d6]); obtain ⟨wF, hwF⟩ : ∃ x, w5.setCells (w.heap.size + 1) 0 [.int .i64 (bits .or .i64 Y.has 32), .int .i64 Y.org, .slice A6 n6 c6, .int .u32 Y.hop, .int .u32 Y.med, .int .u32 100, .int .u32 Y.aas, .int .u32 Y.aid, .slice B6 m6 d6] = x := ⟨_, rfl⟩
 have HFk := hide (hwF ▸ blk_sets [.int .i64 (bits .or .i64 Y.has 32), .int .i64 Y.org, .slice A6 n6 c6, .int .u32 Y.hop, .int .u32 Y.med, .int .u32 100, .int .u32 Y.aas, .int .u32 Y.aid, .slice B6 m6 d6] [] zeroL HZ5.out rfl : Blk wF (w.heap.size + 1) 28 #[.int .i64 (bits .or .i64 Y.has 32), .int .i64 Y.org, .slice A6 n6 c6, .int .u32 Y.hop, .int .u32 Y.med, .int .u32 100, .int .u32 Y.aas, .int .u32 Y.aid, .slice B6 m6 d6]); have HFc : Hid (ChgS (fun k => k = w1.heap.size ∨ k = w.heap.size + 1) w1 wF) := hide (hwF ▸ chg_trans (chg_trans (chg_mono HC4.out (fun k h => h.elim)) HC5.out (fun k h => .inl (.inl h))) (chg_sets (S := fun k => k = w.heap.size + 1) rfl [.int .i64 (bits .or .i64 Y.has 32), .int .i64 Y.org, .slice A6 n6 c6, .int .u32 Y.hop, .int .u32 Y.med, .int .u32 100, .int .u32 Y.aas, .int .u32 Y.aid, .slice B6 m6 d6] 0) (fun k h => .inl (.inr h))); have HFb : Hid (Below w.heap.size w wF) := hide (chg_to_below (chg_trans (chg_below (S := fun k => w.heap.size ≤ k) HB1.out) HFc.out (fun k h => .inl (by rcases h with h | h <;> omega))) (Nat.le_refl _) (fun k h => h)); rw [hwF]; clear hwF zf y0 y1 y2 y3 y4 y5 y6 y7 y8 z0 z1 z2 z3 z4 z5 z6 z7 z8; obtain ⟨q0, q1, q2, q3, q4, q5, q6, q7, q8⟩ := blk9 HFk.out; have hAF := ato_chg HAt.out HFc.out (fun k h1 h2 h3 => by have := HS0.out; rcases h3 with h3 | h3 <;> omega)
 have hAC : AtO w.heap.size wF (setP Y) (.agg #[.int .i64 (bits .or .i64 Y.has 32), .int .i64 Y.org, .slice A6 n6 c6, .int .u32 Y.hop, .int .u32 Y.med, .int .u32 100, .int .u32 Y.aas, .int .u32 Y.aid, .slice B6 m6 d6]) := by
  obtain ⟨A7, n7, c7, xs7, B7, m7, d7, e, h1, h2⟩ := hAF; simp only [atV, Value.agg.injEq, Array.mk.injEq, List.cons.injEq, and_true, true_and] at e; obtain ⟨e3, e9⟩ := e; injection e3 with q1 q2 q3
  injection e9 with q4 q5 q6
  subst q1 q2 q3 q4 q5 q6; have hle : w.heap.size ≤ w0.heap.size := (by have := HS0.out; omega)
  exact ⟨_, _, _, xs7, _, _, _, rfl, h1.less hle hle, h2.less hle⟩
 refine bodyPost_ret (v := .tuple #[.agg #[.int .i64 (bits .or .i64 Y.has 32), .int .i64 Y.org, .slice A6 n6 c6, .int .u32 Y.hop, .int .u32 Y.med, .int .u32 100, .int .u32 Y.aas, .int .u32 Y.aid, .slice B6 m6 d6], .bool true]) (by simp [results, Tryz.results28, go_sem, q0, q1, q2, q3, q4, q5, q6, q7, q8]) rfl ⟨_, rfl, hAC, HFb.out⟩
set_option maxRecDepth 100000 in
set_option maxHeartbeats 8000000 in
theorem refacc_nil (own ax : Nat) (X Y : AT) (v : Value) (w : World) (hv : AtR w X v) (hn : numS X.path ≤ 10000) (hn2 : X.path.length ≤ 100000) (hm : X.comms.length ≤ 10000) (hY : normA X = Y) (hh : pathHas X.path own = false) (hne : own ≠ ax) (hpt : X.path = []) :
  Calls Tryz.prog 28 #[.int .u32 (own : Int), .int .u32 (ax : Int), v] w fun e w' => ∃ v', e = .returned (.tuple #[v', .bool false]) ∧ AtO w.heap.size w' Y v' ∧ Below w.heap.size w w' := by
 obtain ⟨A, n, c, B, m, d, rfl, hP, hC⟩ := hv; obtain ⟨w0, hw0⟩ : ∃ w0, (w.alloc (.cells (aC X A n c B m d) 28)).alloc (.cells zeroA 28) = w0 := ⟨_, rfl⟩
 have hb0 : Below w.heap.size w w0 := hw0 ▸ blkBelow2 w _ _; have hs0 : w0.heap.size = w.heap.size + 2 := (by rw [← hw0]; simp)
 have HK : Hid (Blk w0 (w.heap.size) 28 (aC X A n c B m d)) := hide (hw0 ▸ (Blk.new w _ _).alloc _); have HZ : Hid (Blk w0 (w.heap.size + 1) 28 zeroA) := hide (hw0 ▸ blk_new' _ _ (by simp)); have HNm := hide (refANormY_any X (atV X.has X.org A n c X.hop X.med X.pref X.aas X.aid B m d) w0 ⟨A, n, c, B, m, d, rfl, hP.below sgMono hb0, hC.below hb0⟩ hn hn2 hm); rw [hY] at HNm; have HPp := hide (fun W (hb : Below w.heap.size w W) => hP.below sgMono hb); have HAl := hide (fun W (hb : Below w.heap.size w W) => refAll04_any A n c X.path W (hP.below sgMono hb) hn); have HHs := hide (fun A' n' c' W (hu : U32s W A' n' c' (setOf (flatS X.path))) => refHas_any A' n' c' (setOf (flatS X.path)) own W hu); rw [flatS_has, hh] at HHs; have HB0 := hide hb0; have HS0 := hide hs0; have HW0 := hide hw0; have e1 : ((own : Int) == (ax : Int)) = false := (by simp; omega)
 have HPt := hide hpt; clear hw0 hb0 hP hC hn hn2 hm hY hh hs0 hne hpt; obtain ⟨x0, x1, x2, x3, x4, x5, x6, x7, x8⟩ := blk9 HK.out
 go_enter Tryz.func28, Tryz.ntmps28
 go_wp2_with fail
 rw [HW0.out]; refine HNm.out.mono ?_; rintro e w1 ⟨v6, rfl, ⟨A6, n6, c6, xs6, B6, m6, d6, rfl, hl6, hu6⟩, hb1⟩; obtain ⟨w2, hw2⟩ : ∃ W, w1.alloc (.cells (aC Y A6 n6 c6 B6 m6 d6) 28) = W := ⟨_, rfl⟩
 have hb2 : Below w1.heap.size w1 w2 := hw2 ▸ blkBelow1 w1 _; have HY2 : Hid (Blk w2 w1.heap.size 28 (aC Y A6 n6 c6 B6 m6 d6)) := hide (hw2 ▸ Blk.new w1 _ _); have HB1 := hide (btr HB0.out hb1); have HB2 := hide (btr HB1.out hb2); have HK1 := hide (HK.out.below hb1 HK.out.lt); have HK2 := hide (HK1.out.below hb2 HK1.out.lt); have HZ1 := hide (HZ.out.below hb1 HZ.out.lt); have HZ2 := hide (HZ1.out.below hb2 HZ1.out.lt); have HAt : Hid (AtO w0.heap.size w1 Y (atV Y.has Y.org A6 n6 c6 Y.hop Y.med Y.pref Y.aas Y.aid B6 m6 d6)) := hide ⟨A6, n6, c6, xs6, B6, m6, d6, rfl, hl6, hu6⟩; have HW2 := hide hw2; have HS1 := hide hb1.size; have HBe2 := hide hb2; clear hw2 hb1 hb2 hl6 hu6 x0 x1 x2 x3 x4 x5 x6 x7 x8; obtain ⟨x0, x1, x2, x3, x4, x5, x6, x7, x8⟩ := blk9 HK2.out
 go_upto_region 2 with fail
 rw [HW2.out]
 go_wp2_with fail
 refine (HAl.out _ HB2.out).mono ?_; rintro e w4 ⟨A3, n3, c3, rfl, hu3, hb4⟩; have HHx := hide (HHs.out A3 n3 c3 w4 hu3); clear hu3
 go_wp2_with fail
 refine HHx.out.mono ?_; rintro e w44 ⟨rfl, hw44⟩; subst hw44; have HBm := hide (btr HB2.out hb4); have hx2 : w4.cell? ⟨w.heap.size, 2, none⟩ = some (.slice A n c) := (HK2.out.below hb4 HK2.out.lt).cell 2; have hPm := HPp.out w4 HBm.out; rw [HPt.out] at hPm; obtain rfl : n = 0 := hPm.1.symm; clear hPm; have HY4 := hide (HY2.out.below hb4 HY2.out.lt); have HZ4 := hide (HZ2.out.below hb4 HZ2.out.lt); have HC4 : Hid (ChgS (fun _ => False) w1 w4) := hide (chg_below (btr HBe2.out hb4)); have hso : w.heap.size + 1 < w1.heap.size := (by have := HS1.out; have := HS0.out; omega)
 clear hb4 x0 x1 x2 x3 x4 x5 x6 x7 x8; obtain ⟨y0, y1, y2, y3, y4, y5, y6, y7, y8⟩ := blk9 HY4.out; obtain ⟨z0, z1, z2, z3, z4, z5, z6, z7, z8⟩ := blk9 HZ4.out; have zf := fun i => HZ4.out.frozen i; go_wp2; change bodyPost _ _ _ _ _ (w4.setCells (w.heap.size + 1) 0 (aL Y A6 n6 c6 B6 m6 d6)); obtain ⟨wF, hwF⟩ : ∃ x, w4.setCells (w.heap.size + 1) 0 (aL Y A6 n6 c6 B6 m6 d6) = x := ⟨_, rfl⟩
 have HFk := hide (hwF ▸ blk_sets (aL Y A6 n6 c6 B6 m6 d6) [] zeroL HZ4.out rfl : Blk wF (w.heap.size + 1) 28 (aC Y A6 n6 c6 B6 m6 d6)); have HFc : Hid (ChgS (fun k => k = w.heap.size + 1) w1 wF) := hide (hwF ▸ chg_trans (chg_mono HC4.out (fun k h => h.elim)) (chg_sets (S := fun k => k = w.heap.size + 1) rfl [.int .i64 Y.has, .int .i64 Y.org, .slice A6 n6 c6, .int .u32 Y.hop, .int .u32 Y.med, .int .u32 Y.pref, .int .u32 Y.aas, .int .u32 Y.aid, .slice B6 m6 d6] 0) (fun k h => .inl h)); have HFb : Hid (Below w.heap.size w wF) := hide (chg_to_below (chg_trans (chg_below (S := fun k => w.heap.size ≤ k) HB1.out) HFc.out (fun k h => .inl (by omega))) (Nat.le_refl _) (fun k h => h)); rw [hwF]; clear hwF zf y0 y1 y2 y3 y4 y5 y6 y7 y8 z0 z1 z2 z3 z4 z5 z6 z7 z8; obtain ⟨q0, q1, q2, q3, q4, q5, q6, q7, q8⟩ := blk9 HFk.out; have hAF := ato_chg HAt.out HFc.out (fun k h1 h2 h3 => by have := HS0.out; omega); have hAC : AtO w.heap.size wF Y (.agg #[.int .i64 Y.has, .int .i64 Y.org, .slice A6 n6 c6, .int .u32 Y.hop, .int .u32 Y.med, .int .u32 Y.pref, .int .u32 Y.aas, .int .u32 Y.aid, .slice B6 m6 d6]) := hAF.less (by have := HS0.out; omega); refine bodyPost_ret (v := .tuple #[.agg #[.int .i64 Y.has, .int .i64 Y.org, .slice A6 n6 c6, .int .u32 Y.hop, .int .u32 Y.med, .int .u32 Y.pref, .int .u32 Y.aas, .int .u32 Y.aid, .slice B6 m6 d6], .bool false]) (by simp [results, Tryz.results28, go_sem, q0, q1, q2, q3, q4, q5, q6, q7, q8]) rfl ⟨_, rfl, hAC, HFb.out⟩
set_option maxRecDepth 100000 in
set_option maxHeartbeats 8000000 in
theorem refacc_kind (own ax : Nat) (X Y : AT) (v : Value) (w : World) (hv : AtR w X v) (hn : numS X.path ≤ 10000) (hn2 : X.path.length ≤ 100000) (hm : X.comms.length ≤ 10000) (hY : normA X = Y) (hh : pathHas X.path own = false) (hne : own ≠ ax) (kd : Int) (hkd : kd ≠ 2) (rr : List Nat) (ll : List SG) (hpt : X.path = ⟨kd, rr⟩ :: ll) :
  Calls Tryz.prog 28 #[.int .u32 (own : Int), .int .u32 (ax : Int), v] w fun e w' => ∃ v', e = .returned (.tuple #[v', .bool false]) ∧ AtO w.heap.size w' Y v' ∧ Below w.heap.size w w' := by
 obtain ⟨A, n, c, B, m, d, rfl, hP, hC⟩ := hv; obtain ⟨w0, hw0⟩ : ∃ w0, (w.alloc (.cells (aC X A n c B m d) 28)).alloc (.cells zeroA 28) = w0 := ⟨_, rfl⟩
 have hb0 : Below w.heap.size w w0 := hw0 ▸ blkBelow2 w _ _; have hs0 : w0.heap.size = w.heap.size + 2 := (by rw [← hw0]; simp)
 have HK : Hid (Blk w0 (w.heap.size) 28 (aC X A n c B m d)) := hide (hw0 ▸ (Blk.new w _ _).alloc _); have HZ : Hid (Blk w0 (w.heap.size + 1) 28 zeroA) := hide (hw0 ▸ blk_new' _ _ (by simp)); have HNm := hide (refANormY_any X (atV X.has X.org A n c X.hop X.med X.pref X.aas X.aid B m d) w0 ⟨A, n, c, B, m, d, rfl, hP.below sgMono hb0, hC.below hb0⟩ hn hn2 hm); rw [hY] at HNm; have HPp := hide (fun W (hb : Below w.heap.size w W) => hP.below sgMono hb); have HAl := hide (fun W (hb : Below w.heap.size w W) => refAll04_any A n c X.path W (hP.below sgMono hb) hn); have HHs := hide (fun A' n' c' W (hu : U32s W A' n' c' (setOf (flatS X.path))) => refHas_any A' n' c' (setOf (flatS X.path)) own W hu); rw [flatS_has, hh] at HHs; have HB0 := hide hb0; have HS0 := hide hs0; have HW0 := hide hw0; have e1 : ((own : Int) == (ax : Int)) = false := (by simp; omega)
 have HPt := hide hpt; clear hw0 hb0 hP hC hn hn2 hm hY hh hs0 hne hpt; obtain ⟨x0, x1, x2, x3, x4, x5, x6, x7, x8⟩ := blk9 HK.out
 go_enter Tryz.func28, Tryz.ntmps28
 go_wp2_with fail
 rw [HW0.out]; refine HNm.out.mono ?_; rintro e w1 ⟨v6, rfl, ⟨A6, n6, c6, xs6, B6, m6, d6, rfl, hl6, hu6⟩, hb1⟩; obtain ⟨w2, hw2⟩ : ∃ W, w1.alloc (.cells (aC Y A6 n6 c6 B6 m6 d6) 28) = W := ⟨_, rfl⟩
 have hb2 : Below w1.heap.size w1 w2 := hw2 ▸ blkBelow1 w1 _; have HY2 : Hid (Blk w2 w1.heap.size 28 (aC Y A6 n6 c6 B6 m6 d6)) := hide (hw2 ▸ Blk.new w1 _ _); have HB1 := hide (btr HB0.out hb1); have HB2 := hide (btr HB1.out hb2); have HK1 := hide (HK.out.below hb1 HK.out.lt); have HK2 := hide (HK1.out.below hb2 HK1.out.lt); have HZ1 := hide (HZ.out.below hb1 HZ.out.lt); have HZ2 := hide (HZ1.out.below hb2 HZ1.out.lt); have HAt : Hid (AtO w0.heap.size w1 Y (atV Y.has Y.org A6 n6 c6 Y.hop Y.med Y.pref Y.aas Y.aid B6 m6 d6)) := hide ⟨A6, n6, c6, xs6, B6, m6, d6, rfl, hl6, hu6⟩; have HW2 := hide hw2; have HS1 := hide hb1.size; have HBe2 := hide hb2; clear hw2 hb1 hb2 hl6 hu6 x0 x1 x2 x3 x4 x5 x6 x7 x8; obtain ⟨x0, x1, x2, x3, x4, x5, x6, x7, x8⟩ := blk9 HK2.out
 go_upto_region 2 with fail
 rw [HW2.out]
 go_wp2_with fail
 refine (HAl.out _ HB2.out).mono ?_; rintro e w4 ⟨A3, n3, c3, rfl, hu3, hb4⟩; have HHx := hide (HHs.out A3 n3 c3 w4 hu3); clear hu3
 go_wp2_with fail
 refine HHx.out.mono ?_; rintro e w44 ⟨rfl, hw44⟩; subst hw44; have HBm := hide (btr HB2.out hb4); have hx2 : w4.cell? ⟨w.heap.size, 2, none⟩ = some (.slice A n c) := (HK2.out.below hb4 HK2.out.lt).cell 2; have hPm := HPp.out w4 HBm.out; rw [HPt.out] at hPm; obtain ⟨g, o, b, Bq, mq, dq, r2, rfl, hg, hx, hr, hc0, hc1⟩ := SGat hPm (k := 0) (by rw [← hPm.1]; simp); have n0 : (0 : Int) < (n : Int) := (by have := hPm.1; simp at this; omega)
 have en : ((n : Int) == 0) = false := (by simp; omega)
 simp only [List.getElem?_cons_zero, Option.some.injEq, SG.mk.injEq] at hx; obtain ⟨rfl, rfl⟩ := hx; have k0 : w4.cell? ⟨g, o, none⟩ = some (.int .i64 kd) := (by simpa using hc0)
 have k1 : w4.cell? ⟨g, o + 1, none⟩ = some (.slice Bq mq dq) := (by simpa using hc1)
 have ek : (kd != 2) = true := (by simpa using hkd)
 clear hPm hr hc0 hc1; have HY4 := hide (HY2.out.below hb4 HY2.out.lt); have HZ4 := hide (HZ2.out.below hb4 HZ2.out.lt); have HC4 : Hid (ChgS (fun _ => False) w1 w4) := hide (chg_below (btr HBe2.out hb4)); have hso : w.heap.size + 1 < w1.heap.size := (by have := HS1.out; have := HS0.out; omega)
 clear hb4 x0 x1 x2 x3 x4 x5 x6 x7 x8; obtain ⟨y0, y1, y2, y3, y4, y5, y6, y7, y8⟩ := blk9 HY4.out; obtain ⟨z0, z1, z2, z3, z4, z5, z6, z7, z8⟩ := blk9 HZ4.out; have zf := fun i => HZ4.out.frozen i; go_wp2; change bodyPost _ _ _ _ _ (w4.setCells (w.heap.size + 1) 0 (aL Y A6 n6 c6 B6 m6 d6)); obtain ⟨wF, hwF⟩ : ∃ x, w4.setCells (w.heap.size + 1) 0 (aL Y A6 n6 c6 B6 m6 d6) = x := ⟨_, rfl⟩
 have HFk := hide (hwF ▸ blk_sets (aL Y A6 n6 c6 B6 m6 d6) [] zeroL HZ4.out rfl : Blk wF (w.heap.size + 1) 28 (aC Y A6 n6 c6 B6 m6 d6)); have HFc : Hid (ChgS (fun k => k = w.heap.size + 1) w1 wF) := hide (hwF ▸ chg_trans (chg_mono HC4.out (fun k h => h.elim)) (chg_sets (S := fun k => k = w.heap.size + 1) rfl [.int .i64 Y.has, .int .i64 Y.org, .slice A6 n6 c6, .int .u32 Y.hop, .int .u32 Y.med, .int .u32 Y.pref, .int .u32 Y.aas, .int .u32 Y.aid, .slice B6 m6 d6] 0) (fun k h => .inl h)); have HFb : Hid (Below w.heap.size w wF) := hide (chg_to_below (chg_trans (chg_below (S := fun k => w.heap.size ≤ k) HB1.out) HFc.out (fun k h => .inl (by omega))) (Nat.le_refl _) (fun k h => h)); rw [hwF]; clear hwF zf y0 y1 y2 y3 y4 y5 y6 y7 y8 z0 z1 z2 z3 z4 z5 z6 z7 z8; obtain ⟨q0, q1, q2, q3, q4, q5, q6, q7, q8⟩ := blk9 HFk.out; have hAF := ato_chg HAt.out HFc.out (fun k h1 h2 h3 => by have := HS0.out; omega); have hAC : AtO w.heap.size wF Y (.agg #[.int .i64 Y.has, .int .i64 Y.org, .slice A6 n6 c6, .int .u32 Y.hop, .int .u32 Y.med, .int .u32 Y.pref, .int .u32 Y.aas, .int .u32 Y.aid, .slice B6 m6 d6]) := hAF.less (by have := HS0.out; omega); refine bodyPost_ret (v := .tuple #[.agg #[.int .i64 Y.has, .int .i64 Y.org, .slice A6 n6 c6, .int .u32 Y.hop, .int .u32 Y.med, .int .u32 Y.pref, .int .u32 Y.aas, .int .u32 Y.aid, .slice B6 m6 d6], .bool false]) (by simp [results, Tryz.results28, go_sem, q0, q1, q2, q3, q4, q5, q6, q7, q8]) rfl ⟨_, rfl, hAC, HFb.out⟩
set_option maxRecDepth 100000 in
set_option maxHeartbeats 8000000 in
theorem refacc_none (own ax : Nat) (X Y : AT) (v : Value) (w : World) (hv : AtR w X v) (hn : numS X.path ≤ 10000) (hn2 : X.path.length ≤ 100000) (hm : X.comms.length ≤ 10000) (hY : normA X = Y) (hh : pathHas X.path own = false) (hne : own ≠ ax) (ll : List SG) (hpt : X.path = ⟨2, []⟩ :: ll) :
  Calls Tryz.prog 28 #[.int .u32 (own : Int), .int .u32 (ax : Int), v] w fun e w' => ∃ v', e = .returned (.tuple #[v', .bool false]) ∧ AtO w.heap.size w' Y v' ∧ Below w.heap.size w w' := by
 obtain ⟨A, n, c, B, m, d, rfl, hP, hC⟩ := hv; obtain ⟨w0, hw0⟩ : ∃ w0, (w.alloc (.cells (aC X A n c B m d) 28)).alloc (.cells zeroA 28) = w0 := ⟨_, rfl⟩
 have hb0 : Below w.heap.size w w0 := hw0 ▸ blkBelow2 w _ _; have hs0 : w0.heap.size = w.heap.size + 2 := (by rw [← hw0]; simp)
 have HK : Hid (Blk w0 (w.heap.size) 28 (aC X A n c B m d)) := hide (hw0 ▸ (Blk.new w _ _).alloc _); have HZ : Hid (Blk w0 (w.heap.size + 1) 28 zeroA) := hide (hw0 ▸ blk_new' _ _ (by simp)); have HNm := hide (refANormY_any X (atV X.has X.org A n c X.hop X.med X.pref X.aas X.aid B m d) w0 ⟨A, n, c, B, m, d, rfl, hP.below sgMono hb0, hC.below hb0⟩ hn hn2 hm); rw [hY] at HNm; have HPp := hide (fun W (hb : Below w.heap.size w W) => hP.below sgMono hb); have HAl := hide (fun W (hb : Below w.heap.size w W) => refAll04_any A n c X.path W (hP.below sgMono hb) hn); have HHs := hide (fun A' n' c' W (hu : U32s W A' n' c' (setOf (flatS X.path))) => refHas_any A' n' c' (setOf (flatS X.path)) own W hu); rw [flatS_has, hh] at HHs; have HB0 := hide hb0; have HS0 := hide hs0; have HW0 := hide hw0; have e1 : ((own : Int) == (ax : Int)) = false := (by simp; omega)
 have HPt := hide hpt; clear hw0 hb0 hP hC hn hn2 hm hY hh hs0 hne hpt; obtain ⟨x0, x1, x2, x3, x4, x5, x6, x7, x8⟩ := blk9 HK.out
 go_enter Tryz.func28, Tryz.ntmps28
 go_wp2_with fail
 rw [HW0.out]; refine HNm.out.mono ?_; rintro e w1 ⟨v6, rfl, ⟨A6, n6, c6, xs6, B6, m6, d6, rfl, hl6, hu6⟩, hb1⟩; obtain ⟨w2, hw2⟩ : ∃ W, w1.alloc (.cells (aC Y A6 n6 c6 B6 m6 d6) 28) = W := ⟨_, rfl⟩
 have hb2 : Below w1.heap.size w1 w2 := hw2 ▸ blkBelow1 w1 _; have HY2 : Hid (Blk w2 w1.heap.size 28 (aC Y A6 n6 c6 B6 m6 d6)) := hide (hw2 ▸ Blk.new w1 _ _); have HB1 := hide (btr HB0.out hb1); have HB2 := hide (btr HB1.out hb2); have HK1 := hide (HK.out.below hb1 HK.out.lt); have HK2 := hide (HK1.out.below hb2 HK1.out.lt); have HZ1 := hide (HZ.out.below hb1 HZ.out.lt); have HZ2 := hide (HZ1.out.below hb2 HZ1.out.lt); have HAt : Hid (AtO w0.heap.size w1 Y (atV Y.has Y.org A6 n6 c6 Y.hop Y.med Y.pref Y.aas Y.aid B6 m6 d6)) := hide ⟨A6, n6, c6, xs6, B6, m6, d6, rfl, hl6, hu6⟩; have HW2 := hide hw2; have HS1 := hide hb1.size; have HBe2 := hide hb2; clear hw2 hb1 hb2 hl6 hu6 x0 x1 x2 x3 x4 x5 x6 x7 x8; obtain ⟨x0, x1, x2, x3, x4, x5, x6, x7, x8⟩ := blk9 HK2.out
 go_upto_region 2 with fail
 rw [HW2.out]
 go_wp2_with fail
 refine (HAl.out _ HB2.out).mono ?_; rintro e w4 ⟨A3, n3, c3, rfl, hu3, hb4⟩; have HHx := hide (HHs.out A3 n3 c3 w4 hu3); clear hu3
 go_wp2_with fail
 refine HHx.out.mono ?_; rintro e w44 ⟨rfl, hw44⟩; subst hw44; have HBm := hide (btr HB2.out hb4); have hx2 : w4.cell? ⟨w.heap.size, 2, none⟩ = some (.slice A n c) := (HK2.out.below hb4 HK2.out.lt).cell 2; have hPm := HPp.out w4 HBm.out; rw [HPt.out] at hPm; obtain ⟨g, o, b, Bq, mq, dq, r2, rfl, hg, hx, hr, hc0, hc1⟩ := SGat hPm (k := 0) (by rw [← hPm.1]; simp); have n0 : (0 : Int) < (n : Int) := (by have := hPm.1; simp at this; omega)
 have en : ((n : Int) == 0) = false := (by simp; omega)
 simp only [List.getElem?_cons_zero, Option.some.injEq, SG.mk.injEq] at hx; obtain ⟨rfl, rfl⟩ := hx; have k0 : w4.cell? ⟨g, o, none⟩ = some (.int .i64 2) := (by simpa using hc0)
 have k1 : w4.cell? ⟨g, o + 1, none⟩ = some (.slice Bq mq dq) := (by simpa using hc1)
 obtain rfl : mq = 0 := hr.1.symm; clear hPm hr hc0 hc1; have HY4 := hide (HY2.out.below hb4 HY2.out.lt); have HZ4 := hide (HZ2.out.below hb4 HZ2.out.lt); have HC4 : Hid (ChgS (fun _ => False) w1 w4) := hide (chg_below (btr HBe2.out hb4)); have hso : w.heap.size + 1 < w1.heap.size := (by have := HS1.out; have := HS0.out; omega)
 clear hb4 x0 x1 x2 x3 x4 x5 x6 x7 x8; obtain ⟨y0, y1, y2, y3, y4, y5, y6, y7, y8⟩ := blk9 HY4.out; obtain ⟨z0, z1, z2, z3, z4, z5, z6, z7, z8⟩ := blk9 HZ4.out; have zf := fun i => HZ4.out.frozen i; go_wp2; change bodyPost _ _ _ _ _ (w4.setCells (w.heap.size + 1) 0 (aL Y A6 n6 c6 B6 m6 d6)); obtain ⟨wF, hwF⟩ : ∃ x, w4.setCells (w.heap.size + 1) 0 (aL Y A6 n6 c6 B6 m6 d6) = x := ⟨_, rfl⟩
 have HFk := hide (hwF ▸ blk_sets (aL Y A6 n6 c6 B6 m6 d6) [] zeroL HZ4.out rfl : Blk wF (w.heap.size + 1) 28 (aC Y A6 n6 c6 B6 m6 d6)); have HFc : Hid (ChgS (fun k => k = w.heap.size + 1) w1 wF) := hide (hwF ▸ chg_trans (chg_mono HC4.out (fun k h => h.elim)) (chg_sets (S := fun k => k = w.heap.size + 1) rfl [.int .i64 Y.has, .int .i64 Y.org, .slice A6 n6 c6, .int .u32 Y.hop, .int .u32 Y.med, .int .u32 Y.pref, .int .u32 Y.aas, .int .u32 Y.aid, .slice B6 m6 d6] 0) (fun k h => .inl h)); have HFb : Hid (Below w.heap.size w wF) := hide (chg_to_below (chg_trans (chg_below (S := fun k => w.heap.size ≤ k) HB1.out) HFc.out (fun k h => .inl (by omega))) (Nat.le_refl _) (fun k h => h)); rw [hwF]; clear hwF zf y0 y1 y2 y3 y4 y5 y6 y7 y8 z0 z1 z2 z3 z4 z5 z6 z7 z8; obtain ⟨q0, q1, q2, q3, q4, q5, q6, q7, q8⟩ := blk9 HFk.out; have hAF := ato_chg HAt.out HFc.out (fun k h1 h2 h3 => by have := HS0.out; omega); have hAC : AtO w.heap.size wF Y (.agg #[.int .i64 Y.has, .int .i64 Y.org, .slice A6 n6 c6, .int .u32 Y.hop, .int .u32 Y.med, .int .u32 Y.pref, .int .u32 Y.aas, .int .u32 Y.aid, .slice B6 m6 d6]) := hAF.less (by have := HS0.out; omega); refine bodyPost_ret (v := .tuple #[.agg #[.int .i64 Y.has, .int .i64 Y.org, .slice A6 n6 c6, .int .u32 Y.hop, .int .u32 Y.med, .int .u32 Y.pref, .int .u32 Y.aas, .int .u32 Y.aid, .slice B6 m6 d6], .bool false]) (by simp [results, Tryz.results28, go_sem, q0, q1, q2, q3, q4, q5, q6, q7, q8]) rfl ⟨_, rfl, hAC, HFb.out⟩
set_option maxRecDepth 100000 in
set_option maxHeartbeats 8000000 in
theorem refacc_oth (own ax : Nat) (X Y : AT) (v : Value) (w : World) (hv : AtR w X v) (hn : numS X.path ≤ 10000) (hn2 : X.path.length ≤ 100000) (hm : X.comms.length ≤ 10000) (hY : normA X = Y) (hh : pathHas X.path own = false) (hne : own ≠ ax) (fx : Nat) (hfx : fx ≠ ax) (rr : List Nat) (ll : List SG) (hpt : X.path = ⟨2, fx :: rr⟩ :: ll) :
  Calls Tryz.prog 28 #[.int .u32 (own : Int), .int .u32 (ax : Int), v] w fun e w' => ∃ v', e = .returned (.tuple #[v', .bool false]) ∧ AtO w.heap.size w' Y v' ∧ Below w.heap.size w w' := by
 obtain ⟨A, n, c, B, m, d, rfl, hP, hC⟩ := hv; obtain ⟨w0, hw0⟩ : ∃ w0, (w.alloc (.cells (aC X A n c B m d) 28)).alloc (.cells zeroA 28) = w0 := ⟨_, rfl⟩
 have hb0 : Below w.heap.size w w0 := hw0 ▸ blkBelow2 w _ _; have hs0 : w0.heap.size = w.heap.size + 2 := (by rw [← hw0]; simp)
 have HK : Hid (Blk w0 (w.heap.size) 28 (aC X A n c B m d)) := hide (hw0 ▸ (Blk.new w _ _).alloc _); have HZ : Hid (Blk w0 (w.heap.size + 1) 28 zeroA) := hide (hw0 ▸ blk_new' _ _ (by simp)); have HNm := hide (refANormY_any X (atV X.has X.org A n c X.hop X.med X.pref X.aas X.aid B m d) w0 ⟨A, n, c, B, m, d, rfl, hP.below sgMono hb0, hC.below hb0⟩ hn hn2 hm); rw [hY] at HNm; have HPp := hide (fun W (hb : Below w.heap.size w W) => hP.below sgMono hb); have HAl := hide (fun W (hb : Below w.heap.size w W) => refAll04_any A n c X.path W (hP.below sgMono hb) hn); have HHs := hide (fun A' n' c' W (hu : U32s W A' n' c' (setOf (flatS X.path))) => refHas_any A' n' c' (setOf (flatS X.path)) own W hu); rw [flatS_has, hh] at HHs; have HB0 := hide hb0; have HS0 := hide hs0; have HW0 := hide hw0; have e1 : ((own : Int) == (ax : Int)) = false := (by simp; omega)
 have HPt := hide hpt; clear hw0 hb0 hP hC hn hn2 hm hY hh hs0 hne hpt; obtain ⟨x0, x1, x2, x3, x4, x5, x6, x7, x8⟩ := blk9 HK.out
 go_enter Tryz.func28, Tryz.ntmps28
 go_wp2_with fail
 rw [HW0.out]; refine HNm.out.mono ?_; rintro e w1 ⟨v6, rfl, ⟨A6, n6, c6, xs6, B6, m6, d6, rfl, hl6, hu6⟩, hb1⟩; obtain ⟨w2, hw2⟩ : ∃ W, w1.alloc (.cells (aC Y A6 n6 c6 B6 m6 d6) 28) = W := ⟨_, rfl⟩
 have hb2 : Below w1.heap.size w1 w2 := hw2 ▸ blkBelow1 w1 _; have HY2 : Hid (Blk w2 w1.heap.size 28 (aC Y A6 n6 c6 B6 m6 d6)) := hide (hw2 ▸ Blk.new w1 _ _); have HB1 := hide (btr HB0.out hb1); have HB2 := hide (btr HB1.out hb2); have HK1 := hide (HK.out.below hb1 HK.out.lt); have HK2 := hide (HK1.out.below hb2 HK1.out.lt); have HZ1 := hide (HZ.out.below hb1 HZ.out.lt); have HZ2 := hide (HZ1.out.below hb2 HZ1.out.lt); have HAt : Hid (AtO w0.heap.size w1 Y (atV Y.has Y.org A6 n6 c6 Y.hop Y.med Y.pref Y.aas Y.aid B6 m6 d6)) := hide ⟨A6, n6, c6, xs6, B6, m6, d6, rfl, hl6, hu6⟩; have HW2 := hide hw2; have HS1 := hide hb1.size; have HBe2 := hide hb2; clear hw2 hb1 hb2 hl6 hu6 x0 x1 x2 x3 x4 x5 x6 x7 x8; obtain ⟨x0, x1, x2, x3, x4, x5, x6, x7, x8⟩ := blk9 HK2.out
 go_upto_region 2 with fail
 rw [HW2.out]
 go_wp2_with fail
 refine (HAl.out _ HB2.out).mono ?_; rintro e w4 ⟨A3, n3, c3, rfl, hu3, hb4⟩; have HHx := hide (HHs.out A3 n3 c3 w4 hu3); clear hu3
 go_wp2_with fail
 refine HHx.out.mono ?_; rintro e w44 ⟨rfl, hw44⟩; subst hw44; have HBm := hide (btr HB2.out hb4); have hx2 : w4.cell? ⟨w.heap.size, 2, none⟩ = some (.slice A n c) := (HK2.out.below hb4 HK2.out.lt).cell 2; have hPm := HPp.out w4 HBm.out; rw [HPt.out] at hPm; obtain ⟨g, o, b, Bq, mq, dq, r2, rfl, hg, hx, hr, hc0, hc1⟩ := SGat hPm (k := 0) (by rw [← hPm.1]; simp); have n0 : (0 : Int) < (n : Int) := (by have := hPm.1; simp at this; omega)
 have en : ((n : Int) == 0) = false := (by simp; omega)
 simp only [List.getElem?_cons_zero, Option.some.injEq, SG.mk.injEq] at hx; obtain ⟨rfl, rfl⟩ := hx; have k0 : w4.cell? ⟨g, o, none⟩ = some (.int .i64 2) := (by simpa using hc0)
 have k1 : w4.cell? ⟨g, o + 1, none⟩ = some (.slice Bq mq dq) := (by simpa using hc1)
 have hm0 : 0 < mq := (by rw [← hr.1]; simp)
 obtain ⟨g2, o2, y, hBq, hg2, hy, hy2, hc2⟩ := hr.at_ hm0; subst hBq; simp only [List.getElem?_cons_zero, Option.some.injEq] at hy; subst hy; have k2 : w4.cell? ⟨g2, o2, none⟩ = some (.int .u32 (fx : Int)) := (by simpa using hc2)
 have m0 : (0 : Int) < (mq : Int) := (by omega)
 have em : ((mq : Int) == 0) = false := (by simp; omega)
 have ex : ((fx : Int) != (ax : Int)) = true := (by simp; omega)
 clear hPm hr hc0 hc1 hc2; have HY4 := hide (HY2.out.below hb4 HY2.out.lt); have HZ4 := hide (HZ2.out.below hb4 HZ2.out.lt); have HC4 : Hid (ChgS (fun _ => False) w1 w4) := hide (chg_below (btr HBe2.out hb4)); have hso : w.heap.size + 1 < w1.heap.size := (by have := HS1.out; have := HS0.out; omega)
 clear hb4 x0 x1 x2 x3 x4 x5 x6 x7 x8; obtain ⟨y0, y1, y2, y3, y4, y5, y6, y7, y8⟩ := blk9 HY4.out; obtain ⟨z0, z1, z2, z3, z4, z5, z6, z7, z8⟩ := blk9 HZ4.out; have zf := fun i => HZ4.out.frozen i; go_wp2; change bodyPost _ _ _ _ _ (w4.setCells (w.heap.size + 1) 0 (aL Y A6 n6 c6 B6 m6 d6)); obtain ⟨wF, hwF⟩ : ∃ x, w4.setCells (w.heap.size + 1) 0 (aL Y A6 n6 c6 B6 m6 d6) = x := ⟨_, rfl⟩
 have HFk := hide (hwF ▸ blk_sets (aL Y A6 n6 c6 B6 m6 d6) [] zeroL HZ4.out rfl : Blk wF (w.heap.size + 1) 28 (aC Y A6 n6 c6 B6 m6 d6)); have HFc : Hid (ChgS (fun k => k = w.heap.size + 1) w1 wF) := hide (hwF ▸ chg_trans (chg_mono HC4.out (fun k h => h.elim)) (chg_sets (S := fun k => k = w.heap.size + 1) rfl [.int .i64 Y.has, .int .i64 Y.org, .slice A6 n6 c6, .int .u32 Y.hop, .int .u32 Y.med, .int .u32 Y.pref, .int .u32 Y.aas, .int .u32 Y.aid, .slice B6 m6 d6] 0) (fun k h => .inl h)); have HFb : Hid (Below w.heap.size w wF) := hide (chg_to_below (chg_trans (chg_below (S := fun k => w.heap.size ≤ k) HB1.out) HFc.out (fun k h => .inl (by omega))) (Nat.le_refl _) (fun k h => h)); rw [hwF]; clear hwF zf y0 y1 y2 y3 y4 y5 y6 y7 y8 z0 z1 z2 z3 z4 z5 z6 z7 z8; obtain ⟨q0, q1, q2, q3, q4, q5, q6, q7, q8⟩ := blk9 HFk.out; have hAF := ato_chg HAt.out HFc.out (fun k h1 h2 h3 => by have := HS0.out; omega); have hAC : AtO w.heap.size wF Y (.agg #[.int .i64 Y.has, .int .i64 Y.org, .slice A6 n6 c6, .int .u32 Y.hop, .int .u32 Y.med, .int .u32 Y.pref, .int .u32 Y.aas, .int .u32 Y.aid, .slice B6 m6 d6]) := hAF.less (by have := HS0.out; omega); refine bodyPost_ret (v := .tuple #[.agg #[.int .i64 Y.has, .int .i64 Y.org, .slice A6 n6 c6, .int .u32 Y.hop, .int .u32 Y.med, .int .u32 Y.pref, .int .u32 Y.aas, .int .u32 Y.aid, .slice B6 m6 d6], .bool false]) (by simp [results, Tryz.results28, go_sem, q0, q1, q2, q3, q4, q5, q6, q7, q8]) rfl ⟨_, rfl, hAC, HFb.out⟩
set_option maxRecDepth 100000 in
set_option maxHeartbeats 8000000 in
theorem refacc_extn (own ax : Nat) (X Y : AT) (v : Value) (w : World) (hv : AtR w X v) (hn : numS X.path ≤ 10000) (hn2 : X.path.length ≤ 100000) (hm : X.comms.length ≤ 10000) (hY : normA X = Y) (hh : pathHas X.path own = false) (hne : own ≠ ax) (rr : List Nat) (ll : List SG) (hpt : X.path = ⟨2, ax :: rr⟩ :: ll) (h5 : attB Y.has 5 = false) :
  Calls Tryz.prog 28 #[.int .u32 (own : Int), .int .u32 (ax : Int), v] w fun e w' => ∃ v', e = .returned (.tuple #[v', .bool true]) ∧ AtO w.heap.size w' Y v' ∧ Below w.heap.size w w' := by
 obtain ⟨A, n, c, B, m, d, rfl, hP, hC⟩ := hv; obtain ⟨w0, hw0⟩ : ∃ w0, (w.alloc (.cells (aC X A n c B m d) 28)).alloc (.cells zeroA 28) = w0 := ⟨_, rfl⟩
 have hb0 : Below w.heap.size w w0 := hw0 ▸ blkBelow2 w _ _; have hs0 : w0.heap.size = w.heap.size + 2 := (by rw [← hw0]; simp)
 have HK : Hid (Blk w0 (w.heap.size) 28 (aC X A n c B m d)) := hide (hw0 ▸ (Blk.new w _ _).alloc _); have HZ : Hid (Blk w0 (w.heap.size + 1) 28 zeroA) := hide (hw0 ▸ blk_new' _ _ (by simp)); have HNm := hide (refANormY_any X (atV X.has X.org A n c X.hop X.med X.pref X.aas X.aid B m d) w0 ⟨A, n, c, B, m, d, rfl, hP.below sgMono hb0, hC.below hb0⟩ hn hn2 hm); rw [hY] at HNm; have HPp := hide (fun W (hb : Below w.heap.size w W) => hP.below sgMono hb); have HAl := hide (fun W (hb : Below w.heap.size w W) => refAll04_any A n c X.path W (hP.below sgMono hb) hn); have HHs := hide (fun A' n' c' W (hu : U32s W A' n' c' (setOf (flatS X.path))) => refHas_any A' n' c' (setOf (flatS X.path)) own W hu); rw [flatS_has, hh] at HHs; have HB0 := hide hb0; have HS0 := hide hs0; have HW0 := hide hw0; have e1 : ((own : Int) == (ax : Int)) = false := (by simp; omega)
 have HPt := hide hpt; have H5 := hide h5; clear hw0 hb0 hP hC hn hn2 hm hY hh hs0 hne hpt h5; obtain ⟨x0, x1, x2, x3, x4, x5, x6, x7, x8⟩ := blk9 HK.out
 go_enter Tryz.func28, Tryz.ntmps28
 go_wp2_with fail
 rw [HW0.out]; refine HNm.out.mono ?_; rintro e w1 ⟨v6, rfl, ⟨A6, n6, c6, xs6, B6, m6, d6, rfl, hl6, hu6⟩, hb1⟩; obtain ⟨w2, hw2⟩ : ∃ W, w1.alloc (.cells (aC Y A6 n6 c6 B6 m6 d6) 28) = W := ⟨_, rfl⟩
 have hb2 : Below w1.heap.size w1 w2 := hw2 ▸ blkBelow1 w1 _; have HY2 : Hid (Blk w2 w1.heap.size 28 (aC Y A6 n6 c6 B6 m6 d6)) := hide (hw2 ▸ Blk.new w1 _ _); have HB1 := hide (btr HB0.out hb1); have HB2 := hide (btr HB1.out hb2); have HK1 := hide (HK.out.below hb1 HK.out.lt); have HK2 := hide (HK1.out.below hb2 HK1.out.lt); have HZ1 := hide (HZ.out.below hb1 HZ.out.lt); have HZ2 := hide (HZ1.out.below hb2 HZ1.out.lt); have HAt : Hid (AtO w0.heap.size w1 Y (atV Y.has Y.org A6 n6 c6 Y.hop Y.med Y.pref Y.aas Y.aid B6 m6 d6)) := hide ⟨A6, n6, c6, xs6, B6, m6, d6, rfl, hl6, hu6⟩; have HW2 := hide hw2; have HS1 := hide hb1.size; have HBe2 := hide hb2; clear hw2 hb1 hb2 hl6 hu6 x0 x1 x2 x3 x4 x5 x6 x7 x8; obtain ⟨x0, x1, x2, x3, x4, x5, x6, x7, x8⟩ := blk9 HK2.out
 go_upto_region 2 with fail
 rw [HW2.out]
 go_wp2_with fail
 refine (HAl.out _ HB2.out).mono ?_; rintro e w3 ⟨A3, n3, c3, rfl, hu3, hb3⟩; have HHx := hide (HHs.out A3 n3 c3 w3 hu3); clear hu3
 go_wp2_with fail
 refine HHx.out.mono ?_; rintro e w44 ⟨rfl, hw44⟩; subst hw44; have HBm := hide (btr HB2.out hb3); have hx2 : w3.cell? ⟨w.heap.size, 2, none⟩ = some (.slice A n c) := (HK2.out.below hb3 HK2.out.lt).cell 2; have hPm := HPp.out w3 HBm.out; rw [HPt.out] at hPm; obtain ⟨g, o, b, Bq, mq, dq, r2, rfl, hg, hx, hr, hc0, hc1⟩ := SGat hPm (k := 0) (by rw [← hPm.1]; simp); have n0 : (0 : Int) < (n : Int) := (by have := hPm.1; simp at this; omega)
 have en : ((n : Int) == 0) = false := (by simp; omega)
 simp only [List.getElem?_cons_zero, Option.some.injEq, SG.mk.injEq] at hx; obtain ⟨rfl, rfl⟩ := hx; have k0 : w3.cell? ⟨g, o, none⟩ = some (.int .i64 2) := (by simpa using hc0)
 have k1 : w3.cell? ⟨g, o + 1, none⟩ = some (.slice Bq mq dq) := (by simpa using hc1)
 have hm0 : 0 < mq := (by rw [← hr.1]; simp)
 obtain ⟨g2, o2, y, hBq, hg2, hy, hy2, hc2⟩ := hr.at_ hm0; subst hBq; simp only [List.getElem?_cons_zero, Option.some.injEq] at hy; subst hy; have k2 : w3.cell? ⟨g2, o2, none⟩ = some (.int .u32 (ax : Int)) := (by simpa using hc2)
 have m0 : (0 : Int) < (mq : Int) := (by omega)
 have em : ((mq : Int) == 0) = false := (by simp; omega)
 have ex : ((ax : Int) != (ax : Int)) = false := (by simp)
 clear hPm hr hc0 hc1 hc2; have HY3 := hide (HY2.out.below hb3 HY2.out.lt); obtain ⟨y0, y1, y2, y3, y4, y5, y6, y7, y8⟩ := blk9 HY3.out
 go_wp2_with fail
 refine (refAHas_any 5 ⟨by decide, by decide⟩ _ _ _ _ _ _ _ _ _ _ _ _ _ w3).mono ?_; rw [H5.out]; rintro e w4 ⟨rfl, hb43⟩; have hb4 : Below w2.heap.size w2 w4 := hb3.trans (hb43.mono hb3.size); clear hb43 HY3 y0 y1 y2 y3 y4 y5 y6 y7 y8; have HY4 := hide (HY2.out.below hb4 HY2.out.lt); have HZ4 := hide (HZ2.out.below hb4 HZ2.out.lt); have HC4 : Hid (ChgS (fun _ => False) w1 w4) := hide (chg_below (btr HBe2.out hb4)); have hso : w.heap.size + 1 < w1.heap.size := (by have := HS1.out; have := HS0.out; omega)
 clear hb4 x0 x1 x2 x3 x4 x5 x6 x7 x8; obtain ⟨y0, y1, y2, y3, y4, y5, y6, y7, y8⟩ := blk9 HY4.out; obtain ⟨z0, z1, z2, z3, z4, z5, z6, z7, z8⟩ := blk9 HZ4.out; have zf := fun i => HZ4.out.frozen i; go_wp2; change bodyPost _ _ _ _ _ (w4.setCells (w.heap.size + 1) 0 (aL Y A6 n6 c6 B6 m6 d6)); obtain ⟨wF, hwF⟩ : ∃ x, w4.setCells (w.heap.size + 1) 0 (aL Y A6 n6 c6 B6 m6 d6) = x := ⟨_, rfl⟩
 have HFk := hide (hwF ▸ blk_sets (aL Y A6 n6 c6 B6 m6 d6) [] zeroL HZ4.out rfl : Blk wF (w.heap.size + 1) 28 (aC Y A6 n6 c6 B6 m6 d6)); have HFc : Hid (ChgS (fun k => k = w.heap.size + 1) w1 wF) := hide (hwF ▸ chg_trans (chg_mono HC4.out (fun k h => h.elim)) (chg_sets (S := fun k => k = w.heap.size + 1) rfl [.int .i64 Y.has, .int .i64 Y.org, .slice A6 n6 c6, .int .u32 Y.hop, .int .u32 Y.med, .int .u32 Y.pref, .int .u32 Y.aas, .int .u32 Y.aid, .slice B6 m6 d6] 0) (fun k h => .inl h)); have HFb : Hid (Below w.heap.size w wF) := hide (chg_to_below (chg_trans (chg_below (S := fun k => w.heap.size ≤ k) HB1.out) HFc.out (fun k h => .inl (by omega))) (Nat.le_refl _) (fun k h => h)); rw [hwF]; clear hwF zf y0 y1 y2 y3 y4 y5 y6 y7 y8 z0 z1 z2 z3 z4 z5 z6 z7 z8; obtain ⟨q0, q1, q2, q3, q4, q5, q6, q7, q8⟩ := blk9 HFk.out; have hAF := ato_chg HAt.out HFc.out (fun k h1 h2 h3 => by have := HS0.out; omega); have hAC : AtO w.heap.size wF Y (.agg #[.int .i64 Y.has, .int .i64 Y.org, .slice A6 n6 c6, .int .u32 Y.hop, .int .u32 Y.med, .int .u32 Y.pref, .int .u32 Y.aas, .int .u32 Y.aid, .slice B6 m6 d6]) := hAF.less (by have := HS0.out; omega); refine bodyPost_ret (v := .tuple #[.agg #[.int .i64 Y.has, .int .i64 Y.org, .slice A6 n6 c6, .int .u32 Y.hop, .int .u32 Y.med, .int .u32 Y.pref, .int .u32 Y.aas, .int .u32 Y.aid, .slice B6 m6 d6], .bool true]) (by simp [results, Tryz.results28, go_sem, q0, q1, q2, q3, q4, q5, q6, q7, q8]) rfl ⟨_, rfl, hAC, HFb.out⟩
set_option maxRecDepth 100000 in
set_option maxHeartbeats 8000000 in
theorem refacc_ext (own ax : Nat) (X Y : AT) (v : Value) (w : World) (hv : AtR w X v) (hn : numS X.path ≤ 10000) (hn2 : X.path.length ≤ 100000) (hm : X.comms.length ≤ 10000) (hY : normA X = Y) (hh : pathHas X.path own = false) (hne : own ≠ ax) (rr : List Nat) (ll : List SG) (hpt : X.path = ⟨2, ax :: rr⟩ :: ll) (h5 : attB Y.has 5 = true) (hwp : IntKind.i64.wrap (Y.has - 32) = bits .andNot .i64 Y.has 32) :
  Calls Tryz.prog 28 #[.int .u32 (own : Int), .int .u32 (ax : Int), v] w fun e w' => ∃ v', e = .returned (.tuple #[v', .bool true]) ∧ AtO w.heap.size w' (clrP Y) v' ∧ Below w.heap.size w w' := by
 obtain ⟨A, n, c, B, m, d, rfl, hP, hC⟩ := hv; obtain ⟨w0, hw0⟩ : ∃ w0, (w.alloc (.cells (aC X A n c B m d) 28)).alloc (.cells zeroA 28) = w0 := ⟨_, rfl⟩
 have hb0 : Below w.heap.size w w0 := hw0 ▸ blkBelow2 w _ _; have hs0 : w0.heap.size = w.heap.size + 2 := (by rw [← hw0]; simp)
 have HK : Hid (Blk w0 (w.heap.size) 28 (aC X A n c B m d)) := hide (hw0 ▸ (Blk.new w _ _).alloc _); have HZ : Hid (Blk w0 (w.heap.size + 1) 28 zeroA) := hide (hw0 ▸ blk_new' _ _ (by simp)); have HNm := hide (refANormY_any X (atV X.has X.org A n c X.hop X.med X.pref X.aas X.aid B m d) w0 ⟨A, n, c, B, m, d, rfl, hP.below sgMono hb0, hC.below hb0⟩ hn hn2 hm); rw [hY] at HNm; have HPp := hide (fun W (hb : Below w.heap.size w W) => hP.below sgMono hb); have HAl := hide (fun W (hb : Below w.heap.size w W) => refAll04_any A n c X.path W (hP.below sgMono hb) hn); have HHs := hide (fun A' n' c' W (hu : U32s W A' n' c' (setOf (flatS X.path))) => refHas_any A' n' c' (setOf (flatS X.path)) own W hu); rw [flatS_has, hh] at HHs; have HB0 := hide hb0; have HS0 := hide hs0; have HW0 := hide hw0; have e1 : ((own : Int) == (ax : Int)) = false := (by simp; omega)
 have HPt := hide hpt; have H5 := hide h5; clear hw0 hb0 hP hC hn hn2 hm hY hh hs0 hne hpt h5; obtain ⟨x0, x1, x2, x3, x4, x5, x6, x7, x8⟩ := blk9 HK.out
 go_enter Tryz.func28, Tryz.ntmps28
 go_wp2_with fail
 rw [HW0.out]; refine HNm.out.mono ?_; rintro e w1 ⟨v6, rfl, ⟨A6, n6, c6, xs6, B6, m6, d6, rfl, hl6, hu6⟩, hb1⟩; obtain ⟨w2, hw2⟩ : ∃ W, w1.alloc (.cells (aC Y A6 n6 c6 B6 m6 d6) 28) = W := ⟨_, rfl⟩
 have hb2 : Below w1.heap.size w1 w2 := hw2 ▸ blkBelow1 w1 _; have HY2 : Hid (Blk w2 w1.heap.size 28 (aC Y A6 n6 c6 B6 m6 d6)) := hide (hw2 ▸ Blk.new w1 _ _); have HB1 := hide (btr HB0.out hb1); have HB2 := hide (btr HB1.out hb2); have HK1 := hide (HK.out.below hb1 HK.out.lt); have HK2 := hide (HK1.out.below hb2 HK1.out.lt); have HZ1 := hide (HZ.out.below hb1 HZ.out.lt); have HZ2 := hide (HZ1.out.below hb2 HZ1.out.lt); have HAt : Hid (AtO w0.heap.size w1 Y (atV Y.has Y.org A6 n6 c6 Y.hop Y.med Y.pref Y.aas Y.aid B6 m6 d6)) := hide ⟨A6, n6, c6, xs6, B6, m6, d6, rfl, hl6, hu6⟩; have HW2 := hide hw2; have HS1 := hide hb1.size; have HBe2 := hide hb2; clear hw2 hb1 hb2 hl6 hu6 x0 x1 x2 x3 x4 x5 x6 x7 x8; obtain ⟨x0, x1, x2, x3, x4, x5, x6, x7, x8⟩ := blk9 HK2.out
 go_upto_region 2 with fail
 rw [HW2.out]
 go_wp2_with fail
 refine (HAl.out _ HB2.out).mono ?_; rintro e w3 ⟨A3, n3, c3, rfl, hu3, hb3⟩; have HHx := hide (HHs.out A3 n3 c3 w3 hu3); clear hu3
 go_wp2_with fail
 refine HHx.out.mono ?_; rintro e w44 ⟨rfl, hw44⟩; subst hw44; have HBm := hide (btr HB2.out hb3); have hx2 : w3.cell? ⟨w.heap.size, 2, none⟩ = some (.slice A n c) := (HK2.out.below hb3 HK2.out.lt).cell 2; have hPm := HPp.out w3 HBm.out; rw [HPt.out] at hPm; obtain ⟨g, o, b, Bq, mq, dq, r2, rfl, hg, hx, hr, hc0, hc1⟩ := SGat hPm (k := 0) (by rw [← hPm.1]; simp); have n0 : (0 : Int) < (n : Int) := (by have := hPm.1; simp at this; omega)
 have en : ((n : Int) == 0) = false := (by simp; omega)
 simp only [List.getElem?_cons_zero, Option.some.injEq, SG.mk.injEq] at hx; obtain ⟨rfl, rfl⟩ := hx; have k0 : w3.cell? ⟨g, o, none⟩ = some (.int .i64 2) := (by simpa using hc0)
 have k1 : w3.cell? ⟨g, o + 1, none⟩ = some (.slice Bq mq dq) := (by simpa using hc1)
 have hm0 : 0 < mq := (by rw [← hr.1]; simp)
 obtain ⟨g2, o2, y, hBq, hg2, hy, hy2, hc2⟩ := hr.at_ hm0; subst hBq; simp only [List.getElem?_cons_zero, Option.some.injEq] at hy; subst hy; have k2 : w3.cell? ⟨g2, o2, none⟩ = some (.int .u32 (ax : Int)) := (by simpa using hc2)
 have m0 : (0 : Int) < (mq : Int) := (by omega)
 have em : ((mq : Int) == 0) = false := (by simp; omega)
 have ex : ((ax : Int) != (ax : Int)) = false := (by simp)
 clear hPm hr hc0 hc1 hc2; have HY3 := hide (HY2.out.below hb3 HY2.out.lt); obtain ⟨y0, y1, y2, y3, y4, y5, y6, y7, y8⟩ := blk9 HY3.out
 go_wp2_with fail
 refine (refAHas_any 5 ⟨by decide, by decide⟩ _ _ _ _ _ _ _ _ _ _ _ _ _ w3).mono ?_; rw [H5.out]; rintro e w4 ⟨rfl, hb43⟩; have hb4 : Below w2.heap.size w2 w4 := hb3.trans (hb43.mono hb3.size); clear hb43 HY3 y0 y1 y2 y3 y4 y5 y6 y7 y8; have HY4 := hide (HY2.out.below hb4 HY2.out.lt); have HZ4 := hide (HZ2.out.below hb4 HZ2.out.lt); have HC4 : Hid (ChgS (fun _ => False) w1 w4) := hide (chg_below (btr HBe2.out hb4)); have HB4 := hide (btr HB2.out hb4); clear hb4 x0 x1 x2 x3 x4 x5 x6 x7 x8; obtain ⟨y0, y1, y2, y3, y4, y5, y6, y7, y8⟩ := blk9 HY4.out; have yf := fun i => HY4.out.frozen i
 go_upto_region 12 with fail
 obtain ⟨w5, hw5⟩ : ∃ W, (w4.setCell ⟨w1.heap.size, 0, none⟩ (.int .i64 (bits .andNot .i64 Y.has 32))).setCell ⟨w1.heap.size, 5, none⟩ (.int .u32 0) = W := ⟨_, rfl⟩
 have hso : w.heap.size + 1 < w1.heap.size := (by have := HS1.out; have := HS0.out; omega)
 have HY5 : Hid (Blk w5 w1.heap.size 28 #[.int .i64 (bits .andNot .i64 Y.has 32), .int .i64 Y.org, .slice A6 n6 c6, .int .u32 Y.hop, .int .u32 Y.med, .int .u32 0, .int .u32 Y.aas, .int .u32 Y.aid, .slice B6 m6 d6]) := hide (hw5 ▸ (HY4.out.set_ 0 _).set_ 5 _); have HZ5 : Hid (Blk w5 (w.heap.size + 1) 28 zeroA) := hide (hw5 ▸ (HZ4.out.far (p := ⟨w1.heap.size, 0, none⟩) (by show w.heap.size + 1 ≠ w1.heap.size; omega) _).far (p := ⟨w1.heap.size, 5, none⟩) (by show w.heap.size + 1 ≠ w1.heap.size; omega) _); have HC5 : Hid (ChgS (fun k => k = w1.heap.size) w4 w5) := hide (hw5 ▸ chg_trans (chg_set (S := fun k => k = w1.heap.size) (p := ⟨w1.heap.size, 0, none⟩) rfl _) (chg_set (S := fun k => k = w1.heap.size) (p := ⟨w1.heap.size, 5, none⟩) rfl _) (fun k h => .inl h)); rw [hw5]; clear hw5 yf y0 y1 y2 y3 y4 y5 y6 y7 y8; obtain ⟨y0, y1, y2, y3, y4, y5, y6, y7, y8⟩ := blk9 HY5.out; obtain ⟨z0, z1, z2, z3, z4, z5, z6, z7, z8⟩ := blk9 HZ5.out; have zf := fun i => HZ5.out.frozen i; go_wp2; change bodyPost _ _ _ _ _ (w5.setCells (w.heap.size + 1) 0 [.int .i64 (bits .andNot .i64 Y.has 32), .int .i64 Y.org, .slice A6 n6 c6, .int .u32 Y.hop, .int .u32 Y.med, .int .u32 0, .int .u32 Y.aas, .int .u32 Y.aid, .slice B6 m6 d6]); obtain ⟨wF, hwF⟩ : ∃ x, w5.setCells (w.heap.size + 1) 0 [.int .i64 (bits .andNot .i64 Y.has 32), .int .i64 Y.org, .slice A6 n6 c6, .int .u32 Y.hop, .int .u32 Y.med, .int .u32 0, .int .u32 Y.aas, .int .u32 Y.aid, .slice B6 m6 d6] = x := ⟨_, rfl⟩
 have HFk := hide (hwF ▸ blk_sets [.int .i64 (bits .andNot .i64 Y.has 32), .int .i64 Y.org, .slice A6 n6 c6, .int .u32 Y.hop, .int .u32 Y.med, .int .u32 0, .int .u32 Y.aas, .int .u32 Y.aid, .slice B6 m6 d6] [] zeroL HZ5.out rfl : Blk wF (w.heap.size + 1) 28 #[.int .i64 (bits .andNot .i64 Y.has 32), .int .i64 Y.org, .slice A6 n6 c6, .int .u32 Y.hop, .int .u32 Y.med, .int .u32 0, .int .u32 Y.aas, .int .u32 Y.aid, .slice B6 m6 d6]); have HFc : Hid (ChgS (fun k => k = w1.heap.size ∨ k = w.heap.size + 1) w1 wF) := hide (hwF ▸ chg_trans (chg_trans (chg_mono HC4.out (fun k h => h.elim)) HC5.out (fun k h => .inl (.inl h))) (chg_sets (S := fun k => k = w.heap.size + 1) rfl [.int .i64 (bits .andNot .i64 Y.has 32), .int .i64 Y.org, .slice A6 n6 c6, .int .u32 Y.hop, .int .u32 Y.med, .int .u32 0, .int .u32 Y.aas, .int .u32 Y.aid, .slice B6 m6 d6] 0) (fun k h => .inl (.inr h))); have HFb : Hid (Below w.heap.size w wF) := hide (chg_to_below (chg_trans (chg_below (S := fun k => w.heap.size ≤ k) HB1.out) HFc.out (fun k h => .inl (by rcases h with h | h <;> omega))) (Nat.le_refl _) (fun k h => h)); rw [hwF]; clear hwF zf y0 y1 y2 y3 y4 y5 y6 y7 y8 z0 z1 z2 z3 z4 z5 z6 z7 z8; obtain ⟨q0, q1, q2, q3, q4, q5, q6, q7, q8⟩ := blk9 HFk.out; have hAF := ato_chg HAt.out HFc.out (fun k h1 h2 h3 => by have := HS0.out; rcases h3 with h3 | h3 <;> omega)
 have hAC : AtO w.heap.size wF (clrP Y) (.agg #[.int .i64 (bits .andNot .i64 Y.has 32), .int .i64 Y.org, .slice A6 n6 c6, .int .u32 Y.hop, .int .u32 Y.med, .int .u32 0, .int .u32 Y.aas, .int .u32 Y.aid, .slice B6 m6 d6]) := by
  obtain ⟨A7, n7, c7, xs7, B7, m7, d7, e, h1, h2⟩ := hAF; simp only [atV, Value.agg.injEq, Array.mk.injEq, List.cons.injEq, and_true, true_and] at e; obtain ⟨e3, e9⟩ := e; injection e3 with q1 q2 q3
  injection e9 with q4 q5 q6
  subst q1 q2 q3 q4 q5 q6; have hle : w.heap.size ≤ w0.heap.size := (by have := HS0.out; omega)
  exact ⟨_, _, _, xs7, _, _, _, rfl, h1.less hle hle, h2.less hle⟩
 refine bodyPost_ret (v := .tuple #[.agg #[.int .i64 (bits .andNot .i64 Y.has 32), .int .i64 Y.org, .slice A6 n6 c6, .int .u32 Y.hop, .int .u32 Y.med, .int .u32 0, .int .u32 Y.aas, .int .u32 Y.aid, .slice B6 m6 d6], .bool true]) (by simp [results, Tryz.results28, go_sem, q0, q1, q2, q3, q4, q5, q6, q7, q8]) rfl ⟨_, rfl, hAC, HFb.out⟩
theorem refAcc27_any (own ax : Nat) (X : AT) (v : Value) (w : World) (hv : AtR w X v) (hn : numS X.path ≤ 10000) (hn2 : X.path.length ≤ 100000) (hm : X.comms.length ≤ 10000) :
  Calls Tryz.prog 28 #[.int .u32 (own : Int), .int .u32 (ax : Int), v] w fun e w' => ∃ v', e = .returned (.tuple #[v', .bool (accF own ax X).2]) ∧ AtO w.heap.size w' (accF own ax X).1 v' ∧ Below w.heap.size w w' := by
 have hlt := nmH_lt X.has
 cases hh : pathHas X.path own with
 | true =>
  have e : accF own ax X = (normA X, false) := (by unfold accF; rw [if_pos hh])
  rw [e]; exact refacc_has own ax X _ v w hv hn hn2 hm rfl hh
 | false =>
  have hh' : ¬ pathHas X.path own = true := (by rw [hh]; decide)
  by_cases hne : own = ax
  ·subst hne
   cases h5 : attB (normA X).has 5 with
   | false =>
    have hp : bits .and .i64 (normA X).has 32 = 0 := Classical.byContradiction fun h => by
     have := (h5_and _ hlt).2 h; have h5' : attB (nmH X.has : Int) 5 = false := h5; rw [h5'] at this
     cases this
    have e : accF own own X = (setP (normA X), true) := (by unfold accF; rw [if_neg hh', if_pos rfl, if_pos hp])
    rw [e]; exact refacc_set own X _ v w hv hn hn2 hm rfl hh h5 (h5_or _ hlt h5)
   | true =>
    have hp : ¬ bits .and .i64 (normA X).has 32 = 0 := (h5_and _ hlt).1 h5; have e : accF own own X = (normA X, true) := (by unfold accF; rw [if_neg hh', if_pos rfl, if_neg hp])
    rw [e]; exact refacc_pre own X _ v w hv hn hn2 hm rfl hh h5
  ·have hno : ∀ h : pfirstF X.path ≠ some ax, accF own ax X = (normA X, false) := fun h => by unfold accF; rw [if_neg hh', if_neg hne, if_neg h]
   cases hp : X.path with
   | nil =>
    rw [hno (by rw [hp]; simp [pfirstF])]; exact refacc_nil own ax X _ v w hv hn hn2 hm rfl hh hne hp
   | cons z ll =>
    obtain ⟨kd, r⟩ := z; by_cases hk : kd = 2
    ·subst hk
     cases r with
     | nil =>
      rw [hno (by rw [hp]; simp [pfirstF])]; exact refacc_none own ax X _ v w hv hn hn2 hm rfl hh hne ll hp
     | cons fx rr =>
      by_cases hfx : fx = ax
      ·subst hfx; have e : accF own fx X = (clrP (normA X), true) := (by unfold accF; rw [if_neg hh', if_neg hne, if_pos (by rw [hp]; simp [pfirstF])])
       rw [e]
       cases h5 : attB (normA X).has 5 with
       | false =>
        rw [clr_none X h5]; exact refacc_extn own fx X _ v w hv hn hn2 hm rfl hh hne rr ll hp h5
       | true => exact refacc_ext own fx X _ v w hv hn hn2 hm rfl hh hne rr ll hp h5 (h5_not _ hlt h5)
      ·rw [hno (by rw [hp]; simp [pfirstF]; exact hfx)]; exact refacc_oth own ax X _ v w hv hn hn2 hm rfl hh hne fx hfx rr ll hp
    ·rw [hno (by rw [hp]; simp [pfirstF, hk])]; exact refacc_kind own ax X _ v w hv hn hn2 hm rfl hh hne kd hk r ll hp
def SomeB (w : World) : Ending → World → Prop := fun e w' => ∃ q : Bool, e = .returned (.bool q) ∧ Below w.heap.size w w'
set_option maxRecDepth 100000 in
set_option maxHeartbeats 8000000 in
theorem pgood_some (A : Option Addr) (n c : Nat) (l : List SG) (w : World) (h : LstAt 2 sgR w A n c l) (hnum : numS l ≤ 10000) (hn2 : n ≤ 100000) :
  Calls Tryz.prog 445 #[.slice A n c] w (SomeB w) := by
 have hnc := h.2.1; have hmx := h.2.2.1; unfold maxLen at hmx; have HLs := hide h; have HNl := hide (normS_len l); clear h
 go_enter Tryz.func445, Tryz.ntmps445
 go_wp2
 go_loopw [7] (fun iv wr => ∃ i : Nat, i ≤ n ∧ iv = .int .i64 (i : Nat) ∧ Below w.heap.size w wr) (fun iv _ => n - (intOf iv).toNat)
 case atStart => exact ⟨0, Nat.zero_le _, rfl, Below.refl _ _⟩
 case round =>
  obtain ⟨i, hi, rfl, hbel⟩ := hrel; have HBe := hide hbel; have hs1 := hbel.size; by_cases hlt : i < n
  ·obtain ⟨g, o, b, B, m1, d, r, rfl, hg, hx, hr1, hc0, hc1⟩ := SGat (HLs.out.below sgMono hbel) hlt; have q1 : (i : Int) < (n : Int) := (by omega)
   have q0 : (0 : Int) ≤ (i : Int) := (by omega)
   have hwq : IntKind.i64.wrap ((i : Int) + 1) = (i : Int) + 1 := (by rw [IntKind.wrap_i64]; omega)
   have HBx : Hid (∀ o1 : Obj, Below w.heap.size w (wr.alloc o1)) := hide (fun o1 => HBe.out.alloc hs1 o1); clear hbel hx hr1; by_cases h1 : m1 < 1
   ·have e1 : decide ((m1 : Int) < 1) = true := decide_eq_true (by omega); go_wp2; go_ret; exact ⟨false, rfl, HBx.out _⟩
   ·have e1 : decide ((m1 : Int) < 1) = false := decide_eq_false (by omega); by_cases h2 : 255 < m1
    ·have e2 : decide (255 < (m1 : Int)) = true := decide_eq_true (by omega); go_wp2; go_ret; exact ⟨false, rfl, HBx.out _⟩
    ·have e2 : decide (255 < (m1 : Int)) = false := decide_eq_false (by omega); clear h1 h2; go_wp2
     go_roundw
     case rel => exact ⟨i + 1, by omega, by go_num, HBx.out _⟩
     case measure => simp [intOf]; omega
  ·obtain rfl : i = n := (by omega)
   have e1 : decide ((i : Int) < (i : Int)) = false := (by simp)
   by_cases h100 : i ≤ 100
   ·have e2 : decide ((i : Int) ≤ 100) = true := decide_eq_true (by omega); have HNm := hide (norm_any A i c l wr (HLs.out.below sgMono hbel) hnum); clear hbel hlt
    go_wp2_with fail
    refine HNm.out.mono ?_; intro e w3 hmv; unfold SegP at hmv; obtain ⟨A6, n6, c6, xs6, rfl, hl6, hb3⟩ := hmv; have HB3 := hide (HBe.out.trans (hb3.mono hs1)); have hn6 := (hl6.lst (by decide)).1; have HSa := hide (psameC_any A6 A n6 c6 i c _ l w3 (hl6.lst (by decide)) (HLs.out.below sgMono HB3.out) (by have := HNl.out; omega) (by omega)); clear hl6 hb3
    go_wp2_with fail
    refine HSa.out.mono ?_; rintro e w4 ⟨q, rfl, _, hb4⟩; have HB4 := hide (btr HB3.out hb4); clear hb4; go_wp2; go_ret; exact ⟨q, rfl, HB4.out⟩
   ·have e2 : decide ((i : Int) ≤ 100) = false := decide_eq_false (by omega); clear hbel hlt; go_wp2; go_ret; exact ⟨false, rfl, HBe.out⟩
theorem pGood_some (A : Option Addr) (n c : Nat) (l : List SG) (w : World) (h : LstAt 2 sgR w A n c l) (hnum : numS l ≤ 10000) (hn2 : n ≤ 100000) :
  Calls Tryz.prog 424 #[.slice A n c] w (SomeB w) := by
 have H := hide (pgood_some A n c l w h hnum hn2); clear h
 go_enter Tryz.func424, Tryz.ntmps424
 go_wp2_with fail
 refine H.out.mono ?_; rintro e w1 ⟨q, rfl, hb⟩; have HB := hide hb; clear hb; go_wp2; go_ret; exact ⟨q, rfl, HB.out⟩
set_option maxRecDepth 100000 in
set_option maxHeartbeats 4000000 in
theorem attrways_some (A : Option Addr) (n c : Nat) (l : List SG) (w : World) (h : LstAt 2 sgR w A n c l) (hnum : numS l ≤ 10000) (hn2 : n ≤ 100000) :
  Calls Tryz.prog 404 #[.slice A n c] w (SomeB w) := by
 have hln := h.1; have hnc := h.2.1; have hmx := h.2.2.1; unfold maxLen at hmx; have HLs := hide h; have HG := hide (fun W (hb : Below w.heap.size w W) => pGood_some A n c l W (h.below sgMono hb) hnum hn2); clear h
 go_enter Tryz.func404, Tryz.ntmps404
 go_wp2
 go_loopw [3, 8] (fun av iv wr => ∃ q : Nat, q ≤ n ∧ iv = .int .i64 (q : Nat) ∧ av = .int .i64 (numS (l.take q) : Int) ∧ Below w.heap.size w wr) (fun _ iv _ => n - (intOf iv).toNat)
 case atStart => exact ⟨0, Nat.zero_le _, rfl, rfl, Below.refl _ _⟩
 case round =>
  obtain ⟨q, hq, rfl, rfl, hbel⟩ := hrel; have HBe := hide hbel; have hs1 := hbel.size; by_cases hlt : q < n
  ·obtain ⟨g, o, b, B, m, d, r, rfl, hg, hx, hr, hc0, hc1⟩ := SGat (HLs.out.below sgMono hbel) hlt; have HS := hide (numS_snoc l q _ hx); have h2 := numS_take_le l (q + 1); have hrl : r.length = m := hr.1; have q1 : (q : Int) < (n : Int) := (by omega)
   have q0 : (0 : Int) ≤ (q : Int) := (by omega)
   have hwq : IntKind.i64.wrap ((q : Int) + 1) = (q : Int) + 1 := (by rw [IntKind.wrap_i64]; omega)
   have hsn := HS.out; have HBx : Hid (∀ o1 : Obj, Below w.heap.size w (wr.alloc o1)) := hide (fun o1 => HBe.out.alloc hs1 o1); simp only [hrl] at hsn; clear hbel hx hr; have hwa : IntKind.i64.wrap ((numS (l.take q) : Int) + (m : Int)) = (numS (l.take (q + 1)) : Int) := (by rw [IntKind.wrap_i64]; omega)
   go_wp2
   go_roundw
   case rel => exact ⟨q + 1, by omega, by go_num, by first | rfl | exact congrArg (Value.int .i64) (by omega), HBx.out _⟩
   case measure => simp [intOf]; omega
  ·obtain rfl : q = n := (by omega)
   have HGd := hide (HG.out wr hbel); obtain ⟨K, hK⟩ : ∃ K : Int, (numS (l.take q) : Int) = K := ⟨_, rfl⟩
   rw [hK]; clear hbel hlt hK
   go_wp2_with fail
   refine HGd.out.mono ?_; rintro e w2 ⟨b, rfl, hb2⟩; have HB2 := hide (HBe.out.trans (hb2.mono hs1)); clear hb2
   cases b with
   | false =>
    go_wp2; go_ret; exact ⟨false, rfl, HB2.out⟩
   | true =>
    by_cases hk : K ≤ 2000
    ·have e9 : decide (K ≤ 2000) = true := decide_eq_true hk; go_wp2; go_ret; exact ⟨_, rfl, HB2.out⟩
    ·have e9 : decide (K ≤ 2000) = false := decide_eq_false hk; go_wp2; go_ret; exact ⟨_, rfl, HB2.out⟩
theorem normA_plen (X : AT) : (normA X).path.length ≤ numS X.path := by
 unfold normA
 dsimp only
 split
 ·exact normS_len _
 ·exact Nat.zero_le _
theorem attrhop_some (x : Nat) (w : World) : Calls Tryz.prog 403 #[.int .u32 (x : Int)] w fun e w' => (∃ q : Bool, e = .returned (.bool q)) ∧ w' = w := by
 by_cases h0 : (x : Int) = 0
 ·have e1 : decide ((x : Int) = 0) = true := decide_eq_true h0; have e1b : ((x : Int) != 0) = false := (by simpa using h0)
  clear h0
  go_enter Tryz.func403, Tryz.ntmps403
  go_wp2; go_ret; exact ⟨⟨_, rfl⟩, rfl⟩
 ·have e1b : ((x : Int) != 0) = true := (by simpa using h0)
  by_cases h1 : (x : Int) = 4294967295
  ·have e2b : ((x : Int) != 4294967295) = false := (by simpa using h1)
   clear h0 h1
   go_enter Tryz.func403, Tryz.ntmps403
   go_wp2; go_ret; exact ⟨⟨_, rfl⟩, rfl⟩
  ·have e2b : ((x : Int) != 4294967295) = true := (by simpa using h1)
   clear h0 h1
   go_enter Tryz.func403, Tryz.ntmps403
   go_wp2; go_ret; exact ⟨⟨_, rfl⟩, rfl⟩
set_option maxRecDepth 100000 in
set_option maxHeartbeats 16000000 in
theorem attrgood_some (X : AT) (v : Value) (w : World) (hv : AtR w X v) (hnum : numS X.path ≤ 10000) (hpl : X.path.length ≤ 100000) (hcm : X.comms.length ≤ 10000) (hop : ∃ h : Nat, X.hop = h) :
  Calls Tryz.prog 352 #[v] w (SomeB w) := by
 obtain ⟨A, n, c, B, m, d, rfl, hP, hC⟩ := hv; obtain ⟨w1, hw1⟩ : ∃ w1, w.alloc (.cells (aC X A n c B m d) 28) = w1 := ⟨_, rfl⟩
 have hb1 : Below w.heap.size w w1 := hw1 ▸ blkBelow1 w _; have HK : Hid (Blk w1 w.heap.size 28 (aC X A n c B m d)) := hide (hw1 ▸ Blk.new w _ _); have hn := hP.1; have hm := hC.1; obtain ⟨Y, hY⟩ : ∃ Y, normA X = Y := ⟨_, rfl⟩
 have HN1 : Hid (numS X.path ≤ 10000) := hide hnum; have HN2 : Hid (m ≤ 10000) := hide (by omega); have HPl : Hid (X.path.length ≤ 100000) := hide hpl; have HPy : Hid (Y.path.length ≤ 100000) := hide (by rw [← hY]; exact Nat.le_trans (normA_plen X) (by omega)); have HNx : Hid (normA X = Y) := hide hY
 obtain ⟨QQ, hQQ⟩ : ∃ Q : Bool, (Q = true ↔ Y = X) := by
  by_cases h : Y = X
  ·exact ⟨true, fun _ => h, fun _ => rfl⟩
  ·exact ⟨false, (fun h => nomatch h), fun h2 => absurd h2 h⟩
 have HQQ := hide hQQ; have HP := hide (fun W (hb : Below w1.heap.size w1 W) => (hP.below sgMono hb1).below sgMono hb); have HC := hide (fun W (hb : Below w1.heap.size w1 W) => (hC.below hb1).below hb); have HWy := hide (fun W (hb : Below w1.heap.size w1 W) => attrways_some A n c X.path W (HP.out W hb) hnum (by omega)); have HHs := hide (fun W => attrHas_any 3 (by unfold K8; omega) X.has X.org A n c X.hop X.med X.pref X.aas X.aid B m d W); obtain ⟨HB, hHB⟩ : ∃ b, attB X.has 3 = b := ⟨_, rfl⟩
 rw [hHB] at HHs; obtain ⟨hopN, hhop⟩ := hop; have HHp := hide (fun W => attrhop_some hopN W); have HHo := hide hhop; have HB1 := hide hb1; have HW1 := hide hw1; clear hw1 hb1 hP hC hY hQQ hnum hpl hcm hn hm hHB hhop
 go_enter Tryz.func352, Tryz.ntmps352
 go_upto_region 1 with fail
 rw [HW1.out]; have Hmn := hide (show AllMono [(isV (.agg #[.int .i64 X.has, .int .i64 X.org, .slice A n c, .int .u32 X.hop, .int .u32 X.med, .int .u32 X.pref, .int .u32 X.aas, .int .u32 X.aid, .slice B m d])), (fun v W => AtR W Y v), (isV (.agg #[.int .i64 X.has, .int .i64 X.org, .slice A n c, .int .u32 X.hop, .int .u32 X.med, .int .u32 X.pref, .int .u32 X.aas, .int .u32 X.aid, .slice B m d])), (isV (.bool QQ)), (isV (.bool (!QQ)))] from ⟨fun _ _ _ _ h => h, fun v w2 w3 hb ⟨A, n, c, B, m, d, e, h1, h2⟩ => ⟨A, n, c, B, m, d, e, h1.below sgMono hb, h2.below hb⟩, fun _ _ _ _ h => h, fun _ _ _ _ h => h, fun _ _ _ _ h => h, trivial⟩); refine wp_region_relT 5 _ (by kernel_rfl) (by kernel_rfl) (by kernel_rfl) (by kernel_rfl) (by kernel_rfl) (relMono _ Hmn.out) ⟨?_, ?_, ?_, ?_, ?_, trivial⟩ ?_
 ·refine relStep_plain rfl ?_; intro Ac w5 hp; have hb := hp.bel; have hx5 := HK.out.below hb HK.out.lt; have x0 : w5.cell? ⟨w.heap.size, 0, none⟩ = some (.int .i64 X.has) := hx5.cell 0; have x1 : w5.cell? ⟨w.heap.size, 1, none⟩ = some (.int .i64 X.org) := hx5.cell 1; have x2 : w5.cell? ⟨w.heap.size, 2, none⟩ = some (.slice A n c) := hx5.cell 2; have x3 : w5.cell? ⟨w.heap.size, 3, none⟩ = some (.int .u32 X.hop) := hx5.cell 3; have x4 : w5.cell? ⟨w.heap.size, 4, none⟩ = some (.int .u32 X.med) := hx5.cell 4; have x5 : w5.cell? ⟨w.heap.size, 5, none⟩ = some (.int .u32 X.pref) := hx5.cell 5; have x6 : w5.cell? ⟨w.heap.size, 6, none⟩ = some (.int .u32 X.aas) := hx5.cell 6; have x7 : w5.cell? ⟨w.heap.size, 7, none⟩ = some (.int .u32 X.aid) := hx5.cell 7; have x8 : w5.cell? ⟨w.heap.size, 8, none⟩ = some (.slice B m d) := hx5.cell 8; exact pure1 (.agg #[.int .i64 X.has, .int .i64 X.org, .slice A n c, .int .u32 X.hop, .int .u32 X.med, .int .u32 X.pref, .int .u32 X.aas, .int .u32 X.aid, .slice B m d]) 1 (ptv w.heap.size 0) (hp.out 1 (by rfl))
 ·refine relStep_plain rfl ?_; intro Ac w5 hp; have hb := hp.bel; have a4 : Ac.eval (.tmp 4) = .agg #[.int .i64 X.has, .int .i64 X.org, .slice A n c, .int .u32 X.hop, .int .u32 X.med, .int .u32 X.pref, .int .u32 X.aas, .int .u32 X.aid, .slice B m d] := hp.d 0; obtain ⟨ρ, hρ, hc, hf, hgl⟩ := evalX Ac; rw [hρ] at a4; refine relCall hρ 248 #[.agg #[.int .i64 X.has, .int .i64 X.org, .slice A n c, .int .u32 X.hop, .int .u32 X.med, .int .u32 X.pref, .int .u32 X.aas, .int .u32 X.aid, .slice B m d]] (by simp [go_sem, ↓IntWalk.iteOmega, *]) ?_; refine (attrNorm_any X.has X.org A n c X.hop X.med X.pref X.aas X.aid B m d X.path X.comms w5 (HP.out w5 hb) (HC.out w5 hb) HN1.out HN2.out).mono ?_; rintro e w6 ⟨v6, rfl, ⟨A6, n6, c6, xs6, B6, m6, d6, rfl, hl6, hu6⟩, hb6⟩; have hNx : normA ⟨X.has, X.org, X.path, X.hop, X.med, X.pref, X.aas, X.aid, X.comms⟩ = Y := HNx.out; rw [hNx] at hl6 hu6 ⊢; exact ⟨_, rfl, ⟨A6, n6, c6, B6, m6, d6, rfl, (hl6.lst (by decide)).below sgMono (Below.refl _ _), hu6.here⟩, hb6⟩
 ·refine relStep_plain rfl ?_; intro Ac w5 hp; have hb := hp.bel; have hx5 := HK.out.below hb HK.out.lt; have x0 : w5.cell? ⟨w.heap.size, 0, none⟩ = some (.int .i64 X.has) := hx5.cell 0; have x1 : w5.cell? ⟨w.heap.size, 1, none⟩ = some (.int .i64 X.org) := hx5.cell 1; have x2 : w5.cell? ⟨w.heap.size, 2, none⟩ = some (.slice A n c) := hx5.cell 2; have x3 : w5.cell? ⟨w.heap.size, 3, none⟩ = some (.int .u32 X.hop) := hx5.cell 3; have x4 : w5.cell? ⟨w.heap.size, 4, none⟩ = some (.int .u32 X.med) := hx5.cell 4; have x5 : w5.cell? ⟨w.heap.size, 5, none⟩ = some (.int .u32 X.pref) := hx5.cell 5; have x6 : w5.cell? ⟨w.heap.size, 6, none⟩ = some (.int .u32 X.aas) := hx5.cell 6; have x7 : w5.cell? ⟨w.heap.size, 7, none⟩ = some (.int .u32 X.aid) := hx5.cell 7; have x8 : w5.cell? ⟨w.heap.size, 8, none⟩ = some (.slice B m d) := hx5.cell 8; exact pure1 (.agg #[.int .i64 X.has, .int .i64 X.org, .slice A n c, .int .u32 X.hop, .int .u32 X.med, .int .u32 X.pref, .int .u32 X.aas, .int .u32 X.aid, .slice B m d]) 1 (ptv w.heap.size 0) (hp.out 1 (by rfl))
 ·refine relStep_plain rfl ?_; intro Ac w5 hp; have hb := hp.bel; obtain ⟨A5, n5, c5, B5, m5, d5, a5, hl5, hu5⟩ := hp.d 1; change Ac.eval (.tmp 5) = _ at a5; have a6 : Ac.eval (.tmp 6) = .agg #[.int .i64 X.has, .int .i64 X.org, .slice A n c, .int .u32 X.hop, .int .u32 X.med, .int .u32 X.pref, .int .u32 X.aas, .int .u32 X.aid, .slice B m d] := hp.d 2; obtain ⟨ρ, hρ, hc, hf, hgl⟩ := evalX Ac; rw [hρ] at a5 a6; refine relCall hρ 351 #[.agg #[.int .i64 Y.has, .int .i64 Y.org, .slice A5 n5 c5, .int .u32 Y.hop, .int .u32 Y.med, .int .u32 Y.pref, .int .u32 Y.aas, .int .u32 Y.aid, .slice B5 m5 d5], .agg #[.int .i64 X.has, .int .i64 X.org, .slice A n c, .int .u32 X.hop, .int .u32 X.med, .int .u32 X.pref, .int .u32 X.aas, .int .u32 X.aid, .slice B m d]] (by simp [go_sem, ↓IntWalk.iteOmega, *]) ?_; refine (attrsame_any Y X _ _ w5 ⟨A5, n5, c5, B5, m5, d5, rfl, hl5, hu5⟩ ⟨A, n, c, B, m, d, rfl, HP.out w5 hb, HC.out w5 hb⟩ HPy.out HPl.out).mono ?_; rintro e w6 ⟨q, rfl, hq, hb6⟩; have hqq : q = QQ := Bool.eq_iff_iff.2 (hq.trans HQQ.out.symm); rw [hqq]; exact ⟨_, rfl, rfl, hb6⟩
 ·exact relStep_plain rfl fun Ac w5 hp => pure1 (.bool (!QQ)) 7 (.bool QQ) (hp.d 3)
 intro u w2 hb7 hall; have e8 : u 4 = .bool (!QQ) := relAll_at hall (i := 4) (by decide +kernel); clear hall; simp only [List.drop_succ_cons, List.drop_zero, List.take_succ_cons, List.take_zero, putAll, Act.put, List.setIfInBounds_toArray, List.set_cons_zero, List.set_cons_succ, Nat.zero_add, Nat.reduceAdd, e8]; have HB2 := hide (btr HB1.out hb7); have HK2 := hide (HK.out.below hb7 HK.out.lt); have HBw := hide hb7; clear hb7 HK; obtain ⟨x0, x1, x2, x3, x4, x5, x6, x7, x8⟩ := blk9 HK2.out
 cases QQ with
 | false =>
  go_wp2; go_ret; exact ⟨_, rfl, HB2.out⟩
 | true =>
  by_cases h1 : X.org < 0
  ·have d1 : decide (X.org < 0) = true := decide_eq_true h1; go_wp2; go_ret; exact ⟨_, rfl, HB2.out⟩
  ·have d1 : decide (X.org < 0) = false := decide_eq_false h1; by_cases h2 : 2 < X.org
   ·have d2 : decide (2 < X.org) = true := decide_eq_true h2; go_wp2; go_ret; exact ⟨_, rfl, HB2.out⟩
   ·have d2 : decide (2 < X.org) = false := decide_eq_false h2; by_cases h3 : (255 : Int) < (m : Int)
    ·have d3 : decide ((255 : Int) < (m : Int)) = true := decide_eq_true h3; go_wp2; go_ret; exact ⟨_, rfl, HB2.out⟩
    ·have d3 : decide ((255 : Int) < (m : Int)) = false := decide_eq_false h3; clear h1 h2 h3
     go_wp2_with fail
     refine (HHs.out _).mono ?_; rintro e w3 ⟨rfl, hb3⟩; have HB3 := hide (btr HB2.out hb3); have HBw3 := hide (btr HBw.out hb3); have HK3 := hide (HK2.out.below hb3 HK2.out.lt); clear hb3 x0 x1 x2 x3 x4 x5 x6 x7 x8; have y3 : w3.cell? ⟨w.heap.size, 3, none⟩ = some (.int .u32 X.hop) := HK3.out.cell 3; rw [HHo.out] at y3; have y2 : w3.cell? ⟨w.heap.size, 2, none⟩ = some (.slice A n c) := HK3.out.cell 2
     cases HB with
     | false =>
      go_wp2_with fail
      refine (HWy.out _ HBw3.out).mono ?_; rintro e w5 ⟨q, rfl, hb5⟩; have HB5 := hide (btr HB3.out hb5); clear hb5; go_wp2; go_ret; exact ⟨q, rfl, HB5.out⟩
     | true =>
      go_wp2_with fail
      refine (HHp.out _).mono ?_; rintro e w4 ⟨⟨hq, rfl⟩, rfl⟩
      cases hq with
      | false =>
       go_wp2; go_ret; exact ⟨_, rfl, HB3.out⟩
      | true =>
       go_wp2_with fail
       refine (HWy.out _ HBw3.out).mono ?_; rintro e w5 ⟨q, rfl, hb5⟩; have HB5 := hide (btr HB3.out hb5); clear hb5; go_wp2; go_ret; exact ⟨q, rfl, HB5.out⟩
theorem attrGood_some (X : AT) (v : Value) (w : World) (hv : AtR w X v) (hnum : numS X.path ≤ 10000) (hpl : X.path.length ≤ 100000) (hcm : X.comms.length ≤ 10000) (hop : ∃ h : Nat, X.hop = h) :
  Calls Tryz.prog 273 #[v] w (SomeB w) := by
 have H := hide (fun W (hb : Below w.heap.size w W) => attrgood_some X v W (by obtain ⟨A, n, c, B, m, d, e, hP, hC⟩ := hv; exact ⟨A, n, c, B, m, d, e, hP.below sgMono hb, hC.below hb⟩) hnum hpl hcm hop); obtain ⟨A, n, c, B, m, d, rfl, hP, hC⟩ := hv; have HB := hide (blkBelow1 w (.cells (aC X A n c B m d) 28)); clear hP hC hnum hpl hcm hop
 go_enter Tryz.func273, Tryz.ntmps273
 go_wp2_with fail
 refine (H.out _ HB.out).mono ?_; rintro e w1 ⟨q, rfl, hb⟩; have HB1 := hide (btr HB.out hb); clear hb; go_wp2; go_ret; exact ⟨q, rfl, HB1.out⟩
set_option maxRecDepth 100000 in
set_option maxHeartbeats 4000000 in
theorem attrnotice_3 (A : Option Addr) (n c : Nat) (w : World) :
  Calls Tryz.prog 353 #[.int .i64 3, .slice A n c] w fun e w' => e = .returned (.agg #[.int .i64 3, .int .i64 3, .slice A n c]) ∧ Below w.heap.size w w' := by
 obtain ⟨w0, hw0⟩ : ∃ W, w.alloc (.cells #[.int .i64 0, .int .i64 0, .slice none 0 0] 311) = W := ⟨_, rfl⟩
 have hb0 : Below w.heap.size w w0 := hw0 ▸ blkBelow1 w _; have HZ : Hid (Blk w0 w.heap.size 311 #[.int .i64 0, .int .i64 0, .slice none 0 0]) := hide (hw0 ▸ Blk.new w _ _); have HB0 := hide hb0; have HW0 := hide hw0; clear hb0 hw0
 go_enter Tryz.func353, Tryz.ntmps353
 go_upto_region 1 with fail
 rw [HW0.out]; have z0 : w0.cell? ⟨w.heap.size, 0, none⟩ = some (.int .i64 0) := HZ.out.cell 0; have z1 : w0.cell? ⟨w.heap.size, 1, none⟩ = some (.int .i64 0) := HZ.out.cell 1; have z2 : w0.cell? ⟨w.heap.size, 2, none⟩ = some (.slice none 0 0) := HZ.out.cell 2; have zf := fun i => HZ.out.frozen i; go_wp2; change bodyPost _ _ _ _ _ (w0.setCells w.heap.size 0 [.int .i64 3, .int .i64 3, .slice A n c]); obtain ⟨wF, hwF⟩ : ∃ x, w0.setCells w.heap.size 0 [.int .i64 3, .int .i64 3, .slice A n c] = x := ⟨_, rfl⟩
 have HFk := hide (hwF ▸ blk_sets [.int .i64 3, .int .i64 3, .slice A n c] [] [.int .i64 0, .int .i64 0, .slice none 0 0] HZ.out rfl : Blk wF w.heap.size 311 #[.int .i64 3, .int .i64 3, .slice A n c]); have HFb : Hid (Below w.heap.size w wF) := hide (hwF ▸ below_clear (Nat.le_refl _) _ _ HB0.out); rw [hwF]; clear hwF z0 z1 z2 zf; have y0 : wF.cell? ⟨w.heap.size, 0, none⟩ = some (.int .i64 3) := HFk.out.cell 0; have y1 : wF.cell? ⟨w.heap.size, 1, none⟩ = some (.int .i64 3) := HFk.out.cell 1; have y2 : wF.cell? ⟨w.heap.size, 2, none⟩ = some (.slice A n c) := HFk.out.cell 2; refine bodyPost_ret (v := .agg #[.int .i64 3, .int .i64 3, .slice A n c]) (by simp [results, Tryz.results353, go_sem, y0, y1, y2]) rfl ⟨rfl, HFb.out⟩
set_option maxRecDepth 100000 in
set_option maxHeartbeats 8000000 in
theorem attrwell_some (X : AT) (v : Value) (w : World) (hv : AtR w X v) :
  Calls Tryz.prog 274 #[v] w fun e w' => (∃ (q1 q2 : Int) (A : Option Addr) (n c : Nat), e = .returned (.agg #[.int .i64 q1, .int .i64 q2, .slice A n c])) ∧ Below w.heap.size w w' := by
 obtain ⟨A, n, c, B, m, d, rfl, hP, hC⟩ := hv; obtain ⟨w1, hw1⟩ : ∃ w1, (w.alloc (.cells (aC X A n c B m d) 28)).alloc (.cells #[.int .i64 0, .int .i64 0, .slice none 0 0] 311) = w1 := ⟨_, rfl⟩
 have hb1 : Below w.heap.size w w1 := hw1 ▸ blkBelow2 w _ _; have HK : Hid (Blk w1 w.heap.size 28 (aC X A n c B m d)) := hide (hw1 ▸ (Blk.new w _ _).alloc _); have HZ : Hid (Blk w1 (w.heap.size + 1) 311 #[.int .i64 0, .int .i64 0, .slice none 0 0]) := hide (hw1 ▸ blk_new' _ _ (by simp)); have HHs := hide (fun (k : Nat) (hk : K8 k) W => attrHas_any k hk X.has X.org A n c X.hop X.med X.pref X.aas X.aid B m d W); have HNt := hide (fun A n c W => attrnotice_3 A n c W); have HB1 := hide hb1; have HW1 := hide hw1; clear hw1 hb1 hP hC
 go_enter Tryz.func274, Tryz.ntmps274
 go_wp2; rw [HW1.out]
 go_loopw [3] (fun iv wr => ∃ k : Nat, 1 ≤ k ∧ k ≤ 4 ∧ iv = .int .i64 (k : Nat) ∧ Below w1.heap.size w1 wr) (fun iv _ => 4 - (intOf iv).toNat)
 case atStart => exact ⟨1, Nat.le_refl _, by omega, rfl, Below.refl _ _⟩
 case round =>
  obtain ⟨k, hk1, hk4, rfl, hbel⟩ := hrel; have HBe := hide hbel; have hs1 := hbel.size; by_cases hlt : k ≤ 3
  ·have HKr := hide (HK.out.below hbel HK.out.lt); obtain ⟨x0, x1, x2, x3, x4, x5, x6, x7, x8⟩ := blk9 HKr.out; have HHk := hide (fun W => HHs.out k (by unfold K8; omega) W); obtain ⟨q, hq⟩ : ∃ q, attB X.has k = q := ⟨_, rfl⟩
   rw [hq] at HHk; have e1 : decide ((k : Int) ≤ 3) = true := decide_eq_true (by omega); have hwq : IntKind.i64.wrap ((k : Int) + 1) = (k : Int) + 1 := (by rw [IntKind.wrap_i64]; omega)
   have hw8 : IntKind.u8.wrap (k : Int) = (k : Int) := (by rw [IntKind.wrap_u8]; omega)
   clear hbel hq
   go_wp2_with fail
   refine (HHk.out _).mono ?_; rintro e w3 ⟨rfl, hb3⟩; have HB3 := hide (HBe.out.trans (hb3.mono hs1)); have hs3 := HB3.out.size; clear hb3 x0 x1 x2 x3 x4 x5 x6 x7 x8
   cases q with
   | true =>
    go_wp2
    go_roundw
    case rel => exact ⟨k + 1, by omega, by omega, by go_num, HB3.out⟩
    case measure => simp [intOf]; omega
   | false =>
    go_wp2_with fail
    refine (HNt.out _ _ _ _).mono ?_; rintro e w4 ⟨rfl, hb4⟩; have HB4 : Hid (Below w1.heap.size w1 w4) := hide ((HB3.out.alloc hs3 _).trans (hb4.mono (by simp; omega))); have HZr := hide (HZ.out.below HB4.out HZ.out.lt); clear hb4; have z0 : w4.cell? ⟨w.heap.size + 1, 0, none⟩ = some (.int .i64 0) := HZr.out.cell 0; have z1 : w4.cell? ⟨w.heap.size + 1, 1, none⟩ = some (.int .i64 0) := HZr.out.cell 1; have z2 : w4.cell? ⟨w.heap.size + 1, 2, none⟩ = some (.slice none 0 0) := HZr.out.cell 2; have zf := fun i => HZr.out.frozen i; go_wp2; change bodyPost _ _ _ _ _ (w4.setCells (w.heap.size + 1) 0 [.int .i64 3, .int .i64 3, .slice (some ⟨w3.heap.size, 0, none⟩) 1 1]); obtain ⟨wF, hwF⟩ : ∃ x, w4.setCells (w.heap.size + 1) 0 [.int .i64 3, .int .i64 3, .slice (some ⟨w3.heap.size, 0, none⟩) 1 1] = x := ⟨_, rfl⟩
    have HFk := hide (hwF ▸ blk_sets [.int .i64 3, .int .i64 3, .slice (some ⟨w3.heap.size, 0, none⟩) 1 1] [] [.int .i64 0, .int .i64 0, .slice none 0 0] HZr.out rfl : Blk wF (w.heap.size + 1) 311 #[.int .i64 3, .int .i64 3, .slice (some ⟨w3.heap.size, 0, none⟩) 1 1]); have HFb : Hid (Below w.heap.size w wF) := hide (hwF ▸ below_clear (Nat.le_succ _) _ _ (btr HB1.out HB4.out)); rw [hwF]; clear hwF z0 z1 z2 zf; have y0 : wF.cell? ⟨w.heap.size + 1, 0, none⟩ = some (.int .i64 3) := HFk.out.cell 0; have y1 : wF.cell? ⟨w.heap.size + 1, 1, none⟩ = some (.int .i64 3) := HFk.out.cell 1; have y2 : wF.cell? ⟨w.heap.size + 1, 2, none⟩ = some (.slice (some ⟨w3.heap.size, 0, none⟩) 1 1) := HFk.out.cell 2; refine bodyPost_ret (v := .agg #[.int .i64 3, .int .i64 3, .slice (some ⟨w3.heap.size, 0, none⟩) 1 1]) (by simp [results, Tryz.results274, go_sem, y0, y1, y2]) rfl ⟨⟨_, _, _, _, _, rfl⟩, HFb.out⟩
  ·have HZr := hide (HZ.out.below hbel HZ.out.lt); have z0 : wr.cell? ⟨w.heap.size + 1, 0, none⟩ = some (.int .i64 0) := HZr.out.cell 0; have z1 : wr.cell? ⟨w.heap.size + 1, 1, none⟩ = some (.int .i64 0) := HZr.out.cell 1; have z2 : wr.cell? ⟨w.heap.size + 1, 2, none⟩ = some (.slice none 0 0) := HZr.out.cell 2; have zf := fun i => HZr.out.frozen i; have e1 : decide ((k : Int) ≤ 3) = false := decide_eq_false (by omega); clear hbel; go_wp2; change bodyPost _ _ _ _ _ (wr.setCells (w.heap.size + 1) 0 [.int .i64 0, .int .i64 0, .slice none 0 0]); obtain ⟨wF, hwF⟩ : ∃ x, wr.setCells (w.heap.size + 1) 0 [.int .i64 0, .int .i64 0, .slice none 0 0] = x := ⟨_, rfl⟩
   have HFk := hide (hwF ▸ blk_sets [.int .i64 0, .int .i64 0, .slice none 0 0] [] [.int .i64 0, .int .i64 0, .slice none 0 0] HZr.out rfl : Blk wF (w.heap.size + 1) 311 #[.int .i64 0, .int .i64 0, .slice none 0 0]); have HFb : Hid (Below w.heap.size w wF) := hide (hwF ▸ below_clear (Nat.le_succ _) _ _ (btr HB1.out HBe.out)); rw [hwF]; clear hwF z0 z1 z2 zf; have y0 : wF.cell? ⟨w.heap.size + 1, 0, none⟩ = some (.int .i64 0) := HFk.out.cell 0; have y1 : wF.cell? ⟨w.heap.size + 1, 1, none⟩ = some (.int .i64 0) := HFk.out.cell 1; have y2 : wF.cell? ⟨w.heap.size + 1, 2, none⟩ = some (.slice none 0 0) := HFk.out.cell 2; refine bodyPost_ret (v := .agg #[.int .i64 0, .int .i64 0, .slice none 0 0]) (by simp [results, Tryz.results274, go_sem, y0, y1, y2]) rfl ⟨⟨_, _, _, _, _, rfl⟩, HFb.out⟩
theorem fldCode (W : World) : (Instr.field 311 (.agg #[.int .i64 0, .int .i64 0, .slice none 0 0]) 0).run Tryz.prog W = .ok (.int .i64 0) W := by kernel_rfl
theorem uodd_any (a : Nat) (m : Int) (h : PZ a m) (w : World) : Calls Tryz.prog 271 #[.agg #[.int .u32 (a : Int), .int .i64 m]] w (GoodP (!goodB a m) w) := by
 have H := hide (fun W => Good_any a m h.1 h.2.1 h.2.2 W); unfold pfx at H; obtain ⟨q, hq⟩ : ∃ q, goodB a m = q := ⟨_, rfl⟩
 rw [hq] at H ⊢; clear hq h
 go_enter Tryz.func271, Tryz.ntmps271
 go_wp2_with fail
 refine (H.out _).mono ?_; rintro e w1 ⟨rfl, hb⟩; rw [World.size_alloc] at hb; have HB := hide (((Below.refl _ w).alloc (Nat.le_refl _) _).trans (hb.mono (Nat.le_succ _))); clear hb
 cases q
 ·go_wp2; go_ret; exact ⟨rfl, HB.out⟩
 ·go_wp2; go_ret; exact ⟨rfl, HB.out⟩
theorem uoddAny_good (A : Option Addr) (n c : Nat) (l : List (Nat × Int)) (w : World) (h : LstAt 2 pzR w A n c l) (hg : ∀ x ∈ l, goodB x.1 x.2 = true) :
  Calls Tryz.prog 270 #[.slice A n c, .func (.func 271) #[] #[]] w (GoodP false w) := by
 have H := pzContains0_any 271 (fun x => !goodB x.1 x.2) A n c l w h (fun args W => by simp [callFunc, go_sem, Tryz.func271]; rfl) (fun a m W _ hz => uodd_any a m hz W)
 have e : (l.any fun x => !goodB x.1 x.2) = false := by
  rw [List.any_eq_false]; intro x hx; simp [hg x hx]
 rwa [e] at H
set_option maxRecDepth 100000 in
set_option maxHeartbeats 8000000 in
theorem updgood_own (A1 A2 : Option Addr) (n1 c1 n2 c2 : Nat) (l1 l2 : List (Nat × Int)) (X : AT) (A : Option Addr) (n c : Nat) (B : Option Addr) (m d : Nat) (w : World) (h1 : LstAt 2 pzR w A1 n1 c1 l1) (h2 : LstAt 2 pzR w A2 n2 c2 l2) (hg1 : ∀ x ∈ l1, goodB x.1 x.2 = true) (hg2 : ∀ x ∈ l2, goodB x.1 x.2 = true) (hn2 : 0 < n2)
  (hP : LstAt 2 sgR w A n c X.path) (hC : U32s w B m d X.comms) (hN : normA X = X) (hb1 : attB X.has 1 = true) (hb2 : attB X.has 2 = true) (h0 : 0 ≤ X.org) (h02 : X.org ≤ 2) (hcm : X.comms.length ≤ 255) (hh : attB X.has 3 = true ∧ X.hop = 5) (hpo : normS X.path = X.path) (hpl : ∀ x ∈ X.path, 1 ≤ x.r.length ∧ x.r.length ≤ 255) (hpn : X.path.length ≤ 100) (hnum : numS X.path ≤ 2000) :
  Calls Tryz.prog 166 #[.agg #[.slice A1 n1 c1, .int .i64 X.has, .int .i64 X.org, .slice A n c, .int .u32 X.hop, .int .u32 X.med, .int .u32 X.pref, .int .u32 X.aas, .int .u32 X.aid, .slice B m d, .slice A2 n2 c2]] w (GoodP true w) := by
 obtain ⟨w1, hw1⟩ : ∃ w1, w.alloc (.cells #[.slice A1 n1 c1, .int .i64 X.has, .int .i64 X.org, .slice A n c, .int .u32 X.hop, .int .u32 X.med, .int .u32 X.pref, .int .u32 X.aas, .int .u32 X.aid, .slice B m d, .slice A2 n2 c2] 60) = w1 := ⟨_, rfl⟩
 have hbb : Below w.heap.size w w1 := hw1 ▸ blkBelow1 w _; have HK : Hid (Blk w1 w.heap.size 60 #[.slice A1 n1 c1, .int .i64 X.has, .int .i64 X.org, .slice A n c, .int .u32 X.hop, .int .u32 X.med, .int .u32 X.pref, .int .u32 X.aas, .int .u32 X.aid, .slice B m d, .slice A2 n2 c2]) := hide (hw1 ▸ Blk.new w _ _); have HO1 := hide (fun W (hb : Below w.heap.size w W) => uoddAny_good A1 n1 c1 l1 W (h1.below pzMono hb) hg1); have HO2 := hide (fun W (hb : Below w.heap.size w W) => uoddAny_good A2 n2 c2 l2 W (h2.below pzMono hb) hg2); have HAr : Hid (∀ W, Below w.heap.size w W → AtR W X (.agg #[.int .i64 X.has, .int .i64 X.org, .slice A n c, .int .u32 X.hop, .int .u32 X.med, .int .u32 X.pref, .int .u32 X.aas, .int .u32 X.aid, .slice B m d])) := hide (fun W hb => ⟨A, n, c, B, m, d, rfl, hP.below sgMono hb, hC.below hb⟩); have HGd := hide (fun W (hb : Below w.heap.size w W) => attrGood_own X _ W (HAr.out W hb) hN h0 h02 hcm hh hpo hpl hpn hnum); have HWl := hide (fun W (hb : Below w.heap.size w W) => attrwell_own X _ W (HAr.out W hb) hb1 hb2 hh.1); have HB1 := hide hbb; have HW1 := hide hw1; have en : ((n2 : Int) == 0) = false := (by simp; omega)
 clear hw1 hbb h1 h2 hg1 hg2 hP hC hN hb1 hb2 h0 h02 hcm hh hpo hpl hpn hnum hn2; have x0 : w1.cell? ⟨w.heap.size, 0, none⟩ = some (.slice A1 n1 c1) := HK.out.cell 0
 go_enter Tryz.func166, Tryz.ntmps166
 go_wp2_with fail
 rw [HW1.out]; refine (HO1.out _ HB1.out).mono ?_; rintro e w2 ⟨rfl, hb2⟩; have HB2 := hide (btr HB1.out hb2); have HK2 := hide (HK.out.below hb2 HK.out.lt); have y10 : w2.cell? ⟨w.heap.size, 10, none⟩ = some (.slice A2 n2 c2) := HK2.out.cell 10; clear hb2 x0
 go_wp2_with fail
 refine (HO2.out _ HB2.out).mono ?_; rintro e w3 ⟨rfl, hb3⟩; have HB3 := hide (btr HB2.out hb3); have HK3 := hide (HK2.out.below hb3 HK2.out.lt); clear hb3 y10; obtain ⟨z0, z1, z2, z3, z4, z5, z6, z7, z8, z9, z10⟩ := blk11 HK3.out
 go_wp2_with fail
 refine (HGd.out _ HB3.out).mono ?_; rintro e w4 ⟨rfl, hb4⟩; have HB4 := hide (btr HB3.out hb4); have HK4 := hide (HK3.out.below hb4 HK3.out.lt); clear hb4 z0 z1 z2 z3 z4 z5 z6 z7 z8 z9 z10; obtain ⟨y0, y1, y2, y3, y4, y5, y6, y7, y8, y9, y10⟩ := blk11 HK4.out
 go_wp2_with fail
 refine (HWl.out _ HB4.out).mono ?_; rintro e w5 ⟨rfl, hb5⟩; have HB5 := hide (btr HB4.out hb5); clear hb5 y0 y1 y2 y3 y4 y5 y6 y7 y8 y9 y10; have hfld := fldCode; go_wp2; go_ret; exact ⟨rfl, HB5.out⟩
theorem updGood_own (A1 A2 : Option Addr) (n1 c1 n2 c2 : Nat) (l1 l2 : List (Nat × Int)) (X : AT) (A : Option Addr) (n c : Nat) (B : Option Addr) (m d : Nat) (w : World) (h1 : LstAt 2 pzR w A1 n1 c1 l1) (h2 : LstAt 2 pzR w A2 n2 c2 l2) (hg1 : ∀ x ∈ l1, goodB x.1 x.2 = true) (hg2 : ∀ x ∈ l2, goodB x.1 x.2 = true) (hn2 : 0 < n2)
  (hP : LstAt 2 sgR w A n c X.path) (hC : U32s w B m d X.comms) (hN : normA X = X) (hb1 : attB X.has 1 = true) (hb2 : attB X.has 2 = true) (h0 : 0 ≤ X.org) (h02 : X.org ≤ 2) (hcm : X.comms.length ≤ 255) (hh : attB X.has 3 = true ∧ X.hop = 5) (hpo : normS X.path = X.path) (hpl : ∀ x ∈ X.path, 1 ≤ x.r.length ∧ x.r.length ≤ 255) (hpn : X.path.length ≤ 100) (hnum : numS X.path ≤ 2000) :
  Calls Tryz.prog 71 #[.agg #[.slice A1 n1 c1, .int .i64 X.has, .int .i64 X.org, .slice A n c, .int .u32 X.hop, .int .u32 X.med, .int .u32 X.pref, .int .u32 X.aas, .int .u32 X.aid, .slice B m d, .slice A2 n2 c2]] w (GoodP true w) := by
 have H := hide (fun W (hb : Below w.heap.size w W) => updgood_own A1 A2 n1 c1 n2 c2 l1 l2 X A n c B m d W (h1.below pzMono hb) (h2.below pzMono hb) hg1 hg2 hn2 (hP.below sgMono hb) (hC.below hb) hN hb1 hb2 h0 h02 hcm hh hpo hpl hpn hnum); have HB := hide (blkBelow1 w (.cells #[.slice A1 n1 c1, .int .i64 X.has, .int .i64 X.org, .slice A n c, .int .u32 X.hop, .int .u32 X.med, .int .u32 X.pref, .int .u32 X.aas, .int .u32 X.aid, .slice B m d, .slice A2 n2 c2] 60)); clear h1 h2 hg1 hg2 hP hC hN hb1 hb2 h0 h02 hcm hh hpo hpl hpn hnum hn2
 go_enter Tryz.func71, Tryz.ntmps71
 go_wp2_with fail
 refine (H.out _ HB.out).mono ?_; rintro e w1 ⟨rfl, hb⟩; have HB1 := hide (btr HB.out hb); clear hb; go_wp2; go_ret; exact ⟨rfl, HB1.out⟩
theorem uoddAny_any (A : Option Addr) (n c : Nat) (l : List (Nat × Int)) (w : World) (h : LstAt 2 pzR w A n c l) :
  Calls Tryz.prog 270 #[.slice A n c, .func (.func 271) #[] #[]] w (GoodP (l.any fun x => !goodB x.1 x.2) w) :=
 pzContains0_any 271 (fun x => !goodB x.1 x.2) A n c l w h (fun args W => by simp [callFunc, go_sem, Tryz.func271]; rfl) (fun a m W _ hz => uodd_any a m hz W)
theorem any_good {l : List (Nat × Int)} (h : (l.any fun x => !goodB x.1 x.2) = false) : ∀ x ∈ l, goodB x.1 x.2 = true := fun x hx => by
 have := (List.any_eq_false.1 h) x hx; simpa using this
theorem atr_zero (w : World) : AtR w X0 (.agg #[.int .i64 0, .int .i64 0, .slice none 0 0, .int .u32 0, .int .u32 0, .int .u32 0, .int .u32 0, .int .u32 0, .slice none 0 0]) := ⟨none, 0, 0, none, 0, 0, rfl, LstAt.none_, ⟨rfl, Nat.le_refl _, Nat.zero_le _, by simp [X0], fun h => absurd h (by omega)⟩⟩
set_option maxRecDepth 100000 in
theorem fldAny (q1 q2 : Int) (A : Option Addr) (n c : Nat) (W : World) : (Instr.field 311 (.agg #[.int .i64 q1, .int .i64 q2, .slice A n c]) 0).run Tryz.prog W = .ok (.int .i64 q1) W := by kernel_rfl
set_option maxRecDepth 100000 in
set_option maxHeartbeats 8000000 in
theorem updgood_some (A1 A2 : Option Addr) (n1 c1 n2 c2 : Nat) (l1 l2 : List (Nat × Int)) (X : AT) (A : Option Addr) (n c : Nat) (B : Option Addr) (m d : Nat) (w : World) (h1 : LstAt 2 pzR w A1 n1 c1 l1) (h2 : LstAt 2 pzR w A2 n2 c2 l2) (hP : LstAt 2 sgR w A n c X.path) (hC : U32s w B m d X.comms) (hnum : numS X.path ≤ 10000) (hpl : X.path.length ≤ 100000) (hcm : X.comms.length ≤ 10000) (hop : ∃ h : Nat, X.hop = h) :
  Calls Tryz.prog 166 #[.agg #[.slice A1 n1 c1, .int .i64 X.has, .int .i64 X.org, .slice A n c, .int .u32 X.hop, .int .u32 X.med, .int .u32 X.pref, .int .u32 X.aas, .int .u32 X.aid, .slice B m d, .slice A2 n2 c2]] w fun e w' => ∃ q : Bool, e = .returned (.bool q) ∧ (q = true → (∀ x ∈ l1, goodB x.1 x.2 = true) ∧ (∀ x ∈ l2, goodB x.1 x.2 = true)) ∧ Below w.heap.size w w' := by
 obtain ⟨w1, hw1⟩ : ∃ w1, w.alloc (.cells #[.slice A1 n1 c1, .int .i64 X.has, .int .i64 X.org, .slice A n c, .int .u32 X.hop, .int .u32 X.med, .int .u32 X.pref, .int .u32 X.aas, .int .u32 X.aid, .slice B m d, .slice A2 n2 c2] 60) = w1 := ⟨_, rfl⟩
 have hbb : Below w.heap.size w w1 := hw1 ▸ blkBelow1 w _; have HK : Hid (Blk w1 w.heap.size 60 #[.slice A1 n1 c1, .int .i64 X.has, .int .i64 X.org, .slice A n c, .int .u32 X.hop, .int .u32 X.med, .int .u32 X.pref, .int .u32 X.aas, .int .u32 X.aid, .slice B m d, .slice A2 n2 c2]) := hide (hw1 ▸ Blk.new w _ _); have HO1 := hide (fun W (hb : Below w.heap.size w W) => uoddAny_any A1 n1 c1 l1 W (h1.below pzMono hb)); have HO2 := hide (fun W (hb : Below w.heap.size w W) => uoddAny_any A2 n2 c2 l2 W (h2.below pzMono hb)); obtain ⟨QA, hQA⟩ : ∃ q, (l1.any fun x => !goodB x.1 x.2) = q := ⟨_, rfl⟩
 obtain ⟨QB, hQB⟩ : ∃ q, (l2.any fun x => !goodB x.1 x.2) = q := ⟨_, rfl⟩
 rw [hQA] at HO1; rw [hQB] at HO2; have HG1 := hide (fun e : QA = false => any_good (hQA.trans e)); have HG2 := hide (fun e : QB = false => any_good (hQB.trans e)); have HAr : Hid (∀ W, Below w.heap.size w W → AtR W X (.agg #[.int .i64 X.has, .int .i64 X.org, .slice A n c, .int .u32 X.hop, .int .u32 X.med, .int .u32 X.pref, .int .u32 X.aas, .int .u32 X.aid, .slice B m d])) := hide (fun W hb => ⟨A, n, c, B, m, d, rfl, hP.below sgMono hb, hC.below hb⟩); have HGd := hide (fun W (hb : Below w.heap.size w W) => attrGood_some X _ W (HAr.out W hb) hnum hpl hcm hop); have HWl := hide (fun W (hb : Below w.heap.size w W) => attrwell_some X _ W (HAr.out W hb)); have HSm := hide (fun W (hb : Below w.heap.size w W) => attrSame_any X X0 _ _ W (HAr.out W hb) (atr_zero W) hpl (by simp [X0])); have HB1 := hide hbb; have HW1 := hide hw1; clear hw1 hbb h1 h2 hP hC hnum hpl hcm hop hQA hQB; have x0 : w1.cell? ⟨w.heap.size, 0, none⟩ = some (.slice A1 n1 c1) := HK.out.cell 0
 go_enter Tryz.func166, Tryz.ntmps166
 go_wp2_with fail
 rw [HW1.out]; refine (HO1.out _ HB1.out).mono ?_; rintro e w2 ⟨rfl, hb2⟩; have HB2 := hide (btr HB1.out hb2); have HK2 := hide (HK.out.below hb2 HK.out.lt); have y10 : w2.cell? ⟨w.heap.size, 10, none⟩ = some (.slice A2 n2 c2) := HK2.out.cell 10; clear hb2 x0
 cases QA with
 | true =>
  go_wp2; go_ret; exact ⟨false, rfl, (fun h => nomatch h), HB2.out⟩
 | false =>
  go_wp2_with fail
  refine (HO2.out _ HB2.out).mono ?_; rintro e w3 ⟨rfl, hb3⟩; have HB3 := hide (btr HB2.out hb3); have HK3 := hide (HK2.out.below hb3 HK2.out.lt); clear hb3 y10; obtain ⟨z0, z1, z2, z3, z4, z5, z6, z7, z8, z9, z10⟩ := blk11 HK3.out
  cases QB with
  | true =>
   go_wp2; go_ret; exact ⟨false, rfl, (fun h => nomatch h), HB3.out⟩
  | false =>
   have HGG : Hid ((∀ x ∈ l1, goodB x.1 x.2 = true) ∧ (∀ x ∈ l2, goodB x.1 x.2 = true)) := hide ⟨HG1.out (by first | exact rfl | exact trivial), HG2.out (by first | exact rfl | exact trivial)⟩; by_cases hn : n2 = 0
   ·subst hn
    go_wp2_with fail
    refine (HSm.out _ HB3.out).mono ?_; rintro e w4 ⟨q, rfl, _, hb4⟩; have HB4 := hide (btr HB3.out hb4); clear hb4; go_wp2; go_ret; exact ⟨q, rfl, fun _ => HGG.out, HB4.out⟩
   ·have en : ((n2 : Int) == 0) = false := (by simp; omega)
    clear hn
    go_wp2_with fail
    refine (HGd.out _ HB3.out).mono ?_; rintro e w4 ⟨q, rfl, hb4⟩; have HB4 := hide (btr HB3.out hb4); have HK4 := hide (HK3.out.below hb4 HK3.out.lt); clear hb4 z0 z1 z2 z3 z4 z5 z6 z7 z8 z9 z10
    cases q with
    | false =>
     go_wp2; go_ret; exact ⟨false, rfl, (fun h => nomatch h), HB4.out⟩
    | true =>
     obtain ⟨y0, y1, y2, y3, y4, y5, y6, y7, y8, y9, y10⟩ := blk11 HK4.out
     go_wp2_with fail
     refine (HWl.out _ HB4.out).mono ?_; rintro e w5 ⟨⟨q1, q2, A7, n7, c7, rfl⟩, hb5⟩; have HB5 := hide (btr HB4.out hb5); clear hb5 y0 y1 y2 y3 y4 y5 y6 y7 y8 y9 y10; have hfld := fldAny q1 q2 A7 n7 c7; by_cases hq1 : q1 = 0
     ·subst hq1; go_wp2; go_ret; exact ⟨true, rfl, fun _ => HGG.out, HB5.out⟩
     ·have e5 : (q1 == 0) = false := (by simpa using hq1)
      have e5' : decide (q1 = 0) = false := decide_eq_false hq1; clear hq1; go_wp2; go_ret; exact ⟨false, rfl, (fun h => nomatch h), HB5.out⟩
theorem updGood_some (A1 A2 : Option Addr) (n1 c1 n2 c2 : Nat) (l1 l2 : List (Nat × Int)) (X : AT) (A : Option Addr) (n c : Nat) (B : Option Addr) (m d : Nat) (w : World) (h1 : LstAt 2 pzR w A1 n1 c1 l1) (h2 : LstAt 2 pzR w A2 n2 c2 l2) (hP : LstAt 2 sgR w A n c X.path) (hC : U32s w B m d X.comms) (hnum : numS X.path ≤ 10000) (hpl : X.path.length ≤ 100000) (hcm : X.comms.length ≤ 10000) (hop : ∃ h : Nat, X.hop = h) :
  Calls Tryz.prog 71 #[.agg #[.slice A1 n1 c1, .int .i64 X.has, .int .i64 X.org, .slice A n c, .int .u32 X.hop, .int .u32 X.med, .int .u32 X.pref, .int .u32 X.aas, .int .u32 X.aid, .slice B m d, .slice A2 n2 c2]] w fun e w' => ∃ q : Bool, e = .returned (.bool q) ∧ (q = true → (∀ x ∈ l1, goodB x.1 x.2 = true) ∧ (∀ x ∈ l2, goodB x.1 x.2 = true)) ∧ Below w.heap.size w w' := by
 have H := hide (fun W (hb : Below w.heap.size w W) => updgood_some A1 A2 n1 c1 n2 c2 l1 l2 X A n c B m d W (h1.below pzMono hb) (h2.below pzMono hb) (hP.below sgMono hb) (hC.below hb) hnum hpl hcm hop); have HB := hide (blkBelow1 w (.cells #[.slice A1 n1 c1, .int .i64 X.has, .int .i64 X.org, .slice A n c, .int .u32 X.hop, .int .u32 X.med, .int .u32 X.pref, .int .u32 X.aas, .int .u32 X.aid, .slice B m d, .slice A2 n2 c2] 60)); clear h1 h2 hP hC hnum hpl hcm hop
 go_enter Tryz.func71, Tryz.ntmps71
 go_wp2_with fail
 refine (H.out _ HB.out).mono ?_; rintro e w1 ⟨q, rfl, hq, hb⟩; have HB1 := hide (btr HB.out hb); have HQ := hide hq; clear hb hq; go_wp2; go_ret; exact ⟨q, rfl, HQ.out, HB1.out⟩
end Go.Proofs.YtmffmkjgdjgmeaaGreat
namespace Go.Proofs.YtmffmkjgdjgmeaaGreat
open Go.RowKit Go.WideShapes Go.ChangeShapes
theorem nd_lean {α : Type} {sz : Nat} {T : TypeId} {F : Nat → Prop} {R : World → List Value → α → Prop} {w : World} {b p m : Nat} {v : Option α} {l r : Tr α} (hl : TrA sz T F R w l) (hr : TrA sz T F R w r)
    (hs : trLean (.nd b p m v l r) = .nd b p m v l r → TrA sz T F R w (.nd b p m v l r)) : TrA sz T F R w (trLean (.nd b p m v l r)) ∧ ∀ k ∈ trB (trLean (.nd b p m v l r)), k ∈ trB (.nd b p m v l r) := by
  cases v with
  | some x => exact ⟨hs rfl, fun k hk => hk⟩
  | none =>
    cases l with
    | nil => exact ⟨hr, fun k hk => by
        have h : k ∈ trB r := hk; simp [trB, h]⟩
    | nd b1 p1 m1 z1 l1 r1 =>
      cases r with
      | nil => exact ⟨hl, fun k hk => by
          have h : k ∈ trB (.nd b1 p1 m1 z1 l1 r1) := hk; simp only [trB, List.mem_cons, List.mem_append] at h ⊢; exact .inr (.inl h)⟩
      | nd b2 p2 m2 z2 l2 r2 => exact ⟨hs rfl, fun k hk => hk⟩
end Go.Proofs.YtmffmkjgdjgmeaaGreat
namespace Go.Proofs.YtmffmkjgdjgmeaaGreat
open Go.RowKit Go.WideShapes Go.ChangeShapes
attribute [local go_sem] Oper.semAt_some
set_option maxRecDepth 100000 in
set_option maxHeartbeats 4000000 in
theorem leanA_any {α : Type} {F : Nat → Prop} {R : World → List Value → α → Prop} (b a n : Nat) (vs : List Value) (hvs : VOk 9 vs) (v : Option α) (c0 : Nat) (l r : Tr α) (w : World) (hbl : ∀ t : Tr α, t = l ∨ t = r → b ∉ trB t) (hk : Blk w b 319 (ndC a n vs v.isSome c0 (trPtr l) (trPtr r)))
  (hl : TrW 9 319 F R w l) (hr : TrW 9 319 F R w r) (hc : trCnt l + trCnt r < 1000000000) :
  Calls Tryz.prog 405 #[.pointer (some ⟨b, 0, none⟩)] w fun e w' => e = .returned (trPtr (trLean (.nd b a n v l r))) ∧ ChgS (fun k => k = b) w w' ∧ (trLean (.nd b a n v l r) = .nd b a n v l r → Blk w' b 319 (ndC a n vs v.isSome (trCnt l + trCnt r + (if v.isSome then 1 else 0)) (trPtr l) (trPtr r))) := by
 obtain ⟨v0, v1, v2, v3, v4, v5, v6, v7, v8, rfl⟩ := lenA hvs
 cases v with
 | some x =>
  clear hbl; have yp : w.cell? ⟨b, 11, none⟩ = some (.bool true) := hk.cell 11; have yl : w.cell? ⟨b, 13, none⟩ = some (trPtr l) := hk.cell 13; have yr : w.cell? ⟨b, 14, none⟩ = some (trPtr r) := hk.cell 14; have HNt := hide (noteA_any (F := F) (R := R) b a n [v0, v1, v2, v3, v4, v5, v6, v7, v8] hvs true c0 l r w hk hl hr hc); clear hk hl hr hc hvs
  go_enter Tryz.func405, Tryz.ntmps405
  go_wp2_with fail
  refine HNt.out.mono ?_; rintro e w2 ⟨rfl, hk2, hc2⟩; have HK2 := hide hk2; have HC2 := hide hc2; clear hk2 hc2 yp yl yr; go_wp2; go_ret; exact ⟨rfl, HC2.out, fun _ => HK2.out⟩
 | none =>
  cases l with
  | nil =>
   have yp : w.cell? ⟨b, 11, none⟩ = some (.bool false) := hk.cell 11; have yl : w.cell? ⟨b, 13, none⟩ = some (.pointer none) := hk.cell 13; have yr : w.cell? ⟨b, 14, none⟩ = some (trPtr r) := hk.cell 14
   have hne : trLean (.nd b a n none .nil r) ≠ .nd b a n none .nil r := by
    intro h; have h1 : r = .nd b a n none .nil r := h; have h2 := hbl r (.inr rfl); rw [h1] at h2; exact h2 (by simp [trB])
   have HNe := hide hne; clear hbl hne hk hl hr hc hvs
   go_enter Tryz.func405, Tryz.ntmps405
   go_wp2; go_ret; exact ⟨rfl, chg_refl _ _, fun h => absurd h HNe.out⟩
  | nd b1 a1 n1 z1 l1 r1 =>
   cases r with
   | nil =>
    have yp : w.cell? ⟨b, 11, none⟩ = some (.bool false) := hk.cell 11; have yl : w.cell? ⟨b, 13, none⟩ = some (.pointer (some ⟨b1, 0, none⟩)) := hk.cell 13; have yr : w.cell? ⟨b, 14, none⟩ = some (.pointer none) := hk.cell 14
    have hne : trLean (.nd b a n none (.nd b1 a1 n1 z1 l1 r1) .nil) ≠ .nd b a n none (.nd b1 a1 n1 z1 l1 r1) .nil := by
     intro h; have h1 : (.nd b1 a1 n1 z1 l1 r1 : Tr α) = .nd b a n none (.nd b1 a1 n1 z1 l1 r1) .nil := h; injection h1 with e1
     exact hbl _ (.inl rfl) (by simp [trB, e1])
    have HNe := hide hne; clear hbl hne hk hl hr hc hvs
    go_enter Tryz.func405, Tryz.ntmps405
    go_wp2; go_ret; exact ⟨rfl, chg_refl _ _, fun h => absurd h HNe.out⟩
   | nd b2 a2 n2 z2 l2 r2 =>
    clear hbl; have yp : w.cell? ⟨b, 11, none⟩ = some (.bool false) := hk.cell 11; have yl : w.cell? ⟨b, 13, none⟩ = some (.pointer (some ⟨b1, 0, none⟩)) := hk.cell 13; have yr : w.cell? ⟨b, 14, none⟩ = some (.pointer (some ⟨b2, 0, none⟩)) := hk.cell 14; have HNt := hide (noteA_any (F := F) (R := R) b a n [v0, v1, v2, v3, v4, v5, v6, v7, v8] hvs false c0 (.nd b1 a1 n1 z1 l1 r1) (.nd b2 a2 n2 z2 l2 r2) w hk hl hr hc); clear hk hl hr hc hvs
    go_enter Tryz.func405, Tryz.ntmps405
    go_wp2_with fail
    refine HNt.out.mono ?_; rintro e w2 ⟨rfl, hk2, hc2⟩; have HK2 := hide hk2; have HC2 := hide hc2; clear hk2 hc2 yp yl yr; go_wp2; go_ret; exact ⟨rfl, HC2.out, fun _ => HK2.out⟩
end Go.Proofs.YtmffmkjgdjgmeaaGreat
