import Derived.Test.YtcinjckajnnhmaaGreatRp4
set_option linter.unusedSimpArgs false
set_option linter.unusedVariables false
namespace Go.Proofs.YtcinjckajnnhmaaGreat
open Go.RowKit Go.WideShapes Go.ChangeShapes
attribute [local go_sem] Oper.semAt_some
set_option maxRecDepth 100000 in
set_option maxHeartbeats 4000000 in
theorem getA_any {α : Type} {F : Nat → Prop} {R : World → List Value → α → Prop} (g c k : Nat) (t : Tr α) (w : World) (hc : PG c k) (hg : Blk w g 201 #[trPtr t]) (h : TrW 9 205 F R w t) (hw : trWf t) (hF : ∀ k, F k → k < w.heap.size) :
  Calls Tryz.prog 82 #[.pointer (some ⟨g, 0, none⟩), .agg #[.int .u32 (c : Int), .int .i64 (k : Int)]] w fun e w' => Below w.heap.size w w' ∧ match trGet c k t with
   | some x => ∃ v0 v1 v2 v3 v4 v5 v6 v7 v8, e = .returned (.tuple #[.agg #[v0, v1, v2, v3, v4, v5, v6, v7, v8], .bool true]) ∧ FrS F none (fun w => R w [v0, v1, v2, v3, v4, v5, v6, v7, v8] x) w'
   | none => e = .returned (.tuple #[.agg #[.int .i64 0, .int .i64 0, .slice none 0 0, .int .u32 0, .int .u32 0, .int .u32 0, .int .u32 0, .int .u32 0, .slice none 0 0], .bool false]) := by
 obtain ⟨w0, hw0⟩ : ∃ w0, (w.alloc (.cells #[.int .u32 (c : Int), .int .i64 (k : Int)] 24)).alloc (.cells #[.int .i64 0, .int .i64 0, .slice none 0 0, .int .u32 0, .int .u32 0, .int .u32 0, .int .u32 0, .int .u32 0, .slice none 0 0] 28) = w0 := ⟨_, rfl⟩
 have hb0 : Below w.heap.size w w0 := hw0 ▸ blkBelow2 w _ _; have HZ0 : Hid (Blk w0 (w.heap.size + 1) 28 #[.int .i64 0, .int .i64 0, .slice none 0 0, .int .u32 0, .int .u32 0, .int .u32 0, .int .u32 0, .int .u32 0, .slice none 0 0]) := hide (hw0 ▸ blk_new' _ _ (by simp)); have HFd := hide (findA_any (R := R) g c k t w0 hc (hg.below hb0 hg.lt) (h.chg (chg_below (S := fun _ => False) hb0) (by simp) (by simp)) hw); have hgf := trGet_find c k t; have hfw := trFind_w c k t h; have HF := hide hF; obtain ⟨s, hs⟩ : ∃ s, trFind c k t = s := ⟨_, rfl⟩
 rw [hs] at hgf hfw HFd; have HW0 := hide hw0; have HB0 := hide hb0; clear hw0 hb0 hs hw hg h hF
 cases s with
 | nil =>
  simp only at hgf; rw [hgf]; have e0 : trPtr (.nil : Tr α) = .pointer none := rfl; rw [e0] at HFd; clear hgf e0 hfw
  go_enter Tryz.func82, Tryz.ntmps82
  go_wp2_with fail
  rw [HW0.out]; refine HFd.out.mono ?_; rintro e w1 ⟨rfl, hb1⟩; have HB1 := hide (HB0.out.trans (hb1.mono HB0.out.size)); have hz := HZ0.out.below hb1 HZ0.out.lt; have z0 : w1.cell? ⟨w.heap.size + 1, 0, none⟩ = some (.int .i64 0) := hz.cell 0; have z1 : w1.cell? ⟨w.heap.size + 1, 1, none⟩ = some (.int .i64 0) := hz.cell 1; have z2 : w1.cell? ⟨w.heap.size + 1, 2, none⟩ = some (.slice none 0 0) := hz.cell 2; have z3 : w1.cell? ⟨w.heap.size + 1, 3, none⟩ = some (.int .u32 0) := hz.cell 3; have z4 : w1.cell? ⟨w.heap.size + 1, 4, none⟩ = some (.int .u32 0) := hz.cell 4; have z5 : w1.cell? ⟨w.heap.size + 1, 5, none⟩ = some (.int .u32 0) := hz.cell 5; have z6 : w1.cell? ⟨w.heap.size + 1, 6, none⟩ = some (.int .u32 0) := hz.cell 6; have z7 : w1.cell? ⟨w.heap.size + 1, 7, none⟩ = some (.int .u32 0) := hz.cell 7; have z8 : w1.cell? ⟨w.heap.size + 1, 8, none⟩ = some (.slice none 0 0) := hz.cell 8; have zf := fun i => hz.frozen i; have HZ1 := hide hz; clear hb1 hz; go_wp2; change bodyPost _ _ _ _ _ (w1.setCells (w.heap.size + 1) 0 [.int .i64 0, .int .i64 0, .slice none 0 0, .int .u32 0, .int .u32 0, .int .u32 0, .int .u32 0, .int .u32 0, .slice none 0 0]); obtain ⟨wF, hwF⟩ : ∃ x, w1.setCells (w.heap.size + 1) 0 [.int .i64 0, .int .i64 0, .slice none 0 0, .int .u32 0, .int .u32 0, .int .u32 0, .int .u32 0, .int .u32 0, .slice none 0 0] = x := ⟨_, rfl⟩
  have HFk := hide (hwF ▸ blk_sets [.int .i64 0, .int .i64 0, .slice none 0 0, .int .u32 0, .int .u32 0, .int .u32 0, .int .u32 0, .int .u32 0, .slice none 0 0] [] [.int .i64 0, .int .i64 0, .slice none 0 0, .int .u32 0, .int .u32 0, .int .u32 0, .int .u32 0, .int .u32 0, .slice none 0 0] HZ1.out rfl : Blk wF (w.heap.size + 1) 28 #[.int .i64 0, .int .i64 0, .slice none 0 0, .int .u32 0, .int .u32 0, .int .u32 0, .int .u32 0, .int .u32 0, .slice none 0 0]); have HFb := hide (hwF ▸ below_sets [.int .i64 0, .int .i64 0, .slice none 0 0, .int .u32 0, .int .u32 0, .int .u32 0, .int .u32 0, .int .u32 0, .slice none 0 0] 0 HB1.out (by omega) : Below w.heap.size w wF); rw [hwF]; clear hwF z0 z1 z2 z3 z4 z5 z6 z7 z8 zf; have z0 : wF.cell? ⟨w.heap.size + 1, 0, none⟩ = some (.int .i64 0) := HFk.out.cell 0; have z1 : wF.cell? ⟨w.heap.size + 1, 1, none⟩ = some (.int .i64 0) := HFk.out.cell 1; have z2 : wF.cell? ⟨w.heap.size + 1, 2, none⟩ = some (.slice none 0 0) := HFk.out.cell 2; have z3 : wF.cell? ⟨w.heap.size + 1, 3, none⟩ = some (.int .u32 0) := HFk.out.cell 3; have z4 : wF.cell? ⟨w.heap.size + 1, 4, none⟩ = some (.int .u32 0) := HFk.out.cell 4; have z5 : wF.cell? ⟨w.heap.size + 1, 5, none⟩ = some (.int .u32 0) := HFk.out.cell 5; have z6 : wF.cell? ⟨w.heap.size + 1, 6, none⟩ = some (.int .u32 0) := HFk.out.cell 6; have z7 : wF.cell? ⟨w.heap.size + 1, 7, none⟩ = some (.int .u32 0) := HFk.out.cell 7; have z8 : wF.cell? ⟨w.heap.size + 1, 8, none⟩ = some (.slice none 0 0) := HFk.out.cell 8; exact bodyPost_ret (v := .tuple #[.agg #[.int .i64 0, .int .i64 0, .slice none 0 0, .int .u32 0, .int .u32 0, .int .u32 0, .int .u32 0, .int .u32 0, .slice none 0 0], .bool false]) (by simp [results, Tryz.results82, go_sem, z0, z1, z2, z3, z4, z5, z6, z7, z8]) rfl ⟨HFb.out, rfl⟩
 | nd b a n v l r =>
  have e0 : trPtr (.nd b a n v l r) = .pointer (some ⟨b, 0, none⟩) := rfl; rw [e0] at HFd; clear e0; simp only at hgf; rw [hgf]; obtain ⟨⟨vs, hv, hk, hval⟩, _, _⟩ := hfw; obtain ⟨v0, v1, v2, v3, v4, v5, v6, v7, v8, rfl⟩ := lenA hv; have HN := hide hk; have HVl := hide hval; have HOne := hide hv.2; clear hgf hv hk hval; obtain ⟨cn, hcn⟩ : ∃ c, trCnt l + trCnt r + (if v.isSome then 1 else 0) = c := ⟨_, rfl⟩
  rw [hcn] at HN; clear hcn
  cases v with
  | none =>
   go_enter Tryz.func82, Tryz.ntmps82
   go_wp2_with fail
   rw [HW0.out]; refine HFd.out.mono ?_; rintro e w1 ⟨rfl, hb1⟩; have HB1 := hide (HB0.out.trans (hb1.mono HB0.out.size)); have HZ1 := hide (HZ0.out.below hb1 HZ0.out.lt); have yp : w1.cell? ⟨b, 11, none⟩ = some (.bool false) := (HN.out.below HB1.out HN.out.lt).cell 11; have z0 : w1.cell? ⟨w.heap.size + 1, 0, none⟩ = some (.int .i64 0) := HZ1.out.cell 0; have z1 : w1.cell? ⟨w.heap.size + 1, 1, none⟩ = some (.int .i64 0) := HZ1.out.cell 1; have z2 : w1.cell? ⟨w.heap.size + 1, 2, none⟩ = some (.slice none 0 0) := HZ1.out.cell 2; have z3 : w1.cell? ⟨w.heap.size + 1, 3, none⟩ = some (.int .u32 0) := HZ1.out.cell 3; have z4 : w1.cell? ⟨w.heap.size + 1, 4, none⟩ = some (.int .u32 0) := HZ1.out.cell 4; have z5 : w1.cell? ⟨w.heap.size + 1, 5, none⟩ = some (.int .u32 0) := HZ1.out.cell 5; have z6 : w1.cell? ⟨w.heap.size + 1, 6, none⟩ = some (.int .u32 0) := HZ1.out.cell 6; have z7 : w1.cell? ⟨w.heap.size + 1, 7, none⟩ = some (.int .u32 0) := HZ1.out.cell 7; have z8 : w1.cell? ⟨w.heap.size + 1, 8, none⟩ = some (.slice none 0 0) := HZ1.out.cell 8; have zf := fun i => HZ1.out.frozen i; clear hb1; go_wp2; change bodyPost _ _ _ _ _ (w1.setCells (w.heap.size + 1) 0 [.int .i64 0, .int .i64 0, .slice none 0 0, .int .u32 0, .int .u32 0, .int .u32 0, .int .u32 0, .int .u32 0, .slice none 0 0]); obtain ⟨wF, hwF⟩ : ∃ x, w1.setCells (w.heap.size + 1) 0 [.int .i64 0, .int .i64 0, .slice none 0 0, .int .u32 0, .int .u32 0, .int .u32 0, .int .u32 0, .int .u32 0, .slice none 0 0] = x := ⟨_, rfl⟩
   have HFk := hide (hwF ▸ blk_sets [.int .i64 0, .int .i64 0, .slice none 0 0, .int .u32 0, .int .u32 0, .int .u32 0, .int .u32 0, .int .u32 0, .slice none 0 0] [] [.int .i64 0, .int .i64 0, .slice none 0 0, .int .u32 0, .int .u32 0, .int .u32 0, .int .u32 0, .int .u32 0, .slice none 0 0] HZ1.out rfl : Blk wF (w.heap.size + 1) 28 #[.int .i64 0, .int .i64 0, .slice none 0 0, .int .u32 0, .int .u32 0, .int .u32 0, .int .u32 0, .int .u32 0, .slice none 0 0]); have HFb := hide (hwF ▸ below_sets [.int .i64 0, .int .i64 0, .slice none 0 0, .int .u32 0, .int .u32 0, .int .u32 0, .int .u32 0, .int .u32 0, .slice none 0 0] 0 HB1.out (by omega) : Below w.heap.size w wF); rw [hwF]; clear hwF z0 z1 z2 z3 z4 z5 z6 z7 z8 zf yp; have z0 : wF.cell? ⟨w.heap.size + 1, 0, none⟩ = some (.int .i64 0) := HFk.out.cell 0; have z1 : wF.cell? ⟨w.heap.size + 1, 1, none⟩ = some (.int .i64 0) := HFk.out.cell 1; have z2 : wF.cell? ⟨w.heap.size + 1, 2, none⟩ = some (.slice none 0 0) := HFk.out.cell 2; have z3 : wF.cell? ⟨w.heap.size + 1, 3, none⟩ = some (.int .u32 0) := HFk.out.cell 3; have z4 : wF.cell? ⟨w.heap.size + 1, 4, none⟩ = some (.int .u32 0) := HFk.out.cell 4; have z5 : wF.cell? ⟨w.heap.size + 1, 5, none⟩ = some (.int .u32 0) := HFk.out.cell 5; have z6 : wF.cell? ⟨w.heap.size + 1, 6, none⟩ = some (.int .u32 0) := HFk.out.cell 6; have z7 : wF.cell? ⟨w.heap.size + 1, 7, none⟩ = some (.int .u32 0) := HFk.out.cell 7; have z8 : wF.cell? ⟨w.heap.size + 1, 8, none⟩ = some (.slice none 0 0) := HFk.out.cell 8; exact bodyPost_ret (v := .tuple #[.agg #[.int .i64 0, .int .i64 0, .slice none 0 0, .int .u32 0, .int .u32 0, .int .u32 0, .int .u32 0, .int .u32 0, .slice none 0 0], .bool false]) (by simp [results, Tryz.results82, go_sem, z0, z1, z2, z3, z4, z5, z6, z7, z8]) rfl ⟨HFb.out, rfl⟩
  | some x =>
   go_enter Tryz.func82, Tryz.ntmps82
   go_wp2_with fail
   rw [HW0.out]; refine HFd.out.mono ?_; rintro e w1 ⟨rfl, hb1⟩; have HB1 := hide (HB0.out.trans (hb1.mono HB0.out.size)); have HZ1 := hide (HZ0.out.below hb1 HZ0.out.lt); have hN1 := HN.out.below HB1.out HN.out.lt; have yp : w1.cell? ⟨b, 11, none⟩ = some (.bool true) := hN1.cell 11; have y0 : w1.cell? ⟨b, 2, none⟩ = some v0 := hN1.cell 2; have y1 : w1.cell? ⟨b, 3, none⟩ = some v1 := hN1.cell 3; have y2 : w1.cell? ⟨b, 4, none⟩ = some v2 := hN1.cell 4; have y3 : w1.cell? ⟨b, 5, none⟩ = some v3 := hN1.cell 5; have y4 : w1.cell? ⟨b, 6, none⟩ = some v4 := hN1.cell 6; have y5 : w1.cell? ⟨b, 7, none⟩ = some v5 := hN1.cell 7; have y6 : w1.cell? ⟨b, 8, none⟩ = some v6 := hN1.cell 8; have y7 : w1.cell? ⟨b, 9, none⟩ = some v7 := hN1.cell 9; have y8 : w1.cell? ⟨b, 10, none⟩ = some v8 := hN1.cell 10; have z0 : w1.cell? ⟨w.heap.size + 1, 0, none⟩ = some (.int .i64 0) := HZ1.out.cell 0; have z1 : w1.cell? ⟨w.heap.size + 1, 1, none⟩ = some (.int .i64 0) := HZ1.out.cell 1; have z2 : w1.cell? ⟨w.heap.size + 1, 2, none⟩ = some (.slice none 0 0) := HZ1.out.cell 2; have z3 : w1.cell? ⟨w.heap.size + 1, 3, none⟩ = some (.int .u32 0) := HZ1.out.cell 3; have z4 : w1.cell? ⟨w.heap.size + 1, 4, none⟩ = some (.int .u32 0) := HZ1.out.cell 4; have z5 : w1.cell? ⟨w.heap.size + 1, 5, none⟩ = some (.int .u32 0) := HZ1.out.cell 5; have z6 : w1.cell? ⟨w.heap.size + 1, 6, none⟩ = some (.int .u32 0) := HZ1.out.cell 6; have z7 : w1.cell? ⟨w.heap.size + 1, 7, none⟩ = some (.int .u32 0) := HZ1.out.cell 7; have z8 : w1.cell? ⟨w.heap.size + 1, 8, none⟩ = some (.slice none 0 0) := HZ1.out.cell 8; have zf := fun i => HZ1.out.frozen i; clear hb1 hN1; have o0 := runS Tryz.prog v0 (HOne.out v0 (by simp)); have o1 := runS Tryz.prog v1 (HOne.out v1 (by simp)); have o2 := runS Tryz.prog v2 (HOne.out v2 (by simp)); have o3 := runS Tryz.prog v3 (HOne.out v3 (by simp)); have o4 := runS Tryz.prog v4 (HOne.out v4 (by simp)); have o5 := runS Tryz.prog v5 (HOne.out v5 (by simp)); have o6 := runS Tryz.prog v6 (HOne.out v6 (by simp)); have o7 := runS Tryz.prog v7 (HOne.out v7 (by simp)); have o8 := runS Tryz.prog v8 (HOne.out v8 (by simp)); go_wp2; change bodyPost _ _ _ _ _ (w1.setCells (w.heap.size + 1) 0 [v0, v1, v2, v3, v4, v5, v6, v7, v8]); obtain ⟨wF, hwF⟩ : ∃ x, w1.setCells (w.heap.size + 1) 0 [v0, v1, v2, v3, v4, v5, v6, v7, v8] = x := ⟨_, rfl⟩
   have HFk := hide (hwF ▸ blk_sets [v0, v1, v2, v3, v4, v5, v6, v7, v8] [] [.int .i64 0, .int .i64 0, .slice none 0 0, .int .u32 0, .int .u32 0, .int .u32 0, .int .u32 0, .int .u32 0, .slice none 0 0] HZ1.out rfl : Blk wF (w.heap.size + 1) 28 #[v0, v1, v2, v3, v4, v5, v6, v7, v8]); have HFb := hide (hwF ▸ below_sets [v0, v1, v2, v3, v4, v5, v6, v7, v8] 0 HB1.out (by omega) : Below w.heap.size w wF); rw [hwF]; clear hwF y0 y1 y2 y3 y4 y5 y6 y7 y8 z0 z1 z2 z3 z4 z5 z6 z7 z8 zf yp o0 o1 o2 o3 o4 o5 o6 o7 o8; have z0 : wF.cell? ⟨w.heap.size + 1, 0, none⟩ = some v0 := HFk.out.cell 0; have z1 : wF.cell? ⟨w.heap.size + 1, 1, none⟩ = some v1 := HFk.out.cell 1; have z2 : wF.cell? ⟨w.heap.size + 1, 2, none⟩ = some v2 := HFk.out.cell 2; have z3 : wF.cell? ⟨w.heap.size + 1, 3, none⟩ = some v3 := HFk.out.cell 3; have z4 : wF.cell? ⟨w.heap.size + 1, 4, none⟩ = some v4 := HFk.out.cell 4; have z5 : wF.cell? ⟨w.heap.size + 1, 5, none⟩ = some v5 := HFk.out.cell 5; have z6 : wF.cell? ⟨w.heap.size + 1, 6, none⟩ = some v6 := HFk.out.cell 6; have z7 : wF.cell? ⟨w.heap.size + 1, 7, none⟩ = some v7 := HFk.out.cell 7; have z8 : wF.cell? ⟨w.heap.size + 1, 8, none⟩ = some v8 := HFk.out.cell 8; exact bodyPost_ret (v := .tuple #[.agg #[v0, v1, v2, v3, v4, v5, v6, v7, v8], .bool true]) (by simp [results, Tryz.results82, go_sem, z0, z1, z2, z3, z4, z5, z6, z7, z8]) rfl ⟨HFb.out, v0, v1, v2, v3, v4, v5, v6, v7, v8, rfl, frs_chg (HVl.out x rfl) (chg_below (S := fun _ => False) HFb.out) (by simp)⟩
structure TD where
  a : Int
  n : Int
  at_ : AT
def tdR (w : World) (vs : List Value) (x : TD) : Prop := ∃ A k c B m d, vs = [.int .u32 x.a, .int .i64 x.n, .int .i64 x.at_.has, .int .i64 x.at_.org, .slice A k c, .int .u32 x.at_.hop, .int .u32 x.at_.med, .int .u32 x.at_.pref, .int .u32 x.at_.aas, .int .u32 x.at_.aid, .slice B m d] ∧ LstAt 2 sgR w A k c x.at_.path ∧ U32s w B m d x.at_.comms
theorem tdMono : SMono tdR := fun _ _ _ _ hb ⟨A, k, c, B, m, d, e, h1, h2⟩ => ⟨A, k, c, B, m, d, e, h1.below sgMono hb, h2.below hb⟩
theorem toldInfo : (Tryz.prog.info? 71).map (fun i => (i.zero, i.size, i.bytes)) = some (some (.agg #[.int .u32 0, .int .i64 0, .int .i64 0, .int .i64 0, .slice none 0 0, .int .u32 0, .int .u32 0, .int .u32 0, .int .u32 0, .int .u32 0, .slice none 0 0]), 11, 104) := by kernel_rfl
theorem frb_ob {B : Nat} {ob : Option Nat} {R : World → Prop} {w : World} (h : FrB B none R w) (hob : ∀ k, ob = some k → k < B) : FrB B ob R w := fun w2 h2 =>
 h w2 ⟨h2.1, fun k o h0 h1 hc _ => h2.2 k o h0 h1 hc (fun e => by have := hob k e.symm; omega)⟩
theorem td_fr {b B : Nat} {w : World} {Y : AT} {a n : Int} {A : Option Addr} {k c : Nat} {Bq : Option Addr} {m d : Nat} {xs : List Value} {ob : Option Nat} (h1 : LOw 2 133 sgR w b b A k c Y.path xs) (h2 : FrB b none (fun w => U32s w Bq m d Y.comms) w) (hB : B ≤ b) (hob : ∀ k, ob = some k → k < b) :
  FrB B ob (fun w => tdR w [.int .u32 a, .int .i64 n, .int .i64 Y.has, .int .i64 Y.org, .slice A k c, .int .u32 Y.hop, .int .u32 Y.med, .int .u32 Y.pref, .int .u32 Y.aas, .int .u32 Y.aid, .slice Bq m d] ⟨a, n, Y⟩) w :=
 (frb_ob (((h1.fr (by decide) (Nat.le_refl _)).and h2).imp fun w h => ⟨A, k, c, Bq, m, d, rfl, h.1, h.2⟩) hob).less hB
theorem TDat {w : World} {A : Option Addr} {n c q : Nat} {l : List TD} (h : LstAt 11 tdR w A n c l) (hq : q < n) : ∃ g o x B1 k1 c1 B2 m2 d2, A = some ⟨g, o, none⟩ ∧ g < w.heap.size ∧ l[q]? = some x ∧ LstAt 2 sgR w B1 k1 c1 x.at_.path ∧ U32s w B2 m2 d2 x.at_.comms ∧ ∀ (j : Nat) (v : Value), [.int .u32 x.a, .int .i64 x.n, .int .i64 x.at_.has, .int .i64 x.at_.org, .slice B1 k1 c1, .int .u32 x.at_.hop, .int .u32 x.at_.med, .int .u32 x.at_.pref, .int .u32 x.at_.aas, .int .u32 x.at_.aid, .slice B2 m2 d2][j]? = some v → w.cell? ⟨g, o + q * 11 + j, none⟩ = some v := by
 obtain ⟨h1, h2, h3, h4⟩ := h; obtain ⟨g, o, rfl, hg, hc⟩ := h4 (by omega); have hx : l[q]? = some l[q] := List.getElem?_eq_getElem (by omega); obtain ⟨vs, hl, ⟨B1, k1, c1, B2, m2, d2, rfl, hr1, hr2⟩, hcs⟩ := hc q _ hx; exact ⟨g, o, _, B1, k1, c1, B2, m2, d2, rfl, hg, hx, hr1, hr2, hcs⟩
def cutTD (x : TD) : TD := ⟨x.a, x.n, cutA x.at_⟩
set_option maxRecDepth 100000 in
set_option maxHeartbeats 8000000 in
theorem few36_any (A : Option Addr) (n c : Nat) (l : List TD) (w : World) (h : LstAt 11 tdR w A n c l) :
    Calls Tryz.prog 21 #[.slice A n c] w fun e w' => ∃ A' n' c' xs, e = .returned (.slice A' n' c') ∧ LOw 11 71 tdR w' w.heap.size w.heap.size A' n' c' ((l.take 12).map cutTD) xs ∧ Below w.heap.size w w' := by
  obtain ⟨i0, hi, hz0, hz1, hz2⟩ := info_parts toldInfo; have hln := h.1; have hnc := h.2.1; have hmx := h.2.2.1; unfold maxLen at hmx; have HLs := hide h; have HL0 : Hid (LOw 11 71 tdR (w.alloc (.cells #[] 71)) w.heap.size w.heap.size (some ⟨w.heap.size, 0, none⟩) 0 0 [] []) := hide ⟨w.ownsRow_lit #[] 0 (Nat.le_refl _) (by unfold maxLen; omega) rfl, by simp, fun k x hk => by simp at hk⟩; have HB0 : Hid (Below w.heap.size w (w.alloc (.cells #[] 71))) := hide ((Below.refl _ w).alloc (Nat.le_refl _) _); clear h
  go_enter Tryz.func21, Tryz.ntmps21
  go_wp2
  go_loopw [3, 4] (fun vo iv wr => ∃ (q : Nat) (A1 : Option Addr) (n1 c1 : Nat) (xs : List Value), q ≤ n ∧ q ≤ 12 ∧ iv = .int .i64 (q : Nat) ∧ vo = .slice A1 n1 c1 ∧ LOw 11 71 tdR wr w.heap.size w.heap.size A1 n1 c1 ((l.take q).map cutTD) xs ∧ Below w.heap.size w wr) (fun _ iv _ => n - (intOf iv).toNat)
  case atStart => exact ⟨0, some ⟨w.heap.size, 0, none⟩, 0, 0, [], Nat.zero_le _, Nat.zero_le _, rfl, rfl, HL0.out, HB0.out⟩
  case round =>
    obtain ⟨q, A1, n1, c1, xs, hq, hq12, rfl, rfl, hlo, hbel⟩ := hrel; have HLo := hide hlo; have HBe := hide hbel; have hs1 := hbel.size; have hn1 := (hlo.lst (by decide)).1; rw [List.length_map, List.length_take] at hn1; by_cases hlt : q < n ∧ q < 12
    · obtain ⟨hlt, hl12⟩ := hlt; obtain ⟨g, o, x, B1, k1, c1', B2, m2, d2, rfl, hg, hx, hr1, hr2, hcs⟩ := TDat (HLs.out.below tdMono hbel) hlt; obtain ⟨Y, hY⟩ : ∃ Y, cutA x.at_ = Y := ⟨_, rfl⟩
      have HE : Hid ((l.take (q + 1)).map cutTD = (l.take q).map cutTD ++ [⟨x.a, x.n, Y⟩]) := hide (by rw [List.take_add_one, hx, ← hY]; simp [cutTD]); have HCs := hide hcs; have HZ0 : Hid (wr.cell? ⟨g, o + q * 11, none⟩ = some (.int .u32 x.a)) := hide (hcs 0 _ rfl); have HZ1 : Hid (wr.cell? ⟨g, o + q * 11 + 1, none⟩ = some (.int .i64 x.n)) := hide (hcs 1 _ rfl); have HR1 := hide hr1; have HR2 := hide hr2; have HY := hide hY; have q1 : (q : Int) < (n : Int) := (by omega)
      have q2 : (q : Int) < 12 := (by omega)
      have q0 : (0 : Int) ≤ (q : Int) := (by omega)
      have hwq : IntKind.i64.wrap ((q : Int) + 1) = (q : Int) + 1 := (by rw [IntKind.wrap_i64]; omega)
      clear hlo hbel hx hr1 hr2 hcs hY; go_wp2; have Hmn := hide (show AllMono [(isV (Value.slice A1 n1 c1)), (isV (.slice (some ⟨g, o, none⟩) n c)), (isV (.int .i64 (q : Int))), (isV (ptv g (o + q * 11))), (isV (ptv g (o + q * 11))), (isV (.agg #[.int .u32 x.a, .int .i64 x.n])), (isV (.slice (some ⟨g, o, none⟩) n c)), (isV (.int .i64 (q : Int))), (isV (ptv g (o + q * 11))), (isV (ptv g (o + q * 11 + 2))), (isV (atV x.at_.has x.at_.org B1 k1 c1' x.at_.hop x.at_.med x.at_.pref x.at_.aas x.at_.aid B2 m2 d2)), (fun v W2 => ∃ A n c B m d, v = atV Y.has Y.org A n c Y.hop Y.med Y.pref Y.aas Y.aid B m d ∧ (∃ xs, LOw 2 133 sgR W2 wr.heap.size wr.heap.size A n c Y.path xs) ∧ FrB wr.heap.size none (fun w => U32s w B m d Y.comms) W2), (fun v W2 => ∃ A n c B m d, v = .agg #[.int .u32 x.a, .int .i64 x.n, .int .i64 Y.has, .int .i64 Y.org, .slice A n c, .int .u32 Y.hop, .int .u32 Y.med, .int .u32 Y.pref, .int .u32 Y.aas, .int .u32 Y.aid, .slice B m d] ∧ (∃ xs, LOw 2 133 sgR W2 wr.heap.size wr.heap.size A n c Y.path xs) ∧ FrB wr.heap.size none (fun w => U32s w B m d Y.comms) W2), (fun v W2 => ∃ R A n c B m d, v = .slice (some ⟨R, 0, none⟩) 1 1 ∧ Blk W2 R 71 #[.int .u32 x.a, .int .i64 x.n, .int .i64 Y.has, .int .i64 Y.org, .slice A n c, .int .u32 Y.hop, .int .u32 Y.med, .int .u32 Y.pref, .int .u32 Y.aas, .int .u32 Y.aid, .slice B m d] ∧ (∃ xs, LOw 2 133 sgR W2 wr.heap.size wr.heap.size A n c Y.path xs) ∧ FrB wr.heap.size none (fun w => U32s w B m d Y.comms) W2)] from ⟨fun _ _ _ _ h => h, fun _ _ _ _ h => h, fun _ _ _ _ h => h, fun _ _ _ _ h => h, fun _ _ _ _ h => h, fun _ _ _ _ h => h, fun _ _ _ _ h => h, fun _ _ _ _ h => h, fun _ _ _ _ h => h, fun _ _ _ _ h => h, fun _ _ _ _ h => h, fun v w2 w3 hb ⟨A, n, c, B, m, d, e, ⟨xs, h1⟩, h2⟩ => ⟨A, n, c, B, m, d, e, ⟨xs, h1.below hb⟩, h2.below hb⟩, fun v w2 w3 hb ⟨A, n, c, B, m, d, e, ⟨xs, h1⟩, h2⟩ => ⟨A, n, c, B, m, d, e, ⟨xs, h1.below hb⟩, h2.below hb⟩, fun v w2 w3 hb ⟨R, A, n, c, B, m, d, e, hk, ⟨xs, h1⟩, h2⟩ => ⟨R, A, n, c, B, m, d, e, hk.below hb hk.lt, ⟨xs, h1.below hb⟩, h2.below hb⟩, trivial⟩); refine wp_region_relT 14 _ (by kernel_rfl) (by kernel_rfl) (by kernel_rfl) (by kernel_rfl) (by kernel_rfl) (relMono _ Hmn.out) ⟨?_, ?_, ?_, ?_, ?_, ?_, ?_, ?_, ?_, ?_, ?_, ?_, ?_, ?_, trivial⟩ ?_
      · exact relStep_plain rfl fun Ac w5 hp => pureM (Value.slice A1 n1 c1) 3 (hp.out 3 (by rfl))
      · exact relStep_plain rfl fun Ac w5 hp => pureM (.slice (some ⟨g, o, none⟩) n c) 0 (hp.out 0 (by rfl))
      · exact relStep_plain rfl fun Ac w5 hp => pureM (.int .i64 (q : Int)) 4 (hp.out 4 (by rfl))
      · exact relStep_plain rfl fun Ac w5 hp => pure2 (ptv g (o + q * 11)) 17 (.slice (some ⟨g, o, none⟩) n c) (hp.d 1) 18 (.int .i64 (q : Int)) (hp.d 2)
      · exact relStep_plain rfl fun Ac w5 hp => pureM (ptv g (o + q * 11)) 19 (hp.d 3)
      · refine relStep_plain rfl ?_; intro Ac w5 hp; have hb := hp.bel; have z0 : w5.cell? ⟨g, o + q * 11, none⟩ = some (.int .u32 x.a) := (hb.cell hg).trans HZ0.out; have z1 : w5.cell? ⟨g, o + q * 11 + 1, none⟩ = some (.int .i64 x.n) := (hb.cell hg).trans HZ1.out; exact pure1 (.agg #[.int .u32 x.a, .int .i64 x.n]) 20 (ptv g (o + q * 11)) (hp.d 4)
      · exact relStep_plain rfl fun Ac w5 hp => pureM (.slice (some ⟨g, o, none⟩) n c) 0 (hp.out 0 (by rfl))
      · exact relStep_plain rfl fun Ac w5 hp => pureM (.int .i64 (q : Int)) 4 (hp.out 4 (by rfl))
      · exact relStep_plain rfl fun Ac w5 hp => pure2 (ptv g (o + q * 11)) 22 (.slice (some ⟨g, o, none⟩) n c) (hp.d 6) 23 (.int .i64 (q : Int)) (hp.d 7)
      · exact relStep_plain rfl fun Ac w5 hp => pure1 (ptv g (o + q * 11 + 2)) 24 (ptv g (o + q * 11)) (hp.d 8)
      · refine relStep_plain rfl ?_; intro Ac w5 hp; have hb := hp.bel; have z2 : w5.cell? ⟨g, o + q * 11 + 2, none⟩ = some (.int .i64 x.at_.has) := (hb.cell hg).trans (HCs.out 2 _ rfl); have z3 : w5.cell? ⟨g, o + q * 11 + 2 + 1, none⟩ = some (.int .i64 x.at_.org) := (hb.cell hg).trans (HCs.out 3 _ rfl); have z4 : w5.cell? ⟨g, o + q * 11 + 2 + 2, none⟩ = some (.slice B1 k1 c1') := (hb.cell hg).trans (HCs.out 4 _ rfl); have z5 : w5.cell? ⟨g, o + q * 11 + 2 + 3, none⟩ = some (.int .u32 x.at_.hop) := (hb.cell hg).trans (HCs.out 5 _ rfl); have z6 : w5.cell? ⟨g, o + q * 11 + 2 + 4, none⟩ = some (.int .u32 x.at_.med) := (hb.cell hg).trans (HCs.out 6 _ rfl); have z7 : w5.cell? ⟨g, o + q * 11 + 2 + 5, none⟩ = some (.int .u32 x.at_.pref) := (hb.cell hg).trans (HCs.out 7 _ rfl); have z8 : w5.cell? ⟨g, o + q * 11 + 2 + 6, none⟩ = some (.int .u32 x.at_.aas) := (hb.cell hg).trans (HCs.out 8 _ rfl); have z9 : w5.cell? ⟨g, o + q * 11 + 2 + 7, none⟩ = some (.int .u32 x.at_.aid) := (hb.cell hg).trans (HCs.out 9 _ rfl); have z10 : w5.cell? ⟨g, o + q * 11 + 2 + 8, none⟩ = some (.slice B2 m2 d2) := (hb.cell hg).trans (HCs.out 10 _ rfl); exact pure1 (atV x.at_.has x.at_.org B1 k1 c1' x.at_.hop x.at_.med x.at_.pref x.at_.aas x.at_.aid B2 m2 d2) 25 (ptv g (o + q * 11 + 2)) (hp.d 9)
      · refine relStep_plain rfl ?_; intro Ac w5 hp; have hb := hp.bel; have a26 : Ac.eval (.tmp 26) = atV x.at_.has x.at_.org B1 k1 c1' x.at_.hop x.at_.med x.at_.pref x.at_.aas x.at_.aid B2 m2 d2 := hp.d 10; obtain ⟨ρ, hρ, hc, hf, hgl⟩ := evalX Ac; rw [hρ] at a26; refine relCall hρ 72 #[atV x.at_.has x.at_.org B1 k1 c1' x.at_.hop x.at_.med x.at_.pref x.at_.aas x.at_.aid B2 m2 d2] (by simp [go_sem, ↓IntWalk.iteOmega, *]) ?_; refine (attrsFew_any x.at_ (atV x.at_.has x.at_.org B1 k1 c1' x.at_.hop x.at_.med x.at_.pref x.at_.aas x.at_.aid B2 m2 d2) w5 ⟨B1, k1, c1', B2, m2, d2, rfl, HR1.out.below sgMono hb, HR2.out.below hb⟩).mono ?_; rintro e w6 ⟨v6, rfl, ⟨A6, n6, c6, xs6, B6, m6, d6, rfl, hl6, hu6⟩, hb6⟩; rw [HY.out] at hl6 hu6 ⊢; exact ⟨_, rfl, ⟨A6, n6, c6, B6, m6, d6, rfl, ⟨xs6, hl6.less hb.size hb.size⟩, hu6.less hb.size⟩, hb6⟩
      · refine relStep_plain rfl ?_; intro Ac w5 hp; have a21 : Ac.eval (.tmp 21) = .agg #[.int .u32 x.a, .int .i64 x.n] := hp.d 5; obtain ⟨A27, n27, c27, B27, m27, d27, a27, ⟨xs27, hl27⟩, hu27⟩ := hp.d 11; change Ac.eval (.tmp 27) = _ at a27; exact relPureX (.agg #[.int .u32 x.a, .int .i64 x.n, .int .i64 Y.has, .int .i64 Y.org, .slice A27 n27 c27, .int .u32 Y.hop, .int .u32 Y.med, .int .u32 Y.pref, .int .u32 Y.aas, .int .u32 Y.aid, .slice B27 m27 d27]) (fun ρ hρ h1 h2 h3 => by rw [hρ] at a21 a27; simp [go_sem, ↓IntWalk.iteOmega, *]) ⟨A27, n27, c27, B27, m27, d27, rfl, ⟨xs27, hl27⟩, hu27⟩
      · refine relStep_plain rfl ?_; intro Ac w5 hp; obtain ⟨A28, n28, c28, B28, m28, d28, a28, ⟨xs28, hl28⟩, hu28⟩ := hp.d 12; change Ac.eval (.tmp 28) = _ at a28; obtain ⟨ρ, hρ, hc, hf, hgl⟩ := evalX Ac; rw [hρ] at a28; exact relVal hρ (.slice (some ⟨w5.heap.size, 0, none⟩) 1 1) (w5.alloc (.cells #[.int .u32 x.a, .int .i64 x.n, .int .i64 Y.has, .int .i64 Y.org, .slice A28 n28 c28, .int .u32 Y.hop, .int .u32 Y.med, .int .u32 Y.pref, .int .u32 Y.aas, .int .u32 Y.aid, .slice B28 m28 d28] 71)) (by simp [go_sem, hc, hf, hgl, ↓IntWalk.iteOmega, a28]) ⟨w5.heap.size, A28, n28, c28, B28, m28, d28, rfl, Blk.new w5 _ _, ⟨xs28, hl28.below (blkBelow1 w5 _)⟩, hu28.below (blkBelow1 w5 _)⟩ ((Below.refl _ _).alloc (Nat.le_refl _) _)
      intro u w8 hb7 hall; have e16 : u 0 = Value.slice A1 n1 c1 := relAll_at hall (i := 0) (by decide +kernel); obtain ⟨R29, A29, n29, c29, B29, m29, d29, e29, hR29, ⟨xs29, hl29⟩, hu29⟩ := relAll_at hall (i := 13) (by decide +kernel); change u 13 = _ at e29; clear hall; simp only [List.drop_succ_cons, List.drop_zero, List.take_succ_cons, List.take_zero, putAll, Act.put, List.setIfInBounds_toArray, List.set_cons_zero, List.set_cons_succ, Nat.zero_add, Nat.reduceAdd, e16, e29]; have hsw := hb7.size; have HLo8 := hide (HLo.out.below hb7); have HB8 := hide (HBe.out.trans (hb7.mono hs1)); refine wpList_append_any w8 rfl (.tmp 16) (.tmp 29) 51 rfl w.heap.size 71 i0 _ 11 104 Tryz.underlying51 hi hz0 hz1 hz2 rfl (by decide) (.slice A1 n1 c1) n1 xs rfl HLo8.out.1 w8.heap.size (some ⟨R29, 0, none⟩) 1 1 [.int .u32 x.a, .int .i64 x.n, .int .i64 Y.has, .int .i64 Y.org, .slice A29 n29 c29, .int .u32 Y.hop, .int .u32 Y.med, .int .u32 Y.pref, .int .u32 Y.aas, .int .u32 Y.aid, .slice B29 m29 d29] rfl (reads_blkN hR29 hR29.lt rfl rfl) (by simp [Value.oneCell']) (by unfold maxLen; omega) (by omega) (by omega) ?_; intro v2 w9 h2 h3 h4; obtain ⟨A4, c4, rfl, hlo4⟩ := LOw.push HLo8.out (chunk1_fr rfl (td_fr hl29 hu29 hs1 (fun k hk => own_block_lt HLo.out.1 k hk))) h2 h3 h4; have HL9 := hide hlo4; have HB9 := hide (HB8.out.grown h3 (by omega) (fun k hk => own_low_block HLo.out.1 k hk)); clear hlo4 h2 h3 h4 hb7 hR29 hl29 hu29 e16 e29; go_wp2
      go_roundw
      case rel => exact ⟨q + 1, A4, n1 + 1, c4, _, by omega, by omega, by go_num, rfl, by rw [HE.out]; exact HL9.out, HB9.out⟩
      case measure => simp [intOf]; omega
    · have HF : Hid (LOw 11 71 tdR wr w.heap.size w.heap.size A1 n1 c1 ((l.take 12).map cutTD) xs) := hide (by
        have e : l.take q = l.take 12 := by
          by_cases h12 : q = 12
          · rw [h12]
          · rw [List.take_of_length_le (by omega), List.take_of_length_le (by omega)]
        rw [e] at hlo; exact hlo)
      clear hlo hbel; by_cases hqn : q < n
      · have e1 : decide ((q : Int) < (n : Int)) = true := decide_eq_true (by omega); have e2 : decide ((q : Int) < 12) = false := decide_eq_false (by omega); clear hlt; go_wp2; go_ret; exact ⟨A1, n1, c1, xs, rfl, HF.out, HBe.out⟩
      · have e1 : decide ((q : Int) < (n : Int)) = false := decide_eq_false (by omega); clear hlt; go_wp2; go_ret; exact ⟨A1, n1, c1, xs, rfl, HF.out, HBe.out⟩
def pxR (w : World) (vs : List Value) (x : Nat × Nat) : Prop := vs = [.int .u32 (x.1 : Int), .int .i64 (x.2 : Int)]
theorem pxMono : SMono pxR := fun _ _ _ _ _ h => h
theorem pxC_chunks (w : World) : ∀ l : List (Nat × Nat), Chunks 2 pxR w (pxC l) l
 | [] => Chunks.nil_
 | x :: l => by
   have h : pxC (x :: l) = [.int .u32 (x.1 : Int), .int .i64 (x.2 : Int)] ++ pxC l := (by simp [pxC])
   rw [h]; exact Chunks.app_ (l := [x]) (Chunks.one_ rfl rfl) (pxC_chunks w l)
theorem own_pxs {w : World} {b n c : Nat} {A : Option Addr} {l : List (Nat × Nat)} (h : w.ownsRow b 24 2 (.slice A n c) n (pxC l)) : LstAt 2 pxR w A n c l := LstAt.of_own (by decide) h (pxC_chunks w l)
theorem PXat {w : World} {A : Option Addr} {n c q : Nat} {l : List (Nat × Nat)} (h : LstAt 2 pxR w A n c l) (hq : q < n) : ∃ g o a m, A = some ⟨g, o, none⟩ ∧ g < w.heap.size ∧ l[q]? = some (a, m) ∧ w.cell? ⟨g, o + q * 2, none⟩ = some (.int .u32 (a : Int)) ∧ w.cell? ⟨g, o + q * 2 + 1, none⟩ = some (.int .i64 (m : Int)) := by
 obtain ⟨h1, h2, h3, h4⟩ := h; obtain ⟨g, o, rfl, hg, hc⟩ := h4 (by omega); have hx : l[q]? = some l[q] := List.getElem?_eq_getElem (by omega); obtain ⟨vs, hl, rfl, hcs⟩ := hc q _ hx; exact ⟨g, o, _, _, rfl, hg, hx, hcs 0 _ rfl, hcs 1 _ rfl⟩
def atR (w : World) (vs : List Value) (x : AT) : Prop := AtR w x (.agg vs.toArray)
def tdN (z : Nat × Nat × AT) : TD := ⟨(z.1 : Int), (z.2.1 : Int), normA z.2.2⟩
def AtOk (x : AT) : Prop := numS x.path ≤ 10000 ∧ x.comms.length ≤ 10000
structure TrT (F : Nat → Prop) (w : World) (g : Nat) (t : Tr AT) : Prop where
  root : Blk w g 201 #[trPtr t]
  tree : TrA 9 205 F atR w t
  gF : ¬ F g
  gB : g ∉ trB t
  low : ∀ k, F k → k < w.heap.size
  ok : ∀ z ∈ trL t, AtOk z.2.2
  cnt : trCnt t ≤ 100000
theorem TrT.chg {F S : Nat → Prop} {w w' : World} {g : Nat} {t : Tr AT} (h : TrT F w g t) (hc : ChgS S w w') (hs : ∀ k ∈ trB t, ¬ S k) (hF : ∀ k, F k → ¬ S k) (hg : ¬ S g) : TrT F w' g t :=
 ⟨chg_blk hc h.root hg, h.tree.chg hc hs hF, h.gF, h.gB, fun k hk => Nat.lt_of_lt_of_le (h.low k hk) hc.size, h.ok, h.cnt⟩
theorem TrT.below {F : Nat → Prop} {w w' : World} {g : Nat} {t : Tr AT} (h : TrT F w g t) (hb : Below w.heap.size w w') : TrT F w' g t := h.chg (S := fun _ => False) (chg_below hb) (by simp) (by simp) (by simp)
set_option maxRecDepth 100000 in
set_option maxHeartbeats 8000000 in
theorem riblist_any (F : Nat → Prop) (g : Nat) (t : Tr AT) (w : World) (h : TrT F w g t) :
  Calls Tryz.prog 88 #[.pointer (some ⟨g, 0, none⟩)] w fun e w' => ∃ A' c' xs, e = .returned (.slice A' (trCnt t) c') ∧ LOw 11 71 tdR w' w.heap.size w.heap.size A' (trCnt t) c' ((trL t).map tdN) xs ∧ Below w.heap.size w w' := by
 obtain ⟨i0, hi, hz0, hz1, hz2⟩ := info_parts toldInfo; have HAl := hide (allA_any (R := atR) g t w h.root h.tree.mem h.low (Nat.le_trans h.cnt (by decide))); have hcn := h.cnt; have hkl : (keyL (trL t)).length = trCnt t := (by unfold keyL; rw [List.length_map, trL_len])
 have HT := hide h; obtain ⟨N, hN⟩ : ∃ N, trCnt t = N := ⟨_, rfl⟩
 rw [hN] at HAl hcn hkl ⊢; have HN := hide hN; clear h hN
 go_enter Tryz.func88, Tryz.ntmps88
 go_wp2_with fail
 refine HAl.out.mono ?_; rintro e w1 ⟨hb1, A, c, rfl, ho⟩; have HP := hide (own_pxs ho); have HB1 := hide hb1; have hNc : N ≤ c := (own_pxs ho).2.1; have hcm := (own_pxs ho).2.2.1; unfold maxLen at hcm; have HTw := hide (HT.out.below hb1); clear hb1 ho; go_wp2
 go_loopw [3, 11] (fun vo iv wr => ∃ (q : Nat) (A1 : Option Addr) (c1 : Nat) (xs : List Value), q ≤ N ∧ iv = .int .i64 (q : Nat) ∧ vo = .slice A1 q c1 ∧ LOw 11 71 tdR wr w1.heap.size w1.heap.size A1 q c1 (((trL t).take q).map tdN) xs ∧ Below w1.heap.size w1 wr) (fun _ iv _ => N - (intOf iv).toNat)
 case atStart => exact ⟨0, none, 0, [], Nat.zero_le _, rfl, rfl, by simpa using LOw.nil, Below.refl _ _⟩
 case round =>
  obtain ⟨q, A1, c1, xs, hq, rfl, rfl, hlo, hbel⟩ := hrel; have HLo := hide hlo; have HBe := hide hbel; have hs1 := hbel.size; by_cases hlt : q < N
  ·obtain ⟨g2, o, a, m, rfl, hg, hx, hc0, hc1⟩ := PXat (HP.out.below pxMono hbel) hlt
   have hz : ∃ X, (trL t)[q]? = some (a, m, X) := by
    unfold keyL at hx; rw [List.getElem?_map] at hx
    cases hz : (trL t)[q]? with
    | none => rw [hz] at hx; simp at hx
    | some z =>
     rw [hz] at hx; simp only [Option.map_some, Option.some.injEq, Prod.mk.injEq] at hx; exact ⟨z.2.2, by rw [← hx.1, ← hx.2]⟩
   obtain ⟨X, hz⟩ := hz; have hzm := List.mem_of_getElem? hz; have hgt := (trL_mem t HT.out.tree.wf).1 hzm; have HOk := hide (HT.out.ok _ hzm); have HPg := hide (trGet_pg t HT.out.tree.wf hgt); obtain ⟨Y, hY⟩ : ∃ Y, normA X = Y := ⟨_, rfl⟩
   have HE : Hid (((trL t).take (q + 1)).map tdN = ((trL t).take q).map tdN ++ [⟨(a : Int), (m : Int), Y⟩]) := hide (by rw [List.take_add_one, hz, ← hY]; simp [tdN]); have HY := hide hY; obtain ⟨w2, hw2⟩ : ∃ W, wr.alloc (.cells #[.int .u32 (a : Int), .int .i64 (m : Int)] 24) = W := ⟨_, rfl⟩
   have hb2 : Below wr.heap.size wr w2 := hw2 ▸ blkBelow1 wr _; have HX2 : Hid (Blk w2 wr.heap.size 24 #[.int .u32 (a : Int), .int .i64 (m : Int)]) := hide (hw2 ▸ Blk.new wr _ _); have HT2 := (HTw.out.below hbel).below hb2; have HGt := hide (getA_any (R := atR) g a m t w2 HPg.out HT2.root HT2.tree.mem HT2.tree.wf HT2.low); rw [hgt] at HGt; have HW2 := hide hw2; have HB2 := hide hb2; have q1 : (q : Int) < (N : Int) := (by omega)
   have q0 : (0 : Int) ≤ (q : Int) := (by omega)
   have hwq : IntKind.i64.wrap ((q : Int) + 1) = (q : Int) + 1 := (by rw [IntKind.wrap_i64]; omega)
   clear hlo hbel hx hz hzm hgt hY hw2 hb2 HT2
   go_wp2_with fail
   rw [HW2.out]; refine HGt.out.mono ?_; rintro e w3 ⟨hb3, v0, v1, v2, v3, v4, v5, v6, v7, v8, rfl, hfr⟩; obtain ⟨XA, xn, xc, XB, xm, xd, hv, hxr, hxu⟩ := frs_here hfr; simp only [Value.agg.injEq, Array.mk.injEq, List.cons.injEq, and_true] at hv; obtain ⟨rfl, rfl, rfl, rfl, rfl, rfl, rfl, rfl, rfl⟩ := hv; obtain ⟨w4, hw4⟩ : ∃ W, w3.alloc (.cells #[.int .i64 X.has, .int .i64 X.org, .slice XA xn xc, .int .u32 X.hop, .int .u32 X.med, .int .u32 X.pref, .int .u32 X.aas, .int .u32 X.aid, .slice XB xm xd] 28) = W := ⟨_, rfl⟩
   have hb4 : Below w3.heap.size w3 w4 := hw4 ▸ blkBelow1 w3 _; have HV4 : Hid (Blk w4 w3.heap.size 28 #[.int .i64 X.has, .int .i64 X.org, .slice XA xn xc, .int .u32 X.hop, .int .u32 X.med, .int .u32 X.pref, .int .u32 X.aas, .int .u32 X.aid, .slice XB xm xd]) := hide (hw4 ▸ Blk.new w3 _ _); have HX4 := hide ((HX2.out.below hb3 HX2.out.lt).below hb4 (HX2.out.below hb3 HX2.out.lt).lt); have HXr := hide (hxr.below sgMono hb4); have HXu := hide (hxu.below hb4); have HB4 := hide (HB2.out.trans ((hb3.trans (hb4.mono hb3.size)).mono HB2.out.size)); have HW4 := hide hw4; clear hb3 hfr hxr hxu hw4 hb4 hc0 hc1 HGt
   go_upto_region 6 with fail
   rw [HW4.out]; have Hmn := hide (show AllMono [(isV (Value.slice A1 q c1)), (isV (.agg #[.int .u32 (a : Int), .int .i64 (m : Int)])), (isV (atV X.has X.org XA xn xc X.hop X.med X.pref X.aas X.aid XB xm xd)), (fun v W2 => ∃ A n c B m_ d, v = atV Y.has Y.org A n c Y.hop Y.med Y.pref Y.aas Y.aid B m_ d ∧ (∃ xs, LOw 2 133 sgR W2 w4.heap.size w4.heap.size A n c Y.path xs) ∧ FrB w4.heap.size none (fun w => U32s w B m_ d Y.comms) W2), (fun v W2 => ∃ A n c B m_ d, v = .agg #[.int .u32 (a : Int), .int .i64 (m : Int), .int .i64 Y.has, .int .i64 Y.org, .slice A n c, .int .u32 Y.hop, .int .u32 Y.med, .int .u32 Y.pref, .int .u32 Y.aas, .int .u32 Y.aid, .slice B m_ d] ∧ (∃ xs, LOw 2 133 sgR W2 w4.heap.size w4.heap.size A n c Y.path xs) ∧ FrB w4.heap.size none (fun w => U32s w B m_ d Y.comms) W2), (fun v W2 => ∃ R A n c B m_ d, v = .slice (some ⟨R, 0, none⟩) 1 1 ∧ Blk W2 R 71 #[.int .u32 (a : Int), .int .i64 (m : Int), .int .i64 Y.has, .int .i64 Y.org, .slice A n c, .int .u32 Y.hop, .int .u32 Y.med, .int .u32 Y.pref, .int .u32 Y.aas, .int .u32 Y.aid, .slice B m_ d] ∧ (∃ xs, LOw 2 133 sgR W2 w4.heap.size w4.heap.size A n c Y.path xs) ∧ FrB w4.heap.size none (fun w => U32s w B m_ d Y.comms) W2)] from ⟨fun _ _ _ _ h => h, fun _ _ _ _ h => h, fun _ _ _ _ h => h, fun v w2 w3 hb ⟨A, n, c, B, m_, d, e, ⟨xs, h1⟩, h2⟩ => ⟨A, n, c, B, m_, d, e, ⟨xs, h1.below hb⟩, h2.below hb⟩, fun v w2 w3 hb ⟨A, n, c, B, m_, d, e, ⟨xs, h1⟩, h2⟩ => ⟨A, n, c, B, m_, d, e, ⟨xs, h1.below hb⟩, h2.below hb⟩, fun v w2 w3 hb ⟨R, A, n, c, B, m_, d, e, hk, ⟨xs, h1⟩, h2⟩ => ⟨R, A, n, c, B, m_, d, e, hk.below hb hk.lt, ⟨xs, h1.below hb⟩, h2.below hb⟩, trivial⟩); refine wp_region_relT 6 _ (by kernel_rfl) (by kernel_rfl) (by kernel_rfl) (by kernel_rfl) (by kernel_rfl) (relMono _ Hmn.out) ⟨?_, ?_, ?_, ?_, ?_, ?_, trivial⟩ ?_
   ·exact relStep_plain rfl fun Ac w5 hp => pureM (Value.slice A1 q c1) 3 (hp.out 3 (by rfl))
   ·refine relStep_plain rfl ?_; intro Ac w5 hp; have hb := hp.bel; have hx5 := HX4.out.below hb HX4.out.lt; have z0 : w5.cell? ⟨wr.heap.size, 0, none⟩ = some (.int .u32 (a : Int)) := hx5.cell 0; have z1 : w5.cell? ⟨wr.heap.size, 1, none⟩ = some (.int .i64 (m : Int)) := hx5.cell 1; exact pure1 (.agg #[.int .u32 (a : Int), .int .i64 (m : Int)]) 5 (ptv wr.heap.size 0) (hp.out 5 (by rfl))
   ·refine relStep_plain rfl ?_; intro Ac w5 hp; have hb := hp.bel; have hv5 := HV4.out.below hb HV4.out.lt; have z2 : w5.cell? ⟨w3.heap.size, 0, none⟩ = some (.int .i64 X.has) := hv5.cell 0; have z3 : w5.cell? ⟨w3.heap.size, 1, none⟩ = some (.int .i64 X.org) := hv5.cell 1; have z4 : w5.cell? ⟨w3.heap.size, 2, none⟩ = some (.slice XA xn xc) := hv5.cell 2; have z5 : w5.cell? ⟨w3.heap.size, 3, none⟩ = some (.int .u32 X.hop) := hv5.cell 3; have z6 : w5.cell? ⟨w3.heap.size, 4, none⟩ = some (.int .u32 X.med) := hv5.cell 4; have z7 : w5.cell? ⟨w3.heap.size, 5, none⟩ = some (.int .u32 X.pref) := hv5.cell 5; have z8 : w5.cell? ⟨w3.heap.size, 6, none⟩ = some (.int .u32 X.aas) := hv5.cell 6; have z9 : w5.cell? ⟨w3.heap.size, 7, none⟩ = some (.int .u32 X.aid) := hv5.cell 7; have z10 : w5.cell? ⟨w3.heap.size, 8, none⟩ = some (.slice XB xm xd) := hv5.cell 8; exact pure1 (atV X.has X.org XA xn xc X.hop X.med X.pref X.aas X.aid XB xm xd) 6 (ptv w3.heap.size 0) (hp.out 6 (by rfl))
   ·refine relStep_plain rfl ?_; intro Ac w5 hp; have hb := hp.bel; have a23 : Ac.eval (.tmp 23) = atV X.has X.org XA xn xc X.hop X.med X.pref X.aas X.aid XB xm xd := hp.d 2; obtain ⟨ρ, hρ, hc, hf, hgl⟩ := evalX Ac; rw [hρ] at a23; refine relCall hρ 68 #[atV X.has X.org XA xn xc X.hop X.med X.pref X.aas X.aid XB xm xd] (by simp [go_sem, ↓IntWalk.iteOmega, *]) ?_; refine (attrNormX_any X (atV X.has X.org XA xn xc X.hop X.med X.pref X.aas X.aid XB xm xd) w5 ⟨XA, xn, xc, XB, xm, xd, rfl, HXr.out.below sgMono hb, HXu.out.below hb⟩ HOk.out.1 HOk.out.2).mono ?_; rintro e w6 ⟨v6, rfl, ⟨A6, n6, c6, xs6, B6, m6, d6, rfl, hl6, hu6⟩, hb6⟩; rw [HY.out] at hl6 hu6 ⊢; exact ⟨_, rfl, ⟨A6, n6, c6, B6, m6, d6, rfl, ⟨xs6, hl6.less hb.size hb.size⟩, hu6.less hb.size⟩, hb6⟩
   ·refine relStep_plain rfl ?_; intro Ac w5 hp; have a22 : Ac.eval (.tmp 22) = .agg #[.int .u32 (a : Int), .int .i64 (m : Int)] := hp.d 1; obtain ⟨A24, n24, c24, B24, m24, d24, a24, ⟨xs24, hl24⟩, hu24⟩ := hp.d 3; change Ac.eval (.tmp 24) = _ at a24; exact relPureX (.agg #[.int .u32 (a : Int), .int .i64 (m : Int), .int .i64 Y.has, .int .i64 Y.org, .slice A24 n24 c24, .int .u32 Y.hop, .int .u32 Y.med, .int .u32 Y.pref, .int .u32 Y.aas, .int .u32 Y.aid, .slice B24 m24 d24]) (fun ρ hρ h1 h2 h3 => by rw [hρ] at a22 a24; simp [go_sem, ↓IntWalk.iteOmega, *]) ⟨A24, n24, c24, B24, m24, d24, rfl, ⟨xs24, hl24⟩, hu24⟩
   ·refine relStep_plain rfl ?_; intro Ac w5 hp; obtain ⟨A25, n25, c25, B25, m25, d25, a25, ⟨xs25, hl25⟩, hu25⟩ := hp.d 4; change Ac.eval (.tmp 25) = _ at a25; obtain ⟨ρ, hρ, hc, hf, hgl⟩ := evalX Ac; rw [hρ] at a25; exact relVal hρ (.slice (some ⟨w5.heap.size, 0, none⟩) 1 1) (w5.alloc (.cells #[.int .u32 (a : Int), .int .i64 (m : Int), .int .i64 Y.has, .int .i64 Y.org, .slice A25 n25 c25, .int .u32 Y.hop, .int .u32 Y.med, .int .u32 Y.pref, .int .u32 Y.aas, .int .u32 Y.aid, .slice B25 m25 d25] 71)) (by simp [go_sem, hc, hf, hgl, ↓IntWalk.iteOmega, a25]) ⟨w5.heap.size, A25, n25, c25, B25, m25, d25, rfl, Blk.new w5 _ _, ⟨xs25, hl25.below (blkBelow1 w5 _)⟩, hu25.below (blkBelow1 w5 _)⟩ ((Below.refl _ _).alloc (Nat.le_refl _) _)
   intro u w8 hb7 hall; have e21 : u 0 = Value.slice A1 q c1 := relAll_at hall (i := 0) (by decide +kernel); obtain ⟨R26, A26, n26, c26, B26, m26, d26, e26, hR26, ⟨xs26, hl26⟩, hu26⟩ := relAll_at hall (i := 5) (by decide +kernel); change u 5 = _ at e26; clear hall; simp only [List.drop_succ_cons, List.drop_zero, List.take_succ_cons, List.take_zero, putAll, Act.put, List.setIfInBounds_toArray, List.set_cons_zero, List.set_cons_succ, Nat.zero_add, Nat.reduceAdd, e21, e26]; have hsw := hb7.size; have HLo8 := hide ((HLo.out.below HB4.out).below hb7); have HB8 := hide (HBe.out.trans ((HB4.out.trans (hb7.mono HB4.out.size)).mono hs1)); have hs4 := HB4.out.size; refine wpList_append_any w8 rfl (.tmp 21) (.tmp 26) 51 rfl w1.heap.size 71 i0 _ 11 104 Tryz.underlying51 hi hz0 hz1 hz2 rfl (by decide) (.slice A1 q c1) q xs rfl HLo8.out.1 w8.heap.size (some ⟨R26, 0, none⟩) 1 1 [.int .u32 (a : Int), .int .i64 (m : Int), .int .i64 Y.has, .int .i64 Y.org, .slice A26 n26 c26, .int .u32 Y.hop, .int .u32 Y.med, .int .u32 Y.pref, .int .u32 Y.aas, .int .u32 Y.aid, .slice B26 m26 d26] rfl (reads_blkN hR26 hR26.lt rfl rfl) (by simp [Value.oneCell']) (by unfold maxLen; omega) (by omega) (by omega) ?_; intro v2 w9 h2 h3 h4; obtain ⟨A4, c4, rfl, hlo4⟩ := LOw.push HLo8.out (chunk1_fr rfl (td_fr hl26 hu26 (Nat.le_trans hs1 hs4) (fun k hk => Nat.lt_of_lt_of_le (own_block_lt HLo.out.1 k hk) hs4))) h2 h3 h4; have HL9 := hide hlo4; have HB9 := hide (HB8.out.grown h3 (by omega) (fun k hk => own_low_block HLo.out.1 k hk)); clear hlo4 h2 h3 h4 hb7 hR26 hl26 hu26 e21 e26; go_wp2
   go_roundw
   case rel => exact ⟨q + 1, A4, c4, _, by omega, by go_num, rfl, by rw [HE.out]; exact HL9.out, HB9.out⟩
   case measure => simp [intOf]; omega
  ·obtain rfl : q = N := (by omega)
   have e1 : decide ((q : Int) < (q : Int)) = false := (by simp)
   have hall : (trL t).take q = trL t := List.take_of_length_le (by rw [trL_len, HN.out]; exact Nat.le_refl _); rw [hall] at hlo; have HLf := hide hlo; clear hlo hbel hlt HLo hall; go_wp2; go_ret; exact ⟨A1, c1, xs, rfl, HLf.out.less HB1.out.size HB1.out.size, HB1.out.trans (HBe.out.mono HB1.out.size)⟩
theorem lo_at {α : Type} {sz : Nat} {t : TypeId} {R : World → List Value → α → Prop} {w : World} {B B' n c q : Nat} {A : Option Addr} {l : List α} {xs : List Value} (hsz : 0 < sz) (h : LOw sz t R w B B' A n c l xs) (hq : q < n) :
  ∃ g x vs, A = some ⟨g, 0, none⟩ ∧ g < w.heap.size ∧ B ≤ g ∧ l[q]? = some x ∧ vs.length = sz ∧ FrB B' (Value.slice A n c).ownBlock (fun w => R w vs x) w ∧ ∀ (j : Nat) (v : Value), vs[j]? = some v → w.cell? ⟨g, q * sz + j, none⟩ = some v := by
 have hln : l.length = n := (h.lst hsz).1; obtain ⟨⟨h1, h2⟩, h3, h4⟩ := h; rcases h2 with ⟨_, rfl⟩ | ⟨g, cap, cur, e1, e2, e3, e4, e5, e6, e7⟩
 ·omega
 injection e1 with e1 _ _
 subst e1; have hx : l[q]? = some l[q] := List.getElem?_eq_getElem (by omega); have hle : (q + 1) * sz ≤ n * sz := Nat.mul_le_mul_right _ (by omega); rw [Nat.add_mul, Nat.one_mul] at hle; have hxl : xs.length = n * sz := (by rw [h3, hln])
 refine ⟨g, _, (xs.drop (q * sz)).take sz, rfl, (Array.getElem?_eq_some_iff.1 e3).1, e2, hx, by rw [List.length_take, List.length_drop]; omega, h4 q _ hx, fun j v hj => ?_⟩
 have hjs : j < sz := by
  have := (List.getElem?_eq_some_iff.1 hj).1; rw [List.length_take] at this; omega
 rw [List.getElem?_take, if_pos hjs, List.getElem?_drop, ← e7, List.getElem?_take, if_pos (by omega)] at hj; rw [cell_of_row w g (q * sz + j) cur t (0, 0) e3]; simpa using hj
theorem frb_switch {B : Nat} {ob ob2 : Option Nat} {R : World → Prop} {w w' : World} (h : FrB B ob R w) (hb : Below w.heap.size w w') (hob : ∀ k, ob2 = some k → w.heap.size ≤ k) : FrB B ob2 R w' := fun w2 h2 =>
 h w2 ⟨Nat.le_trans hb.size h2.1, fun k o h0 h1 hc h3 => h2.2 k o h0 ((hb.block k (heap_lt h1)).trans h1) hc (fun e => by have := hob k e.symm; have := heap_lt h1; omega)⟩
set_option maxRecDepth 100000 in
set_option maxHeartbeats 8000000 in
theorem same1_any (b b2 : Int) (B1 B2 : Option Addr) (m1 d1 m2 d2 : Nat) (r r2 : List Nat) (w : World) (h1 : U32s w B1 m1 d1 r) (h2 : U32s w B2 m2 d2 r2) :
  Calls Tryz.prog 309 #[.agg #[.int .i64 b, .slice B1 m1 d1], .agg #[.int .i64 b2, .slice B2 m2 d2]] w fun e w' => ∃ q : Bool, e = .returned (.bool q) ∧ (q = true ↔ (b = b2 ∧ r = r2)) ∧ Below w.heap.size w w' := by
 have hb : Below w.heap.size w ((w.alloc (.cells #[.int .i64 b, .slice B1 m1 d1] 133)).alloc (.cells #[.int .i64 b2, .slice B2 m2 d2] 133)) := ((Below.refl _ w).alloc (Nat.le_refl _) _).alloc (by simp) _; have HEq := hide (slEqual_any B1 m1 d1 r B2 m2 d2 r2 _ (h1.below hb) (h2.below hb)); have HB := hide hb; clear h1 h2 hb; by_cases hbb : b = b2
 ·subst hbb; obtain ⟨q, hq⟩ : ∃ q, decide (r = r2) = q := ⟨_, rfl⟩
  rw [hq] at HEq; have HQ := hide hq; clear hq
  go_enter Tryz.func309, Tryz.ntmps309
  go_wp2_with fail
  refine HEq.out.mono ?_; rintro e w3 ⟨rfl, hb3⟩; have HB3 := hide (HB.out.trans (hb3.mono HB.out.size)); clear hb3; go_wp2; go_ret; exact ⟨q, rfl, by rw [← HQ.out]; simp, HB3.out⟩
 ·have hd : decide (b = b2) = false := decide_eq_false hbb; have HN := hide hbb; clear hbb
  go_enter Tryz.func309, Tryz.ntmps309
  go_wp2; go_ret; exact ⟨false, rfl, by simp [HN.out], HB.out⟩
set_option maxRecDepth 100000 in
set_option maxHeartbeats 8000000 in
theorem eqf_any (A B : Option Addr) (n c m d : Nat) (l l' : List SG) (w : World) (h : LstAt 2 sgR w A n c l) (h' : LstAt 2 sgR w B m d l') (hn2 : n ≤ 100000) (hm2 : m ≤ 100000) :
    Calls Tryz.prog 308 #[.slice A n c, .slice B m d, .func (.func 309) #[] #[]] w fun e w' => ∃ q : Bool, e = .returned (.bool q) ∧ (q = true ↔ l = l') ∧ Below w.heap.size w w' := by
  have hnc := h.2.1; have hmx := h.2.2.1; have hnd := h'.2.1; have hmx2 := h'.2.2.1; unfold maxLen at hmx hmx2; have HL1 := hide h; have HL2 := hide h'; clear h h'; by_cases hnm : n = m
  · subst hnm
    go_enter Tryz.func308, Tryz.ntmps308
    go_wp2
    go_loopw [17] (fun iv wr => ∃ i : Nat, i ≤ n ∧ iv = .int .i64 (i : Nat) ∧ l.take i = l'.take i ∧ Below w.heap.size w wr) (fun iv _ => n - (intOf iv).toNat)
    case atStart => exact ⟨0, Nat.zero_le _, rfl, by simp, Below.refl _ _⟩
    case round =>
      obtain ⟨i, hi, rfl, htk, hbel⟩ := hrel; have HBe := hide hbel; have HTk := hide htk; have hs1 := hbel.size; clear htk; by_cases hlt : i < n
      · obtain ⟨g, o, b, B1, m1, d1, r, rfl, hg, hx, hr1, hz0, hz1⟩ := SGat (HL1.out.below sgMono hbel) hlt; obtain ⟨g2, o2, b2, B2, m2, d2, r2, rfl, hg2, hx2, hr2, hy0, hy1⟩ := SGat (HL2.out.below sgMono hbel) hlt; have HX := hide hx; have HX2 := hide hx2; have hb2 : Below wr.heap.size wr ((wr.alloc (.cells #[.int .i64 b, .slice B1 m1 d1] 133)).alloc (.cells #[.int .i64 b2, .slice B2 m2 d2] 133)) := ((Below.refl _ wr).alloc (Nat.le_refl _) _).alloc (by simp) _; have HB2 := hide (HBe.out.trans (hb2.mono hs1)); have HSa := hide (same1_any b b2 B1 B2 m1 d1 m2 d2 r r2 _ (hr1.below hb2) (hr2.below hb2)); have i1 : (i : Int) < (n : Int) := (by omega)
        have i0 : (0 : Int) ≤ (i : Int) := (by omega)
        have hwi : IntKind.i64.wrap ((i : Int) + 1) = (i : Int) + 1 := (by rw [IntKind.wrap_i64]; omega)
        clear hbel hx hx2 hr1 hr2 hb2
        go_wp2_with fail
        refine HSa.out.mono ?_; rintro e w3 ⟨q, rfl, hq, hb3⟩; have HB3 := hide (HB2.out.trans (hb3.mono HB2.out.size)); have HQ := hide hq; clear hb3 hz0 hz1 hy0 hy1 hq
        cases q with
        | true =>
          have HTk2 : Hid (l.take (i + 1) = l'.take (i + 1)) := hide (by
            obtain ⟨e1, e2⟩ := HQ.out.1 rfl; rw [List.take_add_one, List.take_add_one, HTk.out, HX.out, HX2.out, e1, e2])
          go_wp2
          go_roundw
          case rel => exact ⟨i + 1, by omega, by go_num, HTk2.out, HB3.out⟩
          case measure => simp [intOf]; omega
        | false =>
          have HNe : Hid (l ≠ l') := hide (by
            rintro rfl; have h1 := HX.out; rw [HX2.out] at h1; simp only [Option.some.injEq, SG.mk.injEq] at h1; exact absurd (HQ.out.2 ⟨h1.1.symm, h1.2.symm⟩) (by simp))
          go_wp2; go_ret; exact ⟨false, rfl, by simp [HNe.out], HB3.out⟩
      · obtain rfl : i = n := (by omega)
        have e1 : decide ((i : Int) < (i : Int)) = false := (by simp)
        have HEq : Hid (l = l') := hide (by
          have h1 := HTk.out
          rwa [List.take_of_length_le (by rw [HL1.out.1]; exact Nat.le_refl _), List.take_of_length_le (by rw [HL2.out.1]; exact Nat.le_refl _)] at h1)
        clear hbel hlt; go_wp2; go_ret; exact ⟨true, rfl, by simp [HEq.out], HBe.out⟩
  · have hd : ((n : Int) != (m : Int)) = true := (by rw [bne_iff_ne]; omega)
    have HNe : Hid (l ≠ l') := hide (by rintro rfl; exact hnm (HL1.out.1.symm.trans HL2.out.1)); clear hnm
    go_enter Tryz.func308, Tryz.ntmps308
    go_wp2; go_ret; exact ⟨false, rfl, by simp [HNe.out], Below.refl _ _⟩
set_option maxRecDepth 100000 in
theorem psameC_any (A B : Option Addr) (n c m d : Nat) (l l' : List SG) (w : World) (h : LstAt 2 sgR w A n c l) (h' : LstAt 2 sgR w B m d l') (hn2 : n ≤ 100000) (hm2 : m ≤ 100000) :
  Calls Tryz.prog 277 #[.slice A n c, .slice B m d] w fun e w' => ∃ q : Bool, e = .returned (.bool q) ∧ (q = true ↔ l = l') ∧ Below w.heap.size w w' := by
 have H := hide (eqf_any A B n c m d l l' w h h' hn2 hm2); clear h h'
 go_enter Tryz.func277, Tryz.ntmps277
 go_wp2_with fail
 refine H.out.mono ?_; rintro e w3 ⟨q, rfl, hq, hb3⟩; have HB3 := hide hb3; have HQ := hide hq; clear hb3 hq; go_wp2; go_ret; exact ⟨q, rfl, HQ.out, HB3.out⟩
set_option maxRecDepth 100000 in
theorem pathSame_any (A B : Option Addr) (n c m d : Nat) (l l' : List SG) (w : World) (h : LstAt 2 sgR w A n c l) (h' : LstAt 2 sgR w B m d l') (hn2 : n ≤ 100000) (hm2 : m ≤ 100000) :
  Calls Tryz.prog 236 #[.slice A n c, .slice B m d] w fun e w' => ∃ q : Bool, e = .returned (.bool q) ∧ (q = true ↔ l = l') ∧ Below w.heap.size w w' := by
 have H := hide (psameC_any A B n c m d l l' w h h' hn2 hm2); clear h h'
 go_enter Tryz.func236, Tryz.ntmps236
 go_wp2_with fail
 refine H.out.mono ?_; rintro e w3 ⟨q, rfl, hq, hb3⟩; have HB3 := hide hb3; have HQ := hide hq; clear hb3 hq; go_wp2; go_ret; exact ⟨q, rfl, HQ.out, HB3.out⟩
def nuA (x : AT) : List Int := [x.has, x.org, x.hop, x.med, x.pref, x.aas, x.aid]
theorem at_ext {x y : AT} (h : nuA x = nuA y) (hp : x.path = y.path) (hc : x.comms = y.comms) : x = y := by
 cases x; cases y
 simp only [nuA, List.cons.injEq, and_true] at h; simp only at hp hc; obtain ⟨h1, h2, h3, h4, h5, h6, h7⟩ := h; subst h1 h2 h3 h4 h5 h6 h7 hp hc
 rfl
set_option maxRecDepth 100000 in
set_option maxHeartbeats 8000000 in
theorem attrsame_any (X Y : AT) (v v' : Value) (w : World) (hv : AtR w X v) (hv' : AtR w Y v') (hn : X.path.length ≤ 100000) (hm : Y.path.length ≤ 100000) : Calls Tryz.prog 190 #[v, v'] w fun e w' => ∃ q : Bool, e = .returned (.bool q) ∧ (q = true ↔ X = Y) ∧ Below w.heap.size w w' := by
 obtain ⟨A, n, c, B, m, d, rfl, hP, hC⟩ := hv; obtain ⟨A2, n2, c2, B2, m2, d2, rfl, hP2, hC2⟩ := hv'; obtain ⟨w1, hw1⟩ : ∃ w1, (w.alloc (.cells (atC X.has X.org A n c X.hop X.med X.pref X.aas X.aid B m d) 28)).alloc (.cells (atC Y.has Y.org A2 n2 c2 Y.hop Y.med Y.pref Y.aas Y.aid B2 m2 d2) 28) = w1 := ⟨_, rfl⟩
 have hb1 : Below w.heap.size w w1 := hw1 ▸ blkBelow2 w _ _; have HK1 : Hid (Blk w1 w.heap.size 28 (atC X.has X.org A n c X.hop X.med X.pref X.aas X.aid B m d)) := hide (hw1 ▸ (Blk.new w _ _).alloc _); have HK2 : Hid (Blk w1 (w.heap.size + 1) 28 (atC Y.has Y.org A2 n2 c2 Y.hop Y.med Y.pref Y.aas Y.aid B2 m2 d2)) := hide (hw1 ▸ blk_new' _ _ (by simp)); have HPs := hide (pathSame_any A A2 n c n2 c2 X.path Y.path w1 (hP.below sgMono hb1) (hP2.below sgMono hb1) (by rw [← hP.1]; exact hn) (by rw [← hP2.1]; exact hm)); have HU := hide (fun W (hb : Below w.heap.size w W) => hC.below hb); have HU2 := hide (fun W (hb : Below w.heap.size w W) => hC2.below hb); have HB1 := hide hb1; have HW1 := hide hw1; clear hw1 hb1 hP hP2 hC hC2 hn hm; have hcase : nuA X = nuA Y ∨ nuA X ≠ nuA Y := Decidable.em _; rcases hcase with hq | hq
 ·have HQ := hide hq; simp only [nuA, List.cons.injEq, and_true] at hq; obtain ⟨h1, h2, h3, h4, h5, h6, h7⟩ := hq; rw [h1, h2, h3, h4, h5, h6, h7] at HK1 HW1; rw [h1, h2, h3, h4, h5, h6, h7]; clear h1 h2 h3 h4 h5 h6 h7; obtain ⟨a0, a1, a2, a3, a4, a5, a6, a7, a8⟩ := blk9 HK1.out; obtain ⟨b0, b1, b2, b3, b4, b5, b6, b7, b8⟩ := blk9 HK2.out
  go_enter Tryz.func190, Tryz.ntmps190
  go_wp2_with fail
  rw [HW1.out]; refine HPs.out.mono ?_; rintro e w2 ⟨q, rfl, hq, hb⟩; have HB2 := hide (HB1.out.trans (hb.mono HB1.out.size)); have HK1 := hide (HK1.out.below hb HK1.out.lt); have HK2 := hide (HK2.out.below hb HK2.out.lt); have HSa := hide (slEqual_any B m d X.comms B2 m2 d2 Y.comms w2 (HU.out w2 HB2.out) (HU2.out w2 HB2.out)); have HPq := hide hq; clear hb hq a0 a1 a2 a3 a4 a5 a6 a7 a8 b0 b1 b2 b3 b4 b5 b6 b7 b8
  cases q with
  | false =>
   go_wp2; go_ret; exact ⟨false, rfl, ⟨fun h => (by cases h), fun h => absurd (HPq.out.2 (by rw [h])) (by simp)⟩, HB2.out⟩
  | true =>
   obtain ⟨a0, a1, a2, a3, a4, a5, a6, a7, a8⟩ := blk9 HK1.out; obtain ⟨b0, b1, b2, b3, b4, b5, b6, b7, b8⟩ := blk9 HK2.out; obtain ⟨q2, hq2⟩ : ∃ q, decide (X.comms = Y.comms) = q := ⟨_, rfl⟩
   rw [hq2] at HSa; have HQ2 := hide hq2; clear hq2
   go_wp2_with fail
   refine HSa.out.mono ?_; rintro e w3 ⟨rfl, hb⟩; have HB3 := hide (HB2.out.trans (hb.mono HB2.out.size)); clear hb a0 a1 a2 a3 a4 a5 a6 a7 a8 b0 b1 b2 b3 b4 b5 b6 b7 b8; go_wp2; go_ret; refine ⟨q2, rfl, ?_, HB3.out⟩; rw [← HQ2.out, decide_eq_true_iff]; exact ⟨fun h => at_ext HQ.out (HPq.out.1 (by simp)) h, fun h => by rw [h]⟩
 ·have HQ := hide hq; clear hq; obtain ⟨a0, a1, a2, a3, a4, a5, a6, a7, a8⟩ := blk9 HK1.out; obtain ⟨b0, b1, b2, b3, b4, b5, b6, b7, b8⟩ := blk9 HK2.out
  go_enter Tryz.func190, Tryz.ntmps190
  go_upto_region 1 with fail
  rw [HW1.out]; go_wp2
  all_goals first
   | (exfalso; refine HQ.out ?_; simp only [nuA, *]; done)
   | (go_ret; exact ⟨false, rfl, ⟨fun h => (by cases h), fun h => absurd (congrArg nuA h) HQ.out⟩, HB1.out⟩)
set_option maxRecDepth 100000 in
theorem attrSame_any (X Y : AT) (v v' : Value) (w : World) (hv : AtR w X v) (hv' : AtR w Y v') (hn : X.path.length ≤ 100000) (hm : Y.path.length ≤ 100000) : Calls Tryz.prog 146 #[v, v'] w fun e w' => ∃ q : Bool, e = .returned (.bool q) ∧ (q = true ↔ X = Y) ∧ Below w.heap.size w w' := by
 obtain ⟨A, n, c, B, m, d, rfl, hP, hC⟩ := hv; obtain ⟨A2, n2, c2, B2, m2, d2, rfl, hP2, hC2⟩ := hv'; obtain ⟨w1, hw1⟩ : ∃ w1, (w.alloc (.cells (atC X.has X.org A n c X.hop X.med X.pref X.aas X.aid B m d) 28)).alloc (.cells (atC Y.has Y.org A2 n2 c2 Y.hop Y.med Y.pref Y.aas Y.aid B2 m2 d2) 28) = w1 := ⟨_, rfl⟩
 have hb1 : Below w.heap.size w w1 := hw1 ▸ blkBelow2 w _ _; have H := hide (attrsame_any X Y (atV X.has X.org A n c X.hop X.med X.pref X.aas X.aid B m d) (atV Y.has Y.org A2 n2 c2 Y.hop Y.med Y.pref Y.aas Y.aid B2 m2 d2) w1 ⟨A, n, c, B, m, d, rfl, hP.below sgMono hb1, hC.below hb1⟩ ⟨A2, n2, c2, B2, m2, d2, rfl, hP2.below sgMono hb1, hC2.below hb1⟩ hn hm); have HB1 := hide hb1; have HW1 := hide hw1; clear hw1 hb1 hP hP2 hC hC2 hn hm
 go_enter Tryz.func146, Tryz.ntmps146
 go_wp2_with fail
 rw [HW1.out]; refine H.out.mono ?_; rintro e w3 ⟨q, rfl, hq, hb3⟩; have HB3 := hide (HB1.out.trans (hb3.mono HB1.out.size)); have HQ := hide hq; clear hb3 hq; go_wp2; go_ret; exact ⟨q, rfl, HQ.out, HB3.out⟩
def eqA (x y : AT) : Bool := decide (nuA x = nuA y) && decide (x.path.map (fun s => (s.k, s.r)) = y.path.map (fun s => (s.k, s.r))) && decide (x.comms = y.comms)
theorem sg_map : ∀ l r : List SG, l.map (fun s => (s.k, s.r)) = r.map (fun s => (s.k, s.r)) → l = r
 | [], [], _ => rfl
 | [], _ :: _, h => by simp at h
 | _ :: _, [], h => by simp at h
 | x :: l, y :: r, h => by
  simp only [List.map_cons, List.cons.injEq, Prod.mk.injEq] at h; obtain ⟨⟨h1, h2⟩, h3⟩ := h; rw [sg_map l r h3]
  cases x; cases y
  simp only at h1 h2; subst h1 h2
  rfl
theorem eqA_iff (x y : AT) : eqA x y = true ↔ x = y := by
 unfold eqA; simp only [Bool.and_eq_true, decide_eq_true_eq]; exact ⟨fun ⟨⟨h1, h2⟩, h3⟩ => at_ext h1 (sg_map _ _ h2) h3, fun h => by subst h; exact ⟨⟨rfl, rfl⟩, rfl⟩⟩
def lackG (o : Tr AT) (z : Nat × Nat × AT) : Bool := match trGet z.1 z.2.1 o with | none => true | some Y => !(eqA Y (normA z.2.2))
set_option maxRecDepth 100000 in
set_option maxHeartbeats 8000000 in
theorem lacksG_any (F F2 : Nat → Prop) (g g2 : Nat) (t o : Tr AT) (w : World) (h : TrT F w g t) (h2 : TrT F2 w g2 o) (hpl : ∀ z ∈ trL t, (normA z.2.2).path.length ≤ 100000) (hpo : ∀ z ∈ trL o, z.2.2.path.length ≤ 100000) :
  Calls Tryz.prog 84 #[.pointer (some ⟨g, 0, none⟩), .pointer (some ⟨g2, 0, none⟩)] w fun e w' => ∃ A' n' c' xs, e = .returned (.slice A' n' c') ∧ LOw 11 71 tdR w' w.heap.size w.heap.size A' n' c' (((trL t).filter (lackG o)).map tdN) xs ∧ Below w.heap.size w w' ∧ (n' = 0 → A' = none ∧ c' = 0) := by
 obtain ⟨i0, hi, hz0, hz1, hz2⟩ := info_parts toldInfo; have HAl := hide (riblist_any F g t w h); have hcn := h.cnt; have HWf := hide h.tree.wf; have HT2 := hide h2; have HPo2 := hide hpo; have HPl := hide hpl; obtain ⟨N, hN⟩ : ∃ N, trCnt t = N := ⟨_, rfl⟩
 rw [hN] at HAl hcn; have HN := hide hN; clear h h2 hpl hpo hN
 go_enter Tryz.func84, Tryz.ntmps84
 go_wp2_with fail
 refine HAl.out.mono ?_; rintro e w1 ⟨A, c, ys, rfl, hl1, hb1⟩; have HL1 := hide hl1; have HB1 := hide hb1; have hNc : N ≤ c := (hl1.lst (by decide)).2.1; have hcm := (hl1.lst (by decide)).2.2.1; unfold maxLen at hcm; have HTw := hide (HT2.out.below hb1); clear hb1 hl1; go_wp2
 go_loopw [5, 13] (fun vo iv wr => ∃ (q n1 : Nat) (A1 : Option Addr) (c1 : Nat) (xs : List Value), q ≤ N ∧ n1 ≤ q ∧ (n1 = 0 → A1 = none ∧ c1 = 0) ∧ iv = .int .i64 (q : Nat) ∧ vo = .slice A1 n1 c1 ∧ LOw 11 71 tdR wr w1.heap.size w.heap.size A1 n1 c1 ((((trL t).take q).filter (lackG o)).map tdN) xs ∧ Below w1.heap.size w1 wr) (fun _ iv _ => N - (intOf iv).toNat)
 case atStart => exact ⟨0, 0, none, 0, [], Nat.zero_le _, Nat.le_refl _, fun _ => ⟨rfl, rfl⟩, rfl, rfl, by simpa using LOw.nil, Below.refl _ _⟩
 case round =>
  obtain ⟨q, n1, A1, c1, xs, hq, hnq, hzn, rfl, rfl, hlo, hbel⟩ := hrel; have HZn := hide hzn; clear hzn; have HLo := hide hlo; have HBe := hide hbel; have hs1 := hbel.size; have hs0 := HB1.out.size; by_cases hlt : q < N
  ·obtain ⟨g3, x, vs, rfl, hg, hgB, hx, hvl, hfr, hcs⟩ := lo_at (by decide) HL1.out hlt; rw [List.getElem?_map] at hx
   obtain ⟨z, hz⟩ : ∃ z, (trL t)[q]? = some z := by
    cases hz : (trL t)[q]? with
    | none => rw [hz] at hx; simp at hx
    | some z => exact ⟨z, rfl⟩
   rw [hz] at hx; simp only [Option.map_some, Option.some.injEq] at hx; subst hx; have hzm := List.mem_of_getElem? hz; obtain ⟨a, m, X⟩ := z; have hPg := trGet_pg t HWf.out ((trL_mem t HWf.out).1 hzm); have HPz := hide (HPl.out _ hzm); have HTk : Hid ((trL t).take (q + 1) = (trL t).take q ++ [(a, m, X)]) := hide (by rw [List.take_add_one, hz]; rfl); simp only at HPz; obtain ⟨Y, hY⟩ : ∃ Y, normA X = Y := ⟨_, rfl⟩
   have hTd : tdN (a, m, X) = ⟨(a : Int), (m : Int), Y⟩ := (by unfold tdN; rw [← hY])
   rw [hTd] at hfr; rw [hY] at HPz; obtain ⟨B1, k1, e1, B2, m2, d2, rfl, hr1, hr2⟩ := hfr.here; have HFr := hide hfr; have HTd := hide hTd; have HPg := hide hPg; have f0 : wr.cell? ⟨g3, q * 11, none⟩ = some (.int .u32 (a : Int)) := (hbel.cell hg).trans (hcs 0 _ rfl); have f1 : wr.cell? ⟨g3, q * 11 + 1, none⟩ = some (.int .i64 (m : Int)) := (hbel.cell hg).trans (hcs 1 _ rfl); have f2 : wr.cell? ⟨g3, q * 11 + 2, none⟩ = some (.int .i64 Y.has) := (hbel.cell hg).trans (hcs 2 _ rfl); have f3 : wr.cell? ⟨g3, q * 11 + 3, none⟩ = some (.int .i64 Y.org) := (hbel.cell hg).trans (hcs 3 _ rfl); have f4 : wr.cell? ⟨g3, q * 11 + 4, none⟩ = some (.slice B1 k1 e1) := (hbel.cell hg).trans (hcs 4 _ rfl); have f5 : wr.cell? ⟨g3, q * 11 + 5, none⟩ = some (.int .u32 Y.hop) := (hbel.cell hg).trans (hcs 5 _ rfl); have f6 : wr.cell? ⟨g3, q * 11 + 6, none⟩ = some (.int .u32 Y.med) := (hbel.cell hg).trans (hcs 6 _ rfl); have f7 : wr.cell? ⟨g3, q * 11 + 7, none⟩ = some (.int .u32 Y.pref) := (hbel.cell hg).trans (hcs 7 _ rfl); have f8 : wr.cell? ⟨g3, q * 11 + 8, none⟩ = some (.int .u32 Y.aas) := (hbel.cell hg).trans (hcs 8 _ rfl); have f9 : wr.cell? ⟨g3, q * 11 + 9, none⟩ = some (.int .u32 Y.aid) := (hbel.cell hg).trans (hcs 9 _ rfl); have f10 : wr.cell? ⟨g3, q * 11 + 10, none⟩ = some (.slice B2 m2 d2) := (hbel.cell hg).trans (hcs 10 _ rfl); obtain ⟨w2, hw2⟩ : ∃ W, wr.alloc (.cells #[.int .u32 (a : Int), .int .i64 (m : Int), .int .i64 Y.has, .int .i64 Y.org, .slice B1 k1 e1, .int .u32 Y.hop, .int .u32 Y.med, .int .u32 Y.pref, .int .u32 Y.aas, .int .u32 Y.aid, .slice B2 m2 d2] 71) = W := ⟨_, rfl⟩
   have hb2 : Below wr.heap.size wr w2 := hw2 ▸ blkBelow1 wr _; have HX2 : Hid (Blk w2 wr.heap.size 71 #[.int .u32 (a : Int), .int .i64 (m : Int), .int .i64 Y.has, .int .i64 Y.org, .slice B1 k1 e1, .int .u32 Y.hop, .int .u32 Y.med, .int .u32 Y.pref, .int .u32 Y.aas, .int .u32 Y.aid, .slice B2 m2 d2]) := hide (hw2 ▸ Blk.new wr _ _); have HT3 := (HTw.out.below hbel).below hb2; have HGt := hide (getA_any (R := atR) g2 a m o w2 hPg HT3.root HT3.tree.mem HT3.tree.wf HT3.low); have HW2 := hide hw2; have HB2 := hide hb2; have HR1 := hide (hr1.below sgMono hbel); have HR2 := hide (hr2.below hbel); have q1 : (q : Int) < (N : Int) := (by omega)
   have q0 : (0 : Int) ≤ (q : Int) := (by omega)
   have hwq : IntKind.i64.wrap ((q : Int) + 1) = (q : Int) + 1 := (by rw [IntKind.wrap_i64]; omega)
   cases hgo : trGet a m o with
   | none =>
    have HPo : Hid (lackG o (a, m, X) = true) := hide (by unfold lackG; simp only; rw [hgo]); rw [hgo] at HGt; clear hlo hbel hcs hz hzm hPg hY hTd hfr hr1 hr2 hw2 hb2 HT3 hgo hvl
    go_wp2_with fail
    rw [HW2.out]; refine HGt.out.mono ?_; rintro e w3 ⟨hb3, rfl⟩; have HX3 := hide (HX2.out.below hb3 HX2.out.lt); have HB3 := hide (HB2.out.trans (hb3.mono HB2.out.size)); clear hb3 HGt f0 f1 f2 f3 f4 f5 f6 f7 f8 f9 f10; obtain ⟨w4, hw4⟩ : ∃ W, w3.alloc (.cells #[.int .i64 0, .int .i64 0, .slice none 0 0, .int .u32 0, .int .u32 0, .int .u32 0, .int .u32 0, .int .u32 0, .slice none 0 0] 28) = W := ⟨_, rfl⟩
    have hb4 : Below w3.heap.size w3 w4 := hw4 ▸ blkBelow1 w3 _; have HX4 := hide (HX3.out.below hb4 HX3.out.lt); have HB4 := hide (HB3.out.trans (hb4.mono HB3.out.size)); have HW4 := hide hw4; clear hw4 hb4
    go_upto_region 6 with fail
    rw [HW4.out]; have HB4s := HB4.out.size; have x0 : w4.cell? ⟨wr.heap.size, 0, none⟩ = some (.int .u32 (a : Int)) := HX4.out.cell 0; have x1 : w4.cell? ⟨wr.heap.size, 1, none⟩ = some (.int .i64 (m : Int)) := HX4.out.cell 1; have x2 : w4.cell? ⟨wr.heap.size, 2, none⟩ = some (.int .i64 Y.has) := HX4.out.cell 2; have x3 : w4.cell? ⟨wr.heap.size, 3, none⟩ = some (.int .i64 Y.org) := HX4.out.cell 3; have x4 : w4.cell? ⟨wr.heap.size, 4, none⟩ = some (.slice B1 k1 e1) := HX4.out.cell 4; have x5 : w4.cell? ⟨wr.heap.size, 5, none⟩ = some (.int .u32 Y.hop) := HX4.out.cell 5; have x6 : w4.cell? ⟨wr.heap.size, 6, none⟩ = some (.int .u32 Y.med) := HX4.out.cell 6; have x7 : w4.cell? ⟨wr.heap.size, 7, none⟩ = some (.int .u32 Y.pref) := HX4.out.cell 7; have x8 : w4.cell? ⟨wr.heap.size, 8, none⟩ = some (.int .u32 Y.aas) := HX4.out.cell 8; have x9 : w4.cell? ⟨wr.heap.size, 9, none⟩ = some (.int .u32 Y.aid) := HX4.out.cell 9; have x10 : w4.cell? ⟨wr.heap.size, 10, none⟩ = some (.slice B2 m2 d2) := HX4.out.cell 10
    go_wp2_with (at_builtin; refine wpList_append_any _ rfl (.tmp 33) (.tmp 35) 51 rfl w1.heap.size 71 i0 _ 11 104 Tryz.underlying51 hi hz0 hz1 hz2 rfl (by decide) (.slice A1 n1 c1) n1 xs rfl ((HLo.out.below HB4.out).1.alloc _) (w4.heap.size + 1) (some ⟨w4.heap.size, 0, none⟩) 1 1 [.int .u32 (a : Int), .int .i64 (m : Int), .int .i64 Y.has, .int .i64 Y.org, .slice B1 k1 e1, .int .u32 Y.hop, .int .u32 Y.med, .int .u32 Y.pref, .int .u32 Y.aas, .int .u32 Y.aid, .slice B2 m2 d2] rfl (reads_blkN (Blk.new _ _ _) (by simp) rfl rfl) (by simp [Value.oneCell']) (by unfold maxLen; omega) (by omega) (by simp; omega) ?_; intro v' w9 h5 h6 h7; obtain ⟨A4, c4, rfl, hlo4⟩ := LOw.push ((HLo.out.below HB4.out).below (blkBelow1 w4 _)) (chunk1_fr rfl (frb_switch HFr.out (HBe.out.trans ((HB4.out.trans ((blkBelow1 w4 _).mono HB4s)).mono HBe.out.size)) (fun k hk => own_low_block HLo.out.1 k hk))) h5 h6 h7; have HL9 := hide hlo4; have HB9 := hide ((HBe.out.trans ((HB4.out.trans ((blkBelow1 w4 _).mono HB4s)).mono HBe.out.size)).grown h6 (by simp; omega) (fun k hk => own_low_block HLo.out.1 k hk)); clear hlo4 h5 h6 h7)
    go_roundw
    case rel =>
     have e : (((trL t).take (q + 1)).filter (lackG o)).map tdN = (((trL t).take q).filter (lackG o)).map tdN ++ [⟨(a : Int), (m : Int), Y⟩] := by
      rw [HTk.out, List.filter_append, List.map_append]; simp [HPo.out, HTd.out]
     exact ⟨q + 1, n1 + 1, A4, c4, _, by omega, by omega, fun h => absurd h (by omega), by go_num, rfl, by rw [e]; exact HL9.out, HB9.out⟩
    case measure => simp [intOf]; omega
   | some Y2 =>
    have HPe : Hid (lackG o (a, m, X) = !(eqA Y2 Y)) := hide (by unfold lackG; simp only; rw [hgo]; simp only; rw [hY]); have HPz2 := hide (HPo2.out _ ((trL_mem o HT3.tree.wf).2 hgo)); simp only at HPz2; rw [hgo] at HGt; clear hlo hbel hcs hz hzm hPg hY hTd hfr hr1 hr2 hw2 hb2 HT3 hgo hvl
    go_wp2_with fail
    rw [HW2.out]; refine HGt.out.mono ?_; rintro e w3 ⟨hb3, v0, v1, v2, v3, v4, v5, v6, v7, v8, rfl, hfr⟩; obtain ⟨XA, xn, xc, XB, xm, xd, hv, hxr, hxu⟩ := frs_here hfr; simp only [Value.agg.injEq, Array.mk.injEq, List.cons.injEq, and_true] at hv; obtain ⟨rfl, rfl, rfl, rfl, rfl, rfl, rfl, rfl, rfl⟩ := hv; have HX3 := hide (HX2.out.below hb3 HX2.out.lt); have HB3 := hide (HB2.out.trans (hb3.mono HB2.out.size)); obtain ⟨w4, hw4⟩ : ∃ W, w3.alloc (.cells #[.int .i64 Y2.has, .int .i64 Y2.org, .slice XA xn xc, .int .u32 Y2.hop, .int .u32 Y2.med, .int .u32 Y2.pref, .int .u32 Y2.aas, .int .u32 Y2.aid, .slice XB xm xd] 28) = W := ⟨_, rfl⟩
    have hb4 : Below w3.heap.size w3 w4 := hw4 ▸ blkBelow1 w3 _; have HV4 : Hid (Blk w4 w3.heap.size 28 #[.int .i64 Y2.has, .int .i64 Y2.org, .slice XA xn xc, .int .u32 Y2.hop, .int .u32 Y2.med, .int .u32 Y2.pref, .int .u32 Y2.aas, .int .u32 Y2.aid, .slice XB xm xd]) := hide (hw4 ▸ Blk.new w3 _ _); have HX4 := hide (HX3.out.below hb4 HX3.out.lt); have HB4 := hide (HB3.out.trans (hb4.mono HB3.out.size)); have HSm := hide (attrSame_any Y2 Y (atV Y2.has Y2.org XA xn xc Y2.hop Y2.med Y2.pref Y2.aas Y2.aid XB xm xd) (atV Y.has Y.org B1 k1 e1 Y.hop Y.med Y.pref Y.aas Y.aid B2 m2 d2) w4 ⟨XA, xn, xc, XB, xm, xd, rfl, hxr.below sgMono hb4, hxu.below hb4⟩ ⟨B1, k1, e1, B2, m2, d2, rfl, HR1.out.below sgMono HB4.out, HR2.out.below HB4.out⟩ HPz2.out HPz.out); have HW4 := hide hw4; clear hb3 hfr hxr hxu hw4 hb4 HGt f0 f1 f2 f3 f4 f5 f6 f7 f8 f9 f10
    go_upto_region 6 with fail
    rw [HW4.out]; have HB4s := HB4.out.size; have x0 : w4.cell? ⟨wr.heap.size, 0, none⟩ = some (.int .u32 (a : Int)) := HX4.out.cell 0; have x1 : w4.cell? ⟨wr.heap.size, 1, none⟩ = some (.int .i64 (m : Int)) := HX4.out.cell 1; have x2 : w4.cell? ⟨wr.heap.size, 2, none⟩ = some (.int .i64 Y.has) := HX4.out.cell 2; have x3 : w4.cell? ⟨wr.heap.size, 3, none⟩ = some (.int .i64 Y.org) := HX4.out.cell 3; have x4 : w4.cell? ⟨wr.heap.size, 4, none⟩ = some (.slice B1 k1 e1) := HX4.out.cell 4; have x5 : w4.cell? ⟨wr.heap.size, 5, none⟩ = some (.int .u32 Y.hop) := HX4.out.cell 5; have x6 : w4.cell? ⟨wr.heap.size, 6, none⟩ = some (.int .u32 Y.med) := HX4.out.cell 6; have x7 : w4.cell? ⟨wr.heap.size, 7, none⟩ = some (.int .u32 Y.pref) := HX4.out.cell 7; have x8 : w4.cell? ⟨wr.heap.size, 8, none⟩ = some (.int .u32 Y.aas) := HX4.out.cell 8; have x9 : w4.cell? ⟨wr.heap.size, 9, none⟩ = some (.int .u32 Y.aid) := HX4.out.cell 9; have x10 : w4.cell? ⟨wr.heap.size, 10, none⟩ = some (.slice B2 m2 d2) := HX4.out.cell 10; have u0 : w4.cell? ⟨w3.heap.size, 0, none⟩ = some (.int .i64 Y2.has) := HV4.out.cell 0; have u1 : w4.cell? ⟨w3.heap.size, 1, none⟩ = some (.int .i64 Y2.org) := HV4.out.cell 1; have u2 : w4.cell? ⟨w3.heap.size, 2, none⟩ = some (.slice XA xn xc) := HV4.out.cell 2; have u3 : w4.cell? ⟨w3.heap.size, 3, none⟩ = some (.int .u32 Y2.hop) := HV4.out.cell 3; have u4 : w4.cell? ⟨w3.heap.size, 4, none⟩ = some (.int .u32 Y2.med) := HV4.out.cell 4; have u5 : w4.cell? ⟨w3.heap.size, 5, none⟩ = some (.int .u32 Y2.pref) := HV4.out.cell 5; have u6 : w4.cell? ⟨w3.heap.size, 6, none⟩ = some (.int .u32 Y2.aas) := HV4.out.cell 6; have u7 : w4.cell? ⟨w3.heap.size, 7, none⟩ = some (.int .u32 Y2.aid) := HV4.out.cell 7; have u8 : w4.cell? ⟨w3.heap.size, 8, none⟩ = some (.slice XB xm xd) := HV4.out.cell 8
    go_wp2_with fail
    refine HSm.out.mono ?_; rintro e w6 ⟨q6, rfl, hq6, hb6⟩
    cases q6 with
    | true =>
     have HEq6 : Hid (eqA Y2 Y = true) := hide ((eqA_iff Y2 Y).2 (hq6.1 (by simp))); clear hq6; have HB6 := hide (HBe.out.trans ((HB4.out.trans (hb6.mono HB4s)).mono HBe.out.size)); have HL6 := hide ((HLo.out.below HB4.out).below hb6); clear hb6; go_wp2
     go_roundw
     case rel =>
      have e : (((trL t).take (q + 1)).filter (lackG o)).map tdN = (((trL t).take q).filter (lackG o)).map tdN := by
       rw [HTk.out, List.filter_append, List.map_append]; simp [HPe.out, HEq6.out]
      exact ⟨q + 1, n1, A1, c1, xs, by omega, by omega, HZn.out, by go_num, rfl, by rw [e]; exact HL6.out, HB6.out⟩
     case measure => simp [intOf]; omega
    | false =>
     have HEq6 : Hid (eqA Y2 Y = false) := hide (by rw [Bool.eq_false_iff]; intro h; exact absurd (hq6.2 ((eqA_iff Y2 Y).1 h)) (by simp)); have HX6 := hide (HX4.out.below hb6 HX4.out.lt); have HB6 := hide (HB4.out.trans (hb6.mono HB4s)); have HB6s := HB6.out.size; clear hq6 hb6 x0 x1 x2 x3 x4 x5 x6 x7 x8 x9 x10 u0 u1 u2 u3 u4 u5 u6 u7 u8; have x0 : w6.cell? ⟨wr.heap.size, 0, none⟩ = some (.int .u32 (a : Int)) := HX6.out.cell 0; have x1 : w6.cell? ⟨wr.heap.size, 1, none⟩ = some (.int .i64 (m : Int)) := HX6.out.cell 1; have x2 : w6.cell? ⟨wr.heap.size, 2, none⟩ = some (.int .i64 Y.has) := HX6.out.cell 2; have x3 : w6.cell? ⟨wr.heap.size, 3, none⟩ = some (.int .i64 Y.org) := HX6.out.cell 3; have x4 : w6.cell? ⟨wr.heap.size, 4, none⟩ = some (.slice B1 k1 e1) := HX6.out.cell 4; have x5 : w6.cell? ⟨wr.heap.size, 5, none⟩ = some (.int .u32 Y.hop) := HX6.out.cell 5; have x6 : w6.cell? ⟨wr.heap.size, 6, none⟩ = some (.int .u32 Y.med) := HX6.out.cell 6; have x7 : w6.cell? ⟨wr.heap.size, 7, none⟩ = some (.int .u32 Y.pref) := HX6.out.cell 7; have x8 : w6.cell? ⟨wr.heap.size, 8, none⟩ = some (.int .u32 Y.aas) := HX6.out.cell 8; have x9 : w6.cell? ⟨wr.heap.size, 9, none⟩ = some (.int .u32 Y.aid) := HX6.out.cell 9; have x10 : w6.cell? ⟨wr.heap.size, 10, none⟩ = some (.slice B2 m2 d2) := HX6.out.cell 10
     go_wp2_with (at_builtin; refine wpList_append_any _ rfl (.tmp 33) (.tmp 35) 51 rfl w1.heap.size 71 i0 _ 11 104 Tryz.underlying51 hi hz0 hz1 hz2 rfl (by decide) (.slice A1 n1 c1) n1 xs rfl ((HLo.out.below HB6.out).1.alloc _) (w6.heap.size + 1) (some ⟨w6.heap.size, 0, none⟩) 1 1 [.int .u32 (a : Int), .int .i64 (m : Int), .int .i64 Y.has, .int .i64 Y.org, .slice B1 k1 e1, .int .u32 Y.hop, .int .u32 Y.med, .int .u32 Y.pref, .int .u32 Y.aas, .int .u32 Y.aid, .slice B2 m2 d2] rfl (reads_blkN (Blk.new _ _ _) (by simp) rfl rfl) (by simp [Value.oneCell']) (by unfold maxLen; omega) (by omega) (by simp; omega) ?_; intro v' w9 h5 h6 h7; obtain ⟨A4, c4, rfl, hlo4⟩ := LOw.push ((HLo.out.below HB6.out).below (blkBelow1 w6 _)) (chunk1_fr rfl (frb_switch HFr.out (HBe.out.trans ((HB6.out.trans ((blkBelow1 w6 _).mono HB6s)).mono HBe.out.size)) (fun k hk => own_low_block HLo.out.1 k hk))) h5 h6 h7; have HL9 := hide hlo4; have HB9 := hide ((HBe.out.trans ((HB6.out.trans ((blkBelow1 w6 _).mono HB6s)).mono HBe.out.size)).grown h6 (by simp; omega) (fun k hk => own_low_block HLo.out.1 k hk)); clear hlo4 h5 h6 h7)
     go_roundw
     case rel =>
      have e : (((trL t).take (q + 1)).filter (lackG o)).map tdN = (((trL t).take q).filter (lackG o)).map tdN ++ [⟨(a : Int), (m : Int), Y⟩] := by
       rw [HTk.out, List.filter_append, List.map_append]; simp [HPe.out, HEq6.out, HTd.out]
      exact ⟨q + 1, n1 + 1, A4, c4, _, by omega, by omega, fun h => absurd h (by omega), by go_num, rfl, by rw [e]; exact HL9.out, HB9.out⟩
     case measure => simp [intOf]; omega
  ·obtain rfl : q = N := (by omega)
   have e1 : decide ((q : Int) < (q : Int)) = false := (by simp)
   have hall : (trL t).take q = trL t := List.take_of_length_le (by rw [trL_len, HN.out]; exact Nat.le_refl _); rw [hall] at hlo; have HLf := hide hlo; clear hlo hbel hlt HLo hall; go_wp2; go_ret; exact ⟨A1, n1, c1, xs, rfl, HLf.out.less HB1.out.size (Nat.le_refl _), HB1.out.trans (HBe.out.mono HB1.out.size), HZn.out⟩
set_option maxRecDepth 100000 in
set_option maxHeartbeats 4000000 in
theorem putnilA_any (a n : Nat) (vh vo : Int) (vA : Option Addr) (vn vc : Nat) (vp vm vf vs vi : Int) (vB : Option Addr) (vk vd : Nat) (w : World) :
  Calls Tryz.prog 141 #[.pointer none, .agg #[.int .u32 (a : Int), .int .i64 (n : Int)], .agg #[.int .i64 vh, .int .i64 vo, .slice vA vn vc, .int .u32 vp, .int .u32 vm, .int .u32 vf, .int .u32 vs, .int .u32 vi, .slice vB vk vd]] w fun e w' => ∃ b, e = .returned (.pointer (some ⟨b, 0, none⟩)) ∧ w.heap.size ≤ b ∧ Blk w' b 205 (ndC a n [.int .i64 vh, .int .i64 vo, .slice vA vn vc, .int .u32 vp, .int .u32 vm, .int .u32 vf, .int .u32 vs, .int .u32 vi, .slice vB vk vd] true 1 (.pointer none) (.pointer none)) ∧ Below w.heap.size w w' := by
 have HB := hide (blkBelow3q w (.cells #[.int .u32 (a : Int), .int .i64 (n : Int)] 24) (.cells #[.int .i64 vh, .int .i64 vo, .slice vA vn vc, .int .u32 vp, .int .u32 vm, .int .u32 vf, .int .u32 vs, .int .u32 vi, .slice vB vk vd] 28) (.cells (ndC a n [.int .i64 vh, .int .i64 vo, .slice vA vn vc, .int .u32 vp, .int .u32 vm, .int .u32 vf, .int .u32 vs, .int .u32 vi, .slice vB vk vd] true 1 (.pointer none) (.pointer none)) 205)); have HK : Hid (Blk (((w.alloc (.cells #[.int .u32 (a : Int), .int .i64 (n : Int)] 24)).alloc (.cells #[.int .i64 vh, .int .i64 vo, .slice vA vn vc, .int .u32 vp, .int .u32 vm, .int .u32 vf, .int .u32 vs, .int .u32 vi, .slice vB vk vd] 28)).alloc (.cells (ndC a n [.int .i64 vh, .int .i64 vo, .slice vA vn vc, .int .u32 vp, .int .u32 vm, .int .u32 vf, .int .u32 vs, .int .u32 vi, .slice vB vk vd] true 1 (.pointer none) (.pointer none)) 205)) (w.heap.size + 1 + 1) 205 (ndC a n [.int .i64 vh, .int .i64 vo, .slice vA vn vc, .int .u32 vp, .int .u32 vm, .int .u32 vf, .int .u32 vs, .int .u32 vi, .slice vB vk vd] true 1 (.pointer none) (.pointer none))) := hide (blk_new' _ _ (by simp))
 go_enter Tryz.func141, Tryz.ntmps141
 go_wp2; go_ret; exact ⟨w.heap.size + 1 + 1, rfl, by omega, HK.out, HB.out⟩
theorem atok_norm {X : AT} (h : AtOk X) : AtOk (normA X) := by
 refine ⟨?_, ?_⟩
 ·show numS (if attB X.has 2 then normS X.path else []) ≤ 10000; split
  ·have := numS_norm X.path; have := h.1; omega
  ·simp [numS]
 ·show (if attB X.has 8 then setOf X.comms else []).length ≤ 10000; split
  ·have := setOf_len X.comms; have := h.2; omega
  ·simp
theorem ato_frs {b : Nat} {w : World} {x : AT} {A : Option Addr} {n c : Nat} {B : Option Addr} {m d : Nat} {xs : List Value} (h1 : LOw 2 133 sgR w b b A n c x.path xs) (h2 : FrB b none (fun w => U32s w B m d x.comms) w) :
  FrS (fun k => b ≤ k ∧ k < w.heap.size) none (fun w => atR w [.int .i64 x.has, .int .i64 x.org, .slice A n c, .int .u32 x.hop, .int .u32 x.med, .int .u32 x.pref, .int .u32 x.aas, .int .u32 x.aid, .slice B m d] x) w :=
 frs_of_frb (((h1.fr (by decide) (Nat.le_refl _)).and h2).imp fun w h => ⟨A, n, c, B, m, d, rfl, h.1, h.2⟩)
end Go.Proofs.YtcinjckajnnhmaaGreat
namespace Go.Proofs.YtcinjckajnnhmaaGreat
open Go.RowKit Go.WideShapes Go.ChangeShapes
section
variable {α : Type} {sz : Nat} {T : TypeId} {F : Nat → Prop} {R : World → List Value → α → Prop} {w w9 w11 : World} {b p m b0 : Nat} {v : Option α} {l r t2 : Tr α} {vs us : List Value} {x : α}
theorem ndWhole (hc : ChgS (fun k => k ∈ trB l ∨ k = b) w w11) : ChgS (fun k => k ∈ trB (.nd b p m v l r)) w w11 := chg_mono hc fun k h => .inl (by
  rcases h with h | h
  · simp [trB, h]
  · simp [trB, h])
theorem ndWholeR (hc : ChgS (fun k => k ∈ trB r ∨ k = b) w w11) : ChgS (fun k => k ∈ trB (.nd b p m v l r)) w w11 := chg_mono hc fun k h => .inl (by
  rcases h with h | h
  · simp [trB, h]
  · simp [trB, h])
theorem nd_left (hd : NdA sz T F R w b p m v l r vs) (hw : trWf (.nd b p m v t2 r)) (h2 : TrA sz T F R w9 t2) (hsub : ∀ k ∈ trB t2, k ∈ trB l ∨ w.heap.size ≤ k) (hc : ChgS (fun k => k ∈ trB l ∨ k = b) w w11) (hc2 : ChgS (fun k => k = b) w9 w11)
  (hk : Blk w11 b T (ndC p m vs v.isSome (trCnt t2 + trCnt r + (if v.isSome then 1 else 0)) (trPtr t2) (trPtr r))) : TrA sz T F R w11 (.nd b p m v t2 r) ∧ ∀ k ∈ trB (.nd b p m v t2 r), k ∈ trB (.nd b p m v l r) ∨ w.heap.size ≤ k := by
 have hbl : b < w.heap.size := hd.blk.lt; have hb2 : b ∉ trB t2 := fun h => (hsub b h).elim hd.bl (fun h => by omega); refine ⟨NdA.tree (vs := vs) ⟨hd.len, hk, fun y e => frs_chg (hd.val y e) hc (fun k hF h => ?_), h2.chg hc2 (fun k hk e => hb2 (e ▸ hk)) (fun k hF e => hd.bf (e ▸ hF)), hd.right.chg hc (fun k hq h => ?_) (fun k hF h => ?_), hw, hb2, hd.br, hd.bf, fun k hk h => ?_⟩, fun k hk => ?_⟩
 ·rcases h with h | rfl
  ·exact hd.left.far k h hF
  ·exact hd.bf hF
 ·rcases h with h | rfl
  ·exact hd.lr k h hq
  ·exact hd.br hq
 ·rcases h with h | rfl
  ·exact hd.left.far k h hF
  ·exact hd.bf hF
 ·rcases hsub k hk with h1 | h1
  ·exact hd.lr k h1 h
  ·have := hd.right.mem.lt k h; omega
 ·simp only [trB, List.mem_cons, List.mem_append] at hk ⊢; rcases hk with rfl | hk | hk
  ·exact .inl (.inl rfl)
  ·exact (hsub k hk).imp (fun h => .inr (.inl h)) id
  ·exact .inl (.inr (.inr hk))
theorem nd_right (hd : NdA sz T F R w b p m v l r vs) (hw : trWf (.nd b p m v l t2)) (h2 : TrA sz T F R w9 t2) (hsub : ∀ k ∈ trB t2, k ∈ trB r ∨ w.heap.size ≤ k) (hc : ChgS (fun k => k ∈ trB r ∨ k = b) w w11) (hc2 : ChgS (fun k => k = b) w9 w11)
  (hk : Blk w11 b T (ndC p m vs v.isSome (trCnt l + trCnt t2 + (if v.isSome then 1 else 0)) (trPtr l) (trPtr t2))) : TrA sz T F R w11 (.nd b p m v l t2) ∧ ∀ k ∈ trB (.nd b p m v l t2), k ∈ trB (.nd b p m v l r) ∨ w.heap.size ≤ k := by
 have hbl : b < w.heap.size := hd.blk.lt; have hb2 : b ∉ trB t2 := fun h => (hsub b h).elim hd.br (fun h => by omega); refine ⟨NdA.tree (vs := vs) ⟨hd.len, hk, fun y e => frs_chg (hd.val y e) hc (fun k hF h => ?_), hd.left.chg hc (fun k hq h => ?_) (fun k hF h => ?_), h2.chg hc2 (fun k hk e => hb2 (e ▸ hk)) (fun k hF e => hd.bf (e ▸ hF)), hw, hd.bl, hb2, hd.bf, fun k hk h => ?_⟩, fun k hk => ?_⟩
 ·rcases h with h | rfl
  ·exact hd.right.far k h hF
  ·exact hd.bf hF
 ·rcases h with h | rfl
  ·exact hd.lr k hq h
  ·exact hd.bl hq
 ·rcases h with h | rfl
  ·exact hd.right.far k h hF
  ·exact hd.bf hF
 ·rcases hsub k h with h1 | h1
  ·exact hd.lr k hk h1
  ·have := hd.left.mem.lt k hk; omega
 ·simp only [trB, List.mem_cons, List.mem_append] at hk ⊢; rcases hk with rfl | hk | hk
  ·exact .inl (.inl rfl)
  ·exact .inl (.inr (.inl hk))
  ·exact (hsub k hk).imp (fun h => .inr (.inr h)) id
theorem nd_here (hd : NdA sz T F R w b p m v l r vs) (hu : VOk sz us) (hx : FrS F none (fun w => R w us x) w) (hc : ChgS (fun k => k = b) w w11)
  (hk : Blk w11 b T (ndC p m us true (trCnt l + trCnt r + 1) (trPtr l) (trPtr r))) : TrA sz T F R w11 (.nd b p m (some x) l r) := by
 have hF : ∀ k, F k → ¬ (k = b) := fun k h e => hd.bf (e ▸ h); exact NdA.tree (vs := us) ⟨hu, hk, fun y e => by injection e with e; subst e; exact frs_chg hx hc hF, hd.left.chg hc (fun k hk e => hd.bl (e ▸ hk)) hF, hd.right.chg hc (fun k hk e => hd.br (e ▸ hk)) hF, hd.wf, hd.bl, hd.br, hd.bf, hd.lr⟩
theorem nd_new (h1 : TrA sz T F R w l) (h2 : TrA sz T F R w r) (hlow : ∀ k, F k → k < w.heap.size) (hw : trWf (.nd b0 p m v l r)) (hu : VOk sz us) (hx : ∀ y, v = some y → FrS F none (fun w => R w us y) w) (hb : w.heap.size ≤ b0) (hlr : ∀ k ∈ trB l, k ∉ trB r) (hc : ChgS (fun _ => False) w w11)
  (hk : Blk w11 b0 T (ndC p m us v.isSome (trCnt l + trCnt r + (if v.isSome then 1 else 0)) (trPtr l) (trPtr r))) : TrA sz T F R w11 (.nd b0 p m v l r) :=
 NdA.tree (vs := us) ⟨hu, hk, fun y e => frs_chg (hx y e) hc (by simp), h1.chg hc (by simp) (by simp), h2.chg hc (by simp) (by simp), hw, fun h => by have := h1.mem.lt _ h; omega, fun h => by have := h2.mem.lt _ h; omega, fun h => by have := hlow _ h; omega, hlr⟩
end
end Go.Proofs.YtcinjckajnnhmaaGreat
