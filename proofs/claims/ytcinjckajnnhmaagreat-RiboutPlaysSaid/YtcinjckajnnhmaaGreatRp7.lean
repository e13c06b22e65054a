import Derived.Test.YtcinjckajnnhmaaGreatRp6
set_option linter.unusedSimpArgs false
set_option linter.unusedVariables false
namespace Go.Proofs.YtcinjckajnnhmaaGreat
open Go.RowKit Go.WideShapes Go.ChangeShapes
attribute [local go_sem] Oper.semAt_some
def Both5 (w2 W : World) (S : Nat → Prop) (b : Nat) (T : TypeId) (cs : Array Value) : Prop := Blk W b T cs ∧ ChgS S w2 W
def EffC (H i : Nat) (vs : List Value) (wa wb : World) : Prop := wb = wa.setCells H i vs
theorem effC_blk {H i g : Nat} {vs : List Value} {wa wb : World} {t : TypeId} {cs : Array Value} (he : EffC H i vs wa wb) (hne : g ≠ H) (h : Blk wa g t cs) : Blk wb g t cs := by
 unfold EffC at he; subst he; exact blk_sets_far hne vs i h
theorem effC_chg {H i : Nat} {S : Nat → Prop} {vs : List Value} {w wa wb : World} (he : EffC H i vs wa wb) (hc : ChgS S w wa) (hs : S H) : ChgS S w wb := by
 unfold EffC at he; subst he; exact chg_trans hc (chg_sets (S := fun k => k = H) rfl vs i) (fun k h => .inl (by rw [h]; exact hs))
theorem below0_sets {H : Nat} : ∀ (vs : List Value) (i : Nat) (w : World), Below 0 w (w.setCells H i vs)
 | [], _, w => Below.refl 0 w
 | v :: vs, i, w => ((Below.refl 0 w).setCell (p := ⟨H, i, none⟩) (Nat.zero_le _) v).trans (below0_sets vs (i + 1) _)
theorem effC_below {H i : Nat} {vs : List Value} {wa wb : World} (he : EffC H i vs wa wb) : Below 0 wa wb := by
 unfold EffC at he; subst he; exact below0_sets vs i wa
theorem trFind_key {α : Type} {a n b p m : Nat} {v : Option α} {l0 r0 : Tr α} : ∀ t : Tr α, trFind a n t = .nd b p m v l0 r0 → p = a ∧ m = n
 | .nil, h => by simp [trFind] at h
 | .nd b1 p1 m1 v1 l r, h => by
   unfold trFind at h; split at h
   ·split at h
    ·rename_i he; injection h with _ e2 e3
     subst e2 e3; exact he
    ·split at h
     ·exact trFind_key l h
     ·exact trFind_key r h
   ·cases h
set_option maxRecDepth 100000 in
set_option maxHeartbeats 4000000 in
theorem stA_box {w : World} {R : Nat} {v0 v1 v2 v3 v4 v5 v6 v7 v8 : Value} (hk : Blk w R 28 #[.int .i64 0, .int .i64 0, .slice none 0 0, .int .u32 0, .int .u32 0, .int .u32 0, .int .u32 0, .int .u32 0, .slice none 0 0]) (h1 : ∀ u ∈ [v0, v1, v2, v3, v4, v5, v6, v7, v8], u.oneCell' = true) : (Instr.storeAt 28 (.pointer (some ⟨R, 0, none⟩)) (.agg #[v0, v1, v2, v3, v4, v5, v6, v7, v8])).run Tryz.prog w = .ok () (w.setCells R 0 [v0, v1, v2, v3, v4, v5, v6, v7, v8]) := by
 have z0 : w.cell? ⟨R, 0, none⟩ = some (.int .i64 0) := hk.cell 0; have z1 : w.cell? ⟨R, 1, none⟩ = some (.int .i64 0) := hk.cell 1; have z2 : w.cell? ⟨R, 2, none⟩ = some (.slice none 0 0) := hk.cell 2; have z3 : w.cell? ⟨R, 3, none⟩ = some (.int .u32 0) := hk.cell 3; have z4 : w.cell? ⟨R, 4, none⟩ = some (.int .u32 0) := hk.cell 4; have z5 : w.cell? ⟨R, 5, none⟩ = some (.int .u32 0) := hk.cell 5; have z6 : w.cell? ⟨R, 6, none⟩ = some (.int .u32 0) := hk.cell 6; have z7 : w.cell? ⟨R, 7, none⟩ = some (.int .u32 0) := hk.cell 7; have z8 : w.cell? ⟨R, 8, none⟩ = some (.slice none 0 0) := hk.cell 8; have zf := fun i => hk.frozen i; have o0 := runS Tryz.prog v0 (h1 v0 (by simp)); have o1 := runS Tryz.prog v1 (h1 v1 (by simp)); have o2 := runS Tryz.prog v2 (h1 v2 (by simp)); have o3 := runS Tryz.prog v3 (h1 v3 (by simp)); have o4 := runS Tryz.prog v4 (h1 v4 (by simp)); have o5 := runS Tryz.prog v5 (h1 v5 (by simp)); have o6 := runS Tryz.prog v6 (h1 v6 (by simp)); have o7 := runS Tryz.prog v7 (h1 v7 (by simp)); have o8 := runS Tryz.prog v8 (h1 v8 (by simp)); simp [go_sem, z0, z1, z2, z3, z4, z5, z6, z7, z8, zf, o0, o1, o2, o3, o4, o5, o6, o7, o8, World.setCells]
set_option maxRecDepth 100000 in
set_option maxHeartbeats 4000000 in
theorem stA_nd {w : World} {b a n cn : Nat} {q : Bool} {x y : Value} {v0 v1 v2 v3 v4 v5 v6 v7 v8 : Value} {vh vo : Int} {vA : Option Addr} {vn vc : Nat} {vp vm vf vs vi : Int} {vB : Option Addr} {vk vd : Nat} (hk : Blk w b 205 (ndC a n [v0, v1, v2, v3, v4, v5, v6, v7, v8] q cn x y)) : (Instr.storeAt 28 (.pointer (some ⟨b, 2, none⟩)) (.agg #[.int .i64 vh, .int .i64 vo, .slice vA vn vc, .int .u32 vp, .int .u32 vm, .int .u32 vf, .int .u32 vs, .int .u32 vi, .slice vB vk vd])).run Tryz.prog w = .ok () (w.setCells b 2 [.int .i64 vh, .int .i64 vo, .slice vA vn vc, .int .u32 vp, .int .u32 vm, .int .u32 vf, .int .u32 vs, .int .u32 vi, .slice vB vk vd]) := by
 have z0 : w.cell? ⟨b, 2, none⟩ = some v0 := hk.cell 2; have z1 : w.cell? ⟨b, 3, none⟩ = some v1 := hk.cell 3; have z2 : w.cell? ⟨b, 4, none⟩ = some v2 := hk.cell 4; have z3 : w.cell? ⟨b, 5, none⟩ = some v3 := hk.cell 5; have z4 : w.cell? ⟨b, 6, none⟩ = some v4 := hk.cell 6; have z5 : w.cell? ⟨b, 7, none⟩ = some v5 := hk.cell 7; have z6 : w.cell? ⟨b, 8, none⟩ = some v6 := hk.cell 8; have z7 : w.cell? ⟨b, 9, none⟩ = some v7 := hk.cell 9; have z8 : w.cell? ⟨b, 10, none⟩ = some v8 := hk.cell 10; have zf := fun i => hk.frozen i; simp [go_sem, z0, z1, z2, z3, z4, z5, z6, z7, z8, zf, World.setCells]
set_option maxRecDepth 100000 in
set_option maxHeartbeats 32000000 in
theorem putnA_any {α : Type} {F : Nat → Prop} {R : World → List Value → α → Prop} (g a n : Nat) (t : Tr α) (x : α) (vh vo : Int) (vA : Option Addr) (vn vc : Nat) (vp vm vf vs vi : Int) (vB : Option Addr) (vk vd : Nat) (w : World) (ha : PG a n) (hg : Blk w g 201 #[trPtr t]) (h : TrA 9 205 F R w t) (hF : ∀ k, F k → k < w.heap.size) (hv : FrS F none (fun w => R w [.int .i64 vh, .int .i64 vo, .slice vA vn vc, .int .u32 vp, .int .u32 vm, .int .u32 vf, .int .u32 vs, .int .u32 vi, .slice vB vk vd] x) w) (hgF : ¬ F g) (hgB : g ∉ trB t) (hcn : trCnt t < 100000000) (hno : trGet a n t = none) :
    Calls Tryz.prog 80 #[.pointer (some ⟨g, 0, none⟩), .agg #[.int .u32 (a : Int), .int .i64 (n : Int)], .agg #[.int .i64 vh, .int .i64 vo, .slice vA vn vc, .int .u32 vp, .int .u32 vm, .int .u32 vf, .int .u32 vs, .int .u32 vi, .slice vB vk vd]] w fun e w' => e = .returned (.tuple #[.agg #[.int .i64 0, .int .i64 0, .slice none 0 0, .int .u32 0, .int .u32 0, .int .u32 0, .int .u32 0, .int .u32 0, .slice none 0 0], .bool false]) ∧ ∃ t2, PutR a n x t t2 ∧ Blk w' g 201 #[trPtr t2] ∧ TrA 9 205 F R w' t2 ∧ (∀ k ∈ trB t2, k ∈ trB t ∨ w.heap.size ≤ k) ∧ ChgS (fun k => k = g ∨ k ∈ trB t) w w' := by
  obtain ⟨w0, hw0⟩ : ∃ w0, ((w.alloc (.cells #[.int .u32 (a : Int), .int .i64 (n : Int)] 24)).alloc (.cells #[.int .i64 vh, .int .i64 vo, .slice vA vn vc, .int .u32 vp, .int .u32 vm, .int .u32 vf, .int .u32 vs, .int .u32 vi, .slice vB vk vd] 28)).alloc (.cells #[.int .i64 0, .int .i64 0, .slice none 0 0, .int .u32 0, .int .u32 0, .int .u32 0, .int .u32 0, .int .u32 0, .slice none 0 0] 28) = w0 := ⟨_, rfl⟩
  have hb0 : Below w.heap.size w w0 := hw0 ▸ blkBelow3q w _ _ _; have HX0 : Hid (Blk w0 w.heap.size 24 #[.int .u32 (a : Int), .int .i64 (n : Int)]) := hide (hw0 ▸ ((Blk.new w _ _).alloc _).alloc _); have HV0 : Hid (Blk w0 (w.heap.size + 1) 28 #[.int .i64 vh, .int .i64 vo, .slice vA vn vc, .int .u32 vp, .int .u32 vm, .int .u32 vf, .int .u32 vs, .int .u32 vi, .slice vB vk vd]) := hide (hw0 ▸ (blk_new' _ _ (by simp)).alloc _); have HZ0 : Hid (Blk w0 (w.heap.size + 1 + 1) 28 #[.int .i64 0, .int .i64 0, .slice none 0 0, .int .u32 0, .int .u32 0, .int .u32 0, .int .u32 0, .int .u32 0, .slice none 0 0]) := hide (hw0 ▸ blk_new' _ _ (by simp)); have HGd := hide (Good_any a (n : Int) ha.1 (by omega) (by have := ha.2.1; omega)); rw [good_pg ha] at HGd; unfold pfx at HGd; have HFd := hide (fun W (hb : Below w.heap.size w W) => findA_any (F := F) (R := R) g a n t W ha (hg.below hb hg.lt) (h.mem.chg (S := fun _ => False) (chg_below hb) (by simp) (by simp)) h.wf); have hgf := trGet_find a n t; have HG := hide hg; have HT := hide h; have HW0 := hide hw0; have HB0 := hide hb0; have HFv := hide hv; have HF := hide hF; have HPa := hide ha; have HgF := hide hgF; have HgB := hide hgB; have HCt := hide hcn; clear hw0 hb0 hg hF hv ha hgF hgB hcn h
  go_enter Tryz.func80, Tryz.ntmps80
  go_wp2_with fail
  rw [HW0.out]; refine (HGd.out _).mono ?_; rintro e w1 ⟨rfl, hb1⟩; have HB1 := hide (HB0.out.trans (hb1.mono HB0.out.size)); have HX1 := hide (HX0.out.below hb1 HX0.out.lt); have x0 : w1.cell? ⟨w.heap.size, 0, none⟩ = some (.int .u32 (a : Int)) := HX1.out.cell 0; have x1 : w1.cell? ⟨w.heap.size, 1, none⟩ = some (.int .i64 (n : Int)) := HX1.out.cell 1; have HV1 := hide (HV0.out.below hb1 HV0.out.lt); have HZ1 := hide (HZ0.out.below hb1 HZ0.out.lt); clear hb1
  go_wp2_with fail
  refine (HFd.out _ HB1.out).mono ?_; rintro e w2 ⟨rfl, hb2⟩; have HB2 := hide (HB1.out.trans (hb2.mono HB1.out.size)); have HX2 := hide (HX1.out.below hb2 HX1.out.lt); have HV2 := hide (HV1.out.below hb2 HV1.out.lt); have HZ2 := hide (HZ1.out.below hb2 HZ1.out.lt); have HG2 := hide (HG.out.below HB2.out HG.out.lt); have HT2 := hide (HT.out.chg (S := fun _ => False) (chg_below HB2.out) (by simp) (by simp)); have hfw := trFind_w a n t HT2.out.mem; have hfb := trFind_sub a n t; clear hb2 x0 x1; obtain ⟨s, hs⟩ : ∃ s, trFind a n t = s := ⟨_, rfl⟩
  rw [hs] at hfw hfb hgf ⊢; have HRec := hide (fun W (hb : Below w2.heap.size w2 W) => putA_any (F := F) (R := R) x vh vo vA vn vc vp vm vf vs vi vB vk vd a n t W HPa.out (HT2.out.chg (S := fun _ => False) (chg_below hb) (by simp) (by simp)) (fun k hk => Nat.lt_of_lt_of_le (HF.out k hk) (Nat.le_trans HB2.out.size hb.size)) (frs_chg HFv.out (chg_below (S := fun _ => False) (HB2.out.trans (hb.mono HB2.out.size))) (by simp)) HCt.out)
  have hgo : Hid (s = .nil ∨ ∃ b p m l0 r0 v0 v1 v2 v3 v4 v5 v6 v7 v8 cn, s = .nd b p m none l0 r0 ∧ Blk w2 b 205 (ndC p m [v0, v1, v2, v3, v4, v5, v6, v7, v8] false cn (trPtr l0) (trPtr r0))) := hide (by
    rw [hno] at hgf
    cases s with
    | nil => exact .inl rfl
    | nd b p m v l0 r0 =>
      simp only at hgf; subst hgf; obtain ⟨⟨vs, hv, hk, _⟩, _, _⟩ := hfw; obtain ⟨v0, v1, v2, v3, v4, v5, v6, v7, v8, rfl⟩ := lenA hv; exact .inr ⟨b, p, m, l0, r0, v0, v1, v2, v3, v4, v5, v6, v7, v8, _, rfl, hk⟩)
  clear hfw hfb hgf hs hno; rcases hgo.out with rfl | ⟨b, p, m, l0, r0, v0, v1, v2, v3, v4, v5, v6, v7, v8, cn, rfl, hk⟩
  all_goals clear hgo
  · have e0 : trPtr (.nil : Tr α) = .pointer none := rfl; rw [e0]; clear e0
    go_upto_region 7 with fail
    refine wp_region_relH 10 0 (Nat.zero_le _) [(fun v _ => v = .pointer (some ⟨g, 0, none⟩)), (fun v _ => v = .pointer (some ⟨g, 0, none⟩)), (fun v _ => v = .pointer (some ⟨g, 0, none⟩)), (fun v _ => v = .pointer (some ⟨g, 0, none⟩)), (fun v _ => v = trPtr t), (fun v _ => v = .agg #[.int .u32 (a : Int), .int .i64 (n : Int)]), (fun v _ => v = .agg #[.int .i64 vh, .int .i64 vo, .slice vA vn vc, .int .u32 vp, .int .u32 vm, .int .u32 vf, .int .u32 vs, .int .u32 vi, .slice vB vk vd]), (fun v W => ∃ t2, v = trPtr t2 ∧ PutR a n x t t2 ∧ TrA 9 205 F R W t2 ∧ (∀ k ∈ trB t2, k ∈ trB t ∨ w2.heap.size ≤ k) ∧ ChgS (fun k => k ∈ trB t) w2 W), (fun v _ => v = .pointer (some ⟨g, 0, none⟩)), (fun v _ => v = .pointer (some ⟨g, 0, none⟩))] (fun i W => (1 ≤ i ∧ i ≤ 7) → Below w2.heap.size w2 W) (fun i Wa Wb => if i = 7 then Below 0 Wa Wb else Below Wa.heap.size Wa Wb) (by kernel_rfl) (by kernel_rfl) (by kernel_rfl) (by kernel_rfl) (by kernel_rfl) ?hE ?hR ?hP ?h0 ⟨?_, ?_, ?_, ?_, ?_, ?_, ?_, ?_, ?_, ?_, trivial⟩ ?_
    case hE =>
      intro i2 wa wb hB he; split at he
      · exact he
      · exact he.mono (Nat.zero_le _)
    case hR =>
      intro i2 j2 v2 wa wb hij hB he h; split at he
      · rename_i hj2; subst hj2; refine keepAll_at (E := fun wa wb => Below 0 wa wb) (x := 7) (k := 0) ?_ (by omega) he h; exact ⟨fun _ v wa wb he h => h, fun _ v wa wb he h => h, fun _ v wa wb he h => h, fun _ v wa wb he h => h, fun _ v wa wb he h => h, fun _ v wa wb he h => h, fun _ v wa wb he h => h, fun hn => absurd rfl hn, fun _ v wa wb he h => h, fun _ v wa wb he h => h, trivial⟩
      · refine relMono _ ?_ i2 v2 wa wb he h; exact ⟨fun _ _ _ _ h => h, fun _ _ _ _ h => h, fun _ _ _ _ h => h, fun _ _ _ _ h => h, fun _ _ _ _ h => h, fun _ _ _ _ h => h, fun _ _ _ _ h => h, fun v wa wb hb ⟨t2, e, h1, h2, h3, h4⟩ => ⟨t2, e, h1, h2.chg (S := fun _ => False) (chg_below hb) (by simp) (by simp), h3, chg_trans h4 (chg_below (S := fun _ => False) hb) (fun k h => h.elim)⟩, fun _ _ _ _ h => h, fun _ _ _ _ h => h, trivial⟩
    case hP =>
      intro i2 j2 wa wb hij hnb hB he h hi; split at he
      · rename_i hj2; subst hj2; have hi3 : i2 = 1 ∨ i2 = 2 ∨ i2 = 3 ∨ i2 = 4 ∨ i2 = 5 ∨ i2 = 6 ∨ i2 = 7 := (by omega)
        rcases hi3 with rfl | rfl | rfl | rfl | rfl | rfl | rfl
        all_goals first | exact absurd rfl hij | exact absurd hnb (by decide +kernel)
      · exact (h hi).trans (he.mono (h hi).size)
    case h0 =>
      intro j2 hj2 _; exact (Below.refl _ _).drew
    · exact relG_plain rfl rfl (fun _ _ h => h) fun Ac w5 hp => pureM (ptv g 0) 0 (hp.out 0 (by rfl))
    · exact relG_plain rfl rfl (fun _ _ h => h) fun Ac w5 hp => pureM (ptv g 0) 0 (hp.out 0 (by rfl))
    · exact relG_plain rfl rfl (fun _ _ h => h) fun Ac w5 hp => pureM (ptv g 0) 38 (hp.d 1)
    · exact relG_plain rfl rfl (fun _ _ h => h) fun Ac w5 hp => pureM (ptv g 0) 39 (hp.d 2)
    · refine relG_plain rfl rfl (fun _ _ h => h) ?_; intro Ac w5 hp; have hb := hp.bel; have hb := hp.pre ⟨by decide, by decide⟩; have hg5 := HG2.out.below hb HG2.out.lt; have z0 : w5.cell? ⟨g, 0, none⟩ = some (trPtr t) := hg5.cell 0; exact pure1 (trPtr t) 40 (ptv g 0) (hp.d 3)
    · refine relG_plain rfl rfl (fun _ _ h => h) ?_; intro Ac w5 hp; have hb := hp.bel; have hb := hp.pre ⟨by decide, by decide⟩; have hx5 := HX2.out.below hb HX2.out.lt; have x0 : w5.cell? ⟨w.heap.size, 0, none⟩ = some (.int .u32 (a : Int)) := hx5.cell 0; have x1 : w5.cell? ⟨w.heap.size, 1, none⟩ = some (.int .i64 (n : Int)) := hx5.cell 1; exact pure1 (.agg #[.int .u32 (a : Int), .int .i64 (n : Int)]) 4 (ptv w.heap.size 0) (hp.out 4 (by rfl))
    · refine relG_plain rfl rfl (fun _ _ h => h) ?_; intro Ac w5 hp; have hb := hp.bel; have hb := hp.pre ⟨by decide, by decide⟩; have hv5 := HV2.out.below hb HV2.out.lt; have u0 : w5.cell? ⟨w.heap.size + 1, 0, none⟩ = some (.int .i64 vh) := hv5.cell 0; have u1 : w5.cell? ⟨w.heap.size + 1, 1, none⟩ = some (.int .i64 vo) := hv5.cell 1; have u2 : w5.cell? ⟨w.heap.size + 1, 2, none⟩ = some (.slice vA vn vc) := hv5.cell 2; have u3 : w5.cell? ⟨w.heap.size + 1, 3, none⟩ = some (.int .u32 vp) := hv5.cell 3; have u4 : w5.cell? ⟨w.heap.size + 1, 4, none⟩ = some (.int .u32 vm) := hv5.cell 4; have u5 : w5.cell? ⟨w.heap.size + 1, 5, none⟩ = some (.int .u32 vf) := hv5.cell 5; have u6 : w5.cell? ⟨w.heap.size + 1, 6, none⟩ = some (.int .u32 vs) := hv5.cell 6; have u7 : w5.cell? ⟨w.heap.size + 1, 7, none⟩ = some (.int .u32 vi) := hv5.cell 7; have u8 : w5.cell? ⟨w.heap.size + 1, 8, none⟩ = some (.slice vB vk vd) := hv5.cell 8; exact pure1 (.agg #[.int .i64 vh, .int .i64 vo, .slice vA vn vc, .int .u32 vp, .int .u32 vm, .int .u32 vf, .int .u32 vs, .int .u32 vi, .slice vB vk vd]) 5 (ptv (w.heap.size + 1) 0) (hp.out 5 (by rfl))
    · refine relG_enter rfl rfl ?_; intro Ac w5 hp; have hb := hp.bel; have a41 : Ac.eval (.tmp 41) = trPtr t := hp.d 4; have a42 : Ac.eval (.tmp 42) = .agg #[.int .u32 (a : Int), .int .i64 (n : Int)] := hp.d 5; have a43 : Ac.eval (.tmp 43) = .agg #[.int .i64 vh, .int .i64 vo, .slice vA vn vc, .int .u32 vp, .int .u32 vm, .int .u32 vf, .int .u32 vs, .int .u32 vi, .slice vB vk vd] := hp.d 6; obtain ⟨ρ, hρ, hc, hf, hgl⟩ := evalX Ac; rw [hρ] at a41 a42 a43; refine ⟨141, #[trPtr t, .agg #[.int .u32 (a : Int), .int .i64 (n : Int)], .agg #[.int .i64 vh, .int .i64 vo, .slice vA vn vc, .int .u32 vp, .int .u32 vm, .int .u32 vf, .int .u32 vs, .int .u32 vi, .slice vB vk vd]], by rw [hρ]; simp [go_sem, hc, hf, hgl, ↓IntWalk.iteOmega, a41, a42, a43, *], ?_⟩; have hb := hp.pre ⟨by decide, by decide⟩; refine (HRec.out w5 hb).mono ?_; rintro e w6 ⟨t2, rfl, h1, h2, h3, h4⟩; refine ⟨_, rfl, ⟨t2, rfl, h1, h2, fun k hk => (h3 k hk).imp id (Nat.le_trans hb.size), chg_trans (chg_below hb) h4 (fun k h => .inl h)⟩, by show Below 0 w5 w6; exact ⟨h4.os, h4.tape, h4.output, h4.size, fun k hk => absurd hk (Nat.not_lt_zero k)⟩⟩
    · exact relG_plain rfl rfl (fun _ _ h => h) fun Ac w5 hp => pureM (ptv g 0) 37 (hp.d 0)
    · exact relG_plain rfl rfl (fun _ _ h => h) fun Ac w5 hp => pureM (ptv g 0) 45 (hp.d 8)
    intro u w9 hb7 hall; obtain ⟨t44, e44, h44a, h44b, h44c, h44d⟩ := relAll_at hall (i := 7) (by decide +kernel); change u 7 = _ at e44; have e46 : u 9 = .pointer (some ⟨g, 0, none⟩) := relAll_at hall (i := 9) (by decide +kernel); clear hall; simp only [List.drop_succ_cons, List.drop_zero, List.take_succ_cons, List.take_zero, putAll, Act.put, List.setIfInBounds_toArray, List.set_cons_zero, List.set_cons_succ, Nat.zero_add, Nat.reduceAdd, e44, e46]; have hcb : w.heap.size + 1 + 1 < w2.heap.size := HZ2.out.lt; have hgl := HG.out.lt; have htl := HT.out.mem.lt; have HG9 := hide (chg_blk h44d HG2.out HgB.out); have HZ9 := hide (chg_blk h44d HZ2.out (fun h => by have := htl _ h; omega)); have hg44 : g ∉ trB t44 := fun h => (h44c g h).elim HgB.out (fun h => by omega); have hc44 : w.heap.size + 1 + 1 ∉ trB t44 := fun h => (h44c _ h).elim (fun h => by have := htl _ h; omega) (fun h => by omega); obtain ⟨q44, hq44⟩ := trPtr_ptr t44; rw [hq44]; have zg : w9.cell? ⟨g, 0, none⟩ = some (trPtr t) := HG9.out.cell 0; have zgf := HG9.out.frozen 0; obtain ⟨w10, hw10⟩ : ∃ W, w9.setCell ⟨g, 0, none⟩ (.pointer q44) = W := ⟨_, rfl⟩
    have HZ10 : Hid (Blk w10 (w.heap.size + 1 + 1) 28 #[.int .i64 0, .int .i64 0, .slice none 0 0, .int .u32 0, .int .u32 0, .int .u32 0, .int .u32 0, .int .u32 0, .slice none 0 0]) := hide (hw10 ▸ HZ9.out.far (p := ⟨g, 0, none⟩) (by show w.heap.size + 1 + 1 ≠ g; omega) _); have HG10 : Hid (Blk w10 g 201 #[trPtr t44]) := hide (by rw [hq44]; exact hw10 ▸ HG9.out.set_ 0 _); have HC10 : Hid (ChgS (fun k => k = g) w9 w10) := hide (hw10 ▸ chg_set (S := fun k => k = g) (p := ⟨g, 0, none⟩) rfl _); have HT10 := hide (h44b.chg HC10.out (fun k hk e => hg44 (e ▸ hk)) (fun k hF e => HgF.out (e ▸ hF))); have HCw : Hid (ChgS (fun k => k = g ∨ k ∈ trB t) w w10) := hide (chg_trans (chg_trans (chg_below (S := fun k => k = g ∨ k ∈ trB t) HB2.out) h44d (fun k h => .inl (.inr h))) HC10.out (fun k h => .inl (.inl h))); have HPu := hide h44a; have HSu := hide (fun k hk => (h44c k hk).imp id (Nat.le_trans HB2.out.size)); have Hc44 := hide hc44; have HWd := hide hw10; clear hw10 hq44 h44a h44b h44c h44d hb7 hg44 hc44 htl
    go_upto_region 8 with fail
    rw [HWd.out]; clear zg zgf; have z0 : w10.cell? ⟨w.heap.size + 1 + 1, 0, none⟩ = some (.int .i64 0) := HZ10.out.cell 0; have z1 : w10.cell? ⟨w.heap.size + 1 + 1, 1, none⟩ = some (.int .i64 0) := HZ10.out.cell 1; have z2 : w10.cell? ⟨w.heap.size + 1 + 1, 2, none⟩ = some (.slice none 0 0) := HZ10.out.cell 2; have z3 : w10.cell? ⟨w.heap.size + 1 + 1, 3, none⟩ = some (.int .u32 0) := HZ10.out.cell 3; have z4 : w10.cell? ⟨w.heap.size + 1 + 1, 4, none⟩ = some (.int .u32 0) := HZ10.out.cell 4; have z5 : w10.cell? ⟨w.heap.size + 1 + 1, 5, none⟩ = some (.int .u32 0) := HZ10.out.cell 5; have z6 : w10.cell? ⟨w.heap.size + 1 + 1, 6, none⟩ = some (.int .u32 0) := HZ10.out.cell 6; have z7 : w10.cell? ⟨w.heap.size + 1 + 1, 7, none⟩ = some (.int .u32 0) := HZ10.out.cell 7; have z8 : w10.cell? ⟨w.heap.size + 1 + 1, 8, none⟩ = some (.slice none 0 0) := HZ10.out.cell 8; have zf := fun i => HZ10.out.frozen i; go_wp2; change bodyPost _ _ _ _ _ (w10.setCells (w.heap.size + 1 + 1) 0 [.int .i64 0, .int .i64 0, .slice none 0 0, .int .u32 0, .int .u32 0, .int .u32 0, .int .u32 0, .int .u32 0, .slice none 0 0]); obtain ⟨wF, hwF⟩ : ∃ x, w10.setCells (w.heap.size + 1 + 1) 0 [.int .i64 0, .int .i64 0, .slice none 0 0, .int .u32 0, .int .u32 0, .int .u32 0, .int .u32 0, .int .u32 0, .slice none 0 0] = x := ⟨_, rfl⟩
    have HFk := hide (hwF ▸ blk_sets [.int .i64 0, .int .i64 0, .slice none 0 0, .int .u32 0, .int .u32 0, .int .u32 0, .int .u32 0, .int .u32 0, .slice none 0 0] [] [.int .i64 0, .int .i64 0, .slice none 0 0, .int .u32 0, .int .u32 0, .int .u32 0, .int .u32 0, .int .u32 0, .slice none 0 0] HZ10.out rfl : Blk wF (w.heap.size + 1 + 1) 28 #[.int .i64 0, .int .i64 0, .slice none 0 0, .int .u32 0, .int .u32 0, .int .u32 0, .int .u32 0, .int .u32 0, .slice none 0 0]); have HFg := hide (hwF ▸ blk_sets_far (by omega) [.int .i64 0, .int .i64 0, .slice none 0 0, .int .u32 0, .int .u32 0, .int .u32 0, .int .u32 0, .int .u32 0, .slice none 0 0] 0 HG10.out : Blk wF g 201 _); have HFc : Hid (ChgS (fun k => k = w.heap.size + 1 + 1) w10 wF) := hide (hwF ▸ chg_sets (S := fun k => k = w.heap.size + 1 + 1) rfl [.int .i64 0, .int .i64 0, .slice none 0 0, .int .u32 0, .int .u32 0, .int .u32 0, .int .u32 0, .int .u32 0, .slice none 0 0] 0); rw [hwF]; clear hwF z0 z1 z2 z3 z4 z5 z6 z7 z8 zf; have z0 : wF.cell? ⟨w.heap.size + 1 + 1, 0, none⟩ = some (.int .i64 0) := HFk.out.cell 0; have z1 : wF.cell? ⟨w.heap.size + 1 + 1, 1, none⟩ = some (.int .i64 0) := HFk.out.cell 1; have z2 : wF.cell? ⟨w.heap.size + 1 + 1, 2, none⟩ = some (.slice none 0 0) := HFk.out.cell 2; have z3 : wF.cell? ⟨w.heap.size + 1 + 1, 3, none⟩ = some (.int .u32 0) := HFk.out.cell 3; have z4 : wF.cell? ⟨w.heap.size + 1 + 1, 4, none⟩ = some (.int .u32 0) := HFk.out.cell 4; have z5 : wF.cell? ⟨w.heap.size + 1 + 1, 5, none⟩ = some (.int .u32 0) := HFk.out.cell 5; have z6 : wF.cell? ⟨w.heap.size + 1 + 1, 6, none⟩ = some (.int .u32 0) := HFk.out.cell 6; have z7 : wF.cell? ⟨w.heap.size + 1 + 1, 7, none⟩ = some (.int .u32 0) := HFk.out.cell 7; have z8 : wF.cell? ⟨w.heap.size + 1 + 1, 8, none⟩ = some (.slice none 0 0) := HFk.out.cell 8; refine bodyPost_ret (v := .tuple #[.agg #[.int .i64 0, .int .i64 0, .slice none 0 0, .int .u32 0, .int .u32 0, .int .u32 0, .int .u32 0, .int .u32 0, .slice none 0 0], .bool false]) (by simp [results, Tryz.results80, go_sem, z0, z1, z2, z3, z4, z5, z6, z7, z8]) rfl ⟨rfl, t44, HPu.out, HFg.out, HT10.out.chg HFc.out (fun k hk e => Hc44.out (e ▸ hk)) (fun k hF e => by have := HF.out k hF; omega), HSu.out, chg_trans HCw.out HFc.out (fun k h => .inr (by omega))⟩
  · have e0 : trPtr (.nd b p m none l0 r0 : Tr α) = .pointer (some ⟨b, 0, none⟩) := rfl; rw [e0]; have yp : w2.cell? ⟨b, 11, none⟩ = some (.bool false) := hk.cell 11; clear e0 hk
    go_upto_region 7 with fail
    refine wp_region_relH 10 0 (Nat.zero_le _) [(fun v _ => v = .pointer (some ⟨g, 0, none⟩)), (fun v _ => v = .pointer (some ⟨g, 0, none⟩)), (fun v _ => v = .pointer (some ⟨g, 0, none⟩)), (fun v _ => v = .pointer (some ⟨g, 0, none⟩)), (fun v _ => v = trPtr t), (fun v _ => v = .agg #[.int .u32 (a : Int), .int .i64 (n : Int)]), (fun v _ => v = .agg #[.int .i64 vh, .int .i64 vo, .slice vA vn vc, .int .u32 vp, .int .u32 vm, .int .u32 vf, .int .u32 vs, .int .u32 vi, .slice vB vk vd]), (fun v W => ∃ t2, v = trPtr t2 ∧ PutR a n x t t2 ∧ TrA 9 205 F R W t2 ∧ (∀ k ∈ trB t2, k ∈ trB t ∨ w2.heap.size ≤ k) ∧ ChgS (fun k => k ∈ trB t) w2 W), (fun v _ => v = .pointer (some ⟨g, 0, none⟩)), (fun v _ => v = .pointer (some ⟨g, 0, none⟩))] (fun i W => (1 ≤ i ∧ i ≤ 7) → Below w2.heap.size w2 W) (fun i Wa Wb => if i = 7 then Below 0 Wa Wb else Below Wa.heap.size Wa Wb) (by kernel_rfl) (by kernel_rfl) (by kernel_rfl) (by kernel_rfl) (by kernel_rfl) ?hE ?hR ?hP ?h0 ⟨?_, ?_, ?_, ?_, ?_, ?_, ?_, ?_, ?_, ?_, trivial⟩ ?_
    case hE =>
      intro i2 wa wb hB he; split at he
      · exact he
      · exact he.mono (Nat.zero_le _)
    case hR =>
      intro i2 j2 v2 wa wb hij hB he h; split at he
      · rename_i hj2; subst hj2; refine keepAll_at (E := fun wa wb => Below 0 wa wb) (x := 7) (k := 0) ?_ (by omega) he h; exact ⟨fun _ v wa wb he h => h, fun _ v wa wb he h => h, fun _ v wa wb he h => h, fun _ v wa wb he h => h, fun _ v wa wb he h => h, fun _ v wa wb he h => h, fun _ v wa wb he h => h, fun hn => absurd rfl hn, fun _ v wa wb he h => h, fun _ v wa wb he h => h, trivial⟩
      · refine relMono _ ?_ i2 v2 wa wb he h; exact ⟨fun _ _ _ _ h => h, fun _ _ _ _ h => h, fun _ _ _ _ h => h, fun _ _ _ _ h => h, fun _ _ _ _ h => h, fun _ _ _ _ h => h, fun _ _ _ _ h => h, fun v wa wb hb ⟨t2, e, h1, h2, h3, h4⟩ => ⟨t2, e, h1, h2.chg (S := fun _ => False) (chg_below hb) (by simp) (by simp), h3, chg_trans h4 (chg_below (S := fun _ => False) hb) (fun k h => h.elim)⟩, fun _ _ _ _ h => h, fun _ _ _ _ h => h, trivial⟩
    case hP =>
      intro i2 j2 wa wb hij hnb hB he h hi; split at he
      · rename_i hj2; subst hj2; have hi3 : i2 = 1 ∨ i2 = 2 ∨ i2 = 3 ∨ i2 = 4 ∨ i2 = 5 ∨ i2 = 6 ∨ i2 = 7 := (by omega)
        rcases hi3 with rfl | rfl | rfl | rfl | rfl | rfl | rfl
        all_goals first | exact absurd rfl hij | exact absurd hnb (by decide +kernel)
      · exact (h hi).trans (he.mono (h hi).size)
    case h0 =>
      intro j2 hj2 _; exact (Below.refl _ _).drew
    · exact relG_plain rfl rfl (fun _ _ h => h) fun Ac w5 hp => pureM (ptv g 0) 0 (hp.out 0 (by rfl))
    · exact relG_plain rfl rfl (fun _ _ h => h) fun Ac w5 hp => pureM (ptv g 0) 0 (hp.out 0 (by rfl))
    · exact relG_plain rfl rfl (fun _ _ h => h) fun Ac w5 hp => pureM (ptv g 0) 38 (hp.d 1)
    · exact relG_plain rfl rfl (fun _ _ h => h) fun Ac w5 hp => pureM (ptv g 0) 39 (hp.d 2)
    · refine relG_plain rfl rfl (fun _ _ h => h) ?_; intro Ac w5 hp; have hb := hp.bel; have hb := hp.pre ⟨by decide, by decide⟩; have hg5 := HG2.out.below hb HG2.out.lt; have z0 : w5.cell? ⟨g, 0, none⟩ = some (trPtr t) := hg5.cell 0; exact pure1 (trPtr t) 40 (ptv g 0) (hp.d 3)
    · refine relG_plain rfl rfl (fun _ _ h => h) ?_; intro Ac w5 hp; have hb := hp.bel; have hb := hp.pre ⟨by decide, by decide⟩; have hx5 := HX2.out.below hb HX2.out.lt; have x0 : w5.cell? ⟨w.heap.size, 0, none⟩ = some (.int .u32 (a : Int)) := hx5.cell 0; have x1 : w5.cell? ⟨w.heap.size, 1, none⟩ = some (.int .i64 (n : Int)) := hx5.cell 1; exact pure1 (.agg #[.int .u32 (a : Int), .int .i64 (n : Int)]) 4 (ptv w.heap.size 0) (hp.out 4 (by rfl))
    · refine relG_plain rfl rfl (fun _ _ h => h) ?_; intro Ac w5 hp; have hb := hp.bel; have hb := hp.pre ⟨by decide, by decide⟩; have hv5 := HV2.out.below hb HV2.out.lt; have u0 : w5.cell? ⟨w.heap.size + 1, 0, none⟩ = some (.int .i64 vh) := hv5.cell 0; have u1 : w5.cell? ⟨w.heap.size + 1, 1, none⟩ = some (.int .i64 vo) := hv5.cell 1; have u2 : w5.cell? ⟨w.heap.size + 1, 2, none⟩ = some (.slice vA vn vc) := hv5.cell 2; have u3 : w5.cell? ⟨w.heap.size + 1, 3, none⟩ = some (.int .u32 vp) := hv5.cell 3; have u4 : w5.cell? ⟨w.heap.size + 1, 4, none⟩ = some (.int .u32 vm) := hv5.cell 4; have u5 : w5.cell? ⟨w.heap.size + 1, 5, none⟩ = some (.int .u32 vf) := hv5.cell 5; have u6 : w5.cell? ⟨w.heap.size + 1, 6, none⟩ = some (.int .u32 vs) := hv5.cell 6; have u7 : w5.cell? ⟨w.heap.size + 1, 7, none⟩ = some (.int .u32 vi) := hv5.cell 7; have u8 : w5.cell? ⟨w.heap.size + 1, 8, none⟩ = some (.slice vB vk vd) := hv5.cell 8; exact pure1 (.agg #[.int .i64 vh, .int .i64 vo, .slice vA vn vc, .int .u32 vp, .int .u32 vm, .int .u32 vf, .int .u32 vs, .int .u32 vi, .slice vB vk vd]) 5 (ptv (w.heap.size + 1) 0) (hp.out 5 (by rfl))
    · refine relG_enter rfl rfl ?_; intro Ac w5 hp; have hb := hp.bel; have a41 : Ac.eval (.tmp 41) = trPtr t := hp.d 4; have a42 : Ac.eval (.tmp 42) = .agg #[.int .u32 (a : Int), .int .i64 (n : Int)] := hp.d 5; have a43 : Ac.eval (.tmp 43) = .agg #[.int .i64 vh, .int .i64 vo, .slice vA vn vc, .int .u32 vp, .int .u32 vm, .int .u32 vf, .int .u32 vs, .int .u32 vi, .slice vB vk vd] := hp.d 6; obtain ⟨ρ, hρ, hc, hf, hgl⟩ := evalX Ac; rw [hρ] at a41 a42 a43; refine ⟨141, #[trPtr t, .agg #[.int .u32 (a : Int), .int .i64 (n : Int)], .agg #[.int .i64 vh, .int .i64 vo, .slice vA vn vc, .int .u32 vp, .int .u32 vm, .int .u32 vf, .int .u32 vs, .int .u32 vi, .slice vB vk vd]], by rw [hρ]; simp [go_sem, hc, hf, hgl, ↓IntWalk.iteOmega, a41, a42, a43, *], ?_⟩; have hb := hp.pre ⟨by decide, by decide⟩; refine (HRec.out w5 hb).mono ?_; rintro e w6 ⟨t2, rfl, h1, h2, h3, h4⟩; refine ⟨_, rfl, ⟨t2, rfl, h1, h2, fun k hk => (h3 k hk).imp id (Nat.le_trans hb.size), chg_trans (chg_below hb) h4 (fun k h => .inl h)⟩, by show Below 0 w5 w6; exact ⟨h4.os, h4.tape, h4.output, h4.size, fun k hk => absurd hk (Nat.not_lt_zero k)⟩⟩
    · exact relG_plain rfl rfl (fun _ _ h => h) fun Ac w5 hp => pureM (ptv g 0) 37 (hp.d 0)
    · exact relG_plain rfl rfl (fun _ _ h => h) fun Ac w5 hp => pureM (ptv g 0) 45 (hp.d 8)
    intro u w9 hb7 hall; obtain ⟨t44, e44, h44a, h44b, h44c, h44d⟩ := relAll_at hall (i := 7) (by decide +kernel); change u 7 = _ at e44; have e46 : u 9 = .pointer (some ⟨g, 0, none⟩) := relAll_at hall (i := 9) (by decide +kernel); clear hall; simp only [List.drop_succ_cons, List.drop_zero, List.take_succ_cons, List.take_zero, putAll, Act.put, List.setIfInBounds_toArray, List.set_cons_zero, List.set_cons_succ, Nat.zero_add, Nat.reduceAdd, e44, e46]; clear yp; have hcb : w.heap.size + 1 + 1 < w2.heap.size := HZ2.out.lt; have hgl := HG.out.lt; have htl := HT.out.mem.lt; have HG9 := hide (chg_blk h44d HG2.out HgB.out); have HZ9 := hide (chg_blk h44d HZ2.out (fun h => by have := htl _ h; omega)); have hg44 : g ∉ trB t44 := fun h => (h44c g h).elim HgB.out (fun h => by omega); have hc44 : w.heap.size + 1 + 1 ∉ trB t44 := fun h => (h44c _ h).elim (fun h => by have := htl _ h; omega) (fun h => by omega); obtain ⟨q44, hq44⟩ := trPtr_ptr t44; rw [hq44]; have zg : w9.cell? ⟨g, 0, none⟩ = some (trPtr t) := HG9.out.cell 0; have zgf := HG9.out.frozen 0; obtain ⟨w10, hw10⟩ : ∃ W, w9.setCell ⟨g, 0, none⟩ (.pointer q44) = W := ⟨_, rfl⟩
    have HZ10 : Hid (Blk w10 (w.heap.size + 1 + 1) 28 #[.int .i64 0, .int .i64 0, .slice none 0 0, .int .u32 0, .int .u32 0, .int .u32 0, .int .u32 0, .int .u32 0, .slice none 0 0]) := hide (hw10 ▸ HZ9.out.far (p := ⟨g, 0, none⟩) (by show w.heap.size + 1 + 1 ≠ g; omega) _); have HG10 : Hid (Blk w10 g 201 #[trPtr t44]) := hide (by rw [hq44]; exact hw10 ▸ HG9.out.set_ 0 _); have HC10 : Hid (ChgS (fun k => k = g) w9 w10) := hide (hw10 ▸ chg_set (S := fun k => k = g) (p := ⟨g, 0, none⟩) rfl _); have HT10 := hide (h44b.chg HC10.out (fun k hk e => hg44 (e ▸ hk)) (fun k hF e => HgF.out (e ▸ hF))); have HCw : Hid (ChgS (fun k => k = g ∨ k ∈ trB t) w w10) := hide (chg_trans (chg_trans (chg_below (S := fun k => k = g ∨ k ∈ trB t) HB2.out) h44d (fun k h => .inl (.inr h))) HC10.out (fun k h => .inl (.inl h))); have HPu := hide h44a; have HSu := hide (fun k hk => (h44c k hk).imp id (Nat.le_trans HB2.out.size)); have Hc44 := hide hc44; have HWd := hide hw10; clear hw10 hq44 h44a h44b h44c h44d hb7 hg44 hc44 htl
    go_upto_region 8 with fail
    rw [HWd.out]; clear zg zgf; have z0 : w10.cell? ⟨w.heap.size + 1 + 1, 0, none⟩ = some (.int .i64 0) := HZ10.out.cell 0; have z1 : w10.cell? ⟨w.heap.size + 1 + 1, 1, none⟩ = some (.int .i64 0) := HZ10.out.cell 1; have z2 : w10.cell? ⟨w.heap.size + 1 + 1, 2, none⟩ = some (.slice none 0 0) := HZ10.out.cell 2; have z3 : w10.cell? ⟨w.heap.size + 1 + 1, 3, none⟩ = some (.int .u32 0) := HZ10.out.cell 3; have z4 : w10.cell? ⟨w.heap.size + 1 + 1, 4, none⟩ = some (.int .u32 0) := HZ10.out.cell 4; have z5 : w10.cell? ⟨w.heap.size + 1 + 1, 5, none⟩ = some (.int .u32 0) := HZ10.out.cell 5; have z6 : w10.cell? ⟨w.heap.size + 1 + 1, 6, none⟩ = some (.int .u32 0) := HZ10.out.cell 6; have z7 : w10.cell? ⟨w.heap.size + 1 + 1, 7, none⟩ = some (.int .u32 0) := HZ10.out.cell 7; have z8 : w10.cell? ⟨w.heap.size + 1 + 1, 8, none⟩ = some (.slice none 0 0) := HZ10.out.cell 8; have zf := fun i => HZ10.out.frozen i; go_wp2; change bodyPost _ _ _ _ _ (w10.setCells (w.heap.size + 1 + 1) 0 [.int .i64 0, .int .i64 0, .slice none 0 0, .int .u32 0, .int .u32 0, .int .u32 0, .int .u32 0, .int .u32 0, .slice none 0 0]); obtain ⟨wF, hwF⟩ : ∃ x, w10.setCells (w.heap.size + 1 + 1) 0 [.int .i64 0, .int .i64 0, .slice none 0 0, .int .u32 0, .int .u32 0, .int .u32 0, .int .u32 0, .int .u32 0, .slice none 0 0] = x := ⟨_, rfl⟩
    have HFk := hide (hwF ▸ blk_sets [.int .i64 0, .int .i64 0, .slice none 0 0, .int .u32 0, .int .u32 0, .int .u32 0, .int .u32 0, .int .u32 0, .slice none 0 0] [] [.int .i64 0, .int .i64 0, .slice none 0 0, .int .u32 0, .int .u32 0, .int .u32 0, .int .u32 0, .int .u32 0, .slice none 0 0] HZ10.out rfl : Blk wF (w.heap.size + 1 + 1) 28 #[.int .i64 0, .int .i64 0, .slice none 0 0, .int .u32 0, .int .u32 0, .int .u32 0, .int .u32 0, .int .u32 0, .slice none 0 0]); have HFg := hide (hwF ▸ blk_sets_far (by omega) [.int .i64 0, .int .i64 0, .slice none 0 0, .int .u32 0, .int .u32 0, .int .u32 0, .int .u32 0, .int .u32 0, .slice none 0 0] 0 HG10.out : Blk wF g 201 _); have HFc : Hid (ChgS (fun k => k = w.heap.size + 1 + 1) w10 wF) := hide (hwF ▸ chg_sets (S := fun k => k = w.heap.size + 1 + 1) rfl [.int .i64 0, .int .i64 0, .slice none 0 0, .int .u32 0, .int .u32 0, .int .u32 0, .int .u32 0, .int .u32 0, .slice none 0 0] 0); rw [hwF]; clear hwF z0 z1 z2 z3 z4 z5 z6 z7 z8 zf; have z0 : wF.cell? ⟨w.heap.size + 1 + 1, 0, none⟩ = some (.int .i64 0) := HFk.out.cell 0; have z1 : wF.cell? ⟨w.heap.size + 1 + 1, 1, none⟩ = some (.int .i64 0) := HFk.out.cell 1; have z2 : wF.cell? ⟨w.heap.size + 1 + 1, 2, none⟩ = some (.slice none 0 0) := HFk.out.cell 2; have z3 : wF.cell? ⟨w.heap.size + 1 + 1, 3, none⟩ = some (.int .u32 0) := HFk.out.cell 3; have z4 : wF.cell? ⟨w.heap.size + 1 + 1, 4, none⟩ = some (.int .u32 0) := HFk.out.cell 4; have z5 : wF.cell? ⟨w.heap.size + 1 + 1, 5, none⟩ = some (.int .u32 0) := HFk.out.cell 5; have z6 : wF.cell? ⟨w.heap.size + 1 + 1, 6, none⟩ = some (.int .u32 0) := HFk.out.cell 6; have z7 : wF.cell? ⟨w.heap.size + 1 + 1, 7, none⟩ = some (.int .u32 0) := HFk.out.cell 7; have z8 : wF.cell? ⟨w.heap.size + 1 + 1, 8, none⟩ = some (.slice none 0 0) := HFk.out.cell 8; refine bodyPost_ret (v := .tuple #[.agg #[.int .i64 0, .int .i64 0, .slice none 0 0, .int .u32 0, .int .u32 0, .int .u32 0, .int .u32 0, .int .u32 0, .slice none 0 0], .bool false]) (by simp [results, Tryz.results80, go_sem, z0, z1, z2, z3, z4, z5, z6, z7, z8]) rfl ⟨rfl, t44, HPu.out, HFg.out, HT10.out.chg HFc.out (fun k hk e => Hc44.out (e ▸ hk)) (fun k hF e => by have := HF.out k hF; omega), HSu.out, chg_trans HCw.out HFc.out (fun k h => .inr (by omega))⟩
set_option maxRecDepth 100000 in
set_option maxHeartbeats 32000000 in
theorem putfA_any {α : Type} {F : Nat → Prop} {R : World → List Value → α → Prop} (g a n : Nat) (t : Tr α) (x y : α) (vh vo : Int) (vA : Option Addr) (vn vc : Nat) (vp vm vf vs vi : Int) (vB : Option Addr) (vk vd : Nat) (w : World) (ha : PG a n) (hg : Blk w g 201 #[trPtr t]) (h : TrA 9 205 F R w t) (hF : ∀ k, F k → k < w.heap.size) (hv : FrS F none (fun w => R w [.int .i64 vh, .int .i64 vo, .slice vA vn vc, .int .u32 vp, .int .u32 vm, .int .u32 vf, .int .u32 vs, .int .u32 vi, .slice vB vk vd] x) w) (hgF : ¬ F g) (hgB : g ∉ trB t) (hcn : trCnt t < 100000000) (hyes : trGet a n t = some y) :
  Calls Tryz.prog 80 #[.pointer (some ⟨g, 0, none⟩), .agg #[.int .u32 (a : Int), .int .i64 (n : Int)], .agg #[.int .i64 vh, .int .i64 vo, .slice vA vn vc, .int .u32 vp, .int .u32 vm, .int .u32 vf, .int .u32 vs, .int .u32 vi, .slice vB vk vd]] w fun e w' => ∃ v0 v1 v2 v3 v4 v5 v6 v7 v8, e = .returned (.tuple #[.agg #[v0, v1, v2, v3, v4, v5, v6, v7, v8], .bool true]) ∧ FrS F none (fun w => R w [v0, v1, v2, v3, v4, v5, v6, v7, v8] y) w' ∧ PutR a n x t (trUpd a n x t) ∧ Blk w' g 201 #[trPtr (trUpd a n x t)] ∧ TrA 9 205 F R w' (trUpd a n x t) ∧ ChgS (fun k => k ∈ trB t) w w' := by
 obtain ⟨w0, hw0⟩ : ∃ w0, ((w.alloc (.cells #[.int .u32 (a : Int), .int .i64 (n : Int)] 24)).alloc (.cells #[.int .i64 vh, .int .i64 vo, .slice vA vn vc, .int .u32 vp, .int .u32 vm, .int .u32 vf, .int .u32 vs, .int .u32 vi, .slice vB vk vd] 28)).alloc (.cells #[.int .i64 0, .int .i64 0, .slice none 0 0, .int .u32 0, .int .u32 0, .int .u32 0, .int .u32 0, .int .u32 0, .slice none 0 0] 28) = w0 := ⟨_, rfl⟩
 have hb0 : Below w.heap.size w w0 := hw0 ▸ blkBelow3q w _ _ _; have HX0 : Hid (Blk w0 w.heap.size 24 #[.int .u32 (a : Int), .int .i64 (n : Int)]) := hide (hw0 ▸ ((Blk.new w _ _).alloc _).alloc _); have HV0 : Hid (Blk w0 (w.heap.size + 1) 28 #[.int .i64 vh, .int .i64 vo, .slice vA vn vc, .int .u32 vp, .int .u32 vm, .int .u32 vf, .int .u32 vs, .int .u32 vi, .slice vB vk vd]) := hide (hw0 ▸ (blk_new' _ _ (by simp)).alloc _); have HZ0 : Hid (Blk w0 (w.heap.size + 1 + 1) 28 #[.int .i64 0, .int .i64 0, .slice none 0 0, .int .u32 0, .int .u32 0, .int .u32 0, .int .u32 0, .int .u32 0, .slice none 0 0]) := hide (hw0 ▸ blk_new' _ _ (by simp)); have HGd := hide (Good_any a (n : Int) ha.1 (by omega) (by have := ha.2.1; omega)); rw [good_pg ha] at HGd; unfold pfx at HGd; have HFd := hide (fun W (hb : Below w.heap.size w W) => findA_any (F := F) (R := R) g a n t W ha (hg.below hb hg.lt) (h.mem.chg (S := fun _ => False) (chg_below hb) (by simp) (by simp)) h.wf); have hgf := trGet_find a n t; have HG := hide hg; have HT := hide h; have HW0 := hide hw0; have HB0 := hide hb0; have HFv := hide hv; have HF := hide hF; have HPa := hide ha; have HgF := hide hgF; have HgB := hide hgB; have HCt := hide hcn; clear hw0 hb0 hg hF hv ha hgF hgB hcn h
 go_enter Tryz.func80, Tryz.ntmps80
 go_wp2_with fail
 rw [HW0.out]; refine (HGd.out _).mono ?_; rintro e w1 ⟨rfl, hb1⟩; have HB1 := hide (HB0.out.trans (hb1.mono HB0.out.size)); have HX1 := hide (HX0.out.below hb1 HX0.out.lt); have x0 : w1.cell? ⟨w.heap.size, 0, none⟩ = some (.int .u32 (a : Int)) := HX1.out.cell 0; have x1 : w1.cell? ⟨w.heap.size, 1, none⟩ = some (.int .i64 (n : Int)) := HX1.out.cell 1; have HV1 := hide (HV0.out.below hb1 HV0.out.lt); have HZ1 := hide (HZ0.out.below hb1 HZ0.out.lt); clear hb1
 go_wp2_with fail
 refine (HFd.out _ HB1.out).mono ?_; rintro e w2 ⟨rfl, hb2⟩; have HB2 := hide (HB1.out.trans (hb2.mono HB1.out.size)); have HX2 := hide (HX1.out.below hb2 HX1.out.lt); have HV2 := hide (HV1.out.below hb2 HV1.out.lt); have HZ2 := hide (HZ1.out.below hb2 HZ1.out.lt); have HG2 := hide (HG.out.below HB2.out HG.out.lt); have HT2 := hide (HT.out.chg (S := fun _ => False) (chg_below HB2.out) (by simp) (by simp)); have hfw := trFind_w a n t HT2.out.mem; have hfb := trFind_sub a n t; clear hb2 x0 x1; obtain ⟨s, hs⟩ : ∃ s, trFind a n t = s := ⟨_, rfl⟩
 have HS := hide hs; rw [hs] at hfw hfb hgf ⊢; rw [hyes] at hgf
 cases s with
 | nil => exact absurd hgf (by simp)
 | nd b p m v l0 r0 =>
 simp only at hgf; subst hgf; obtain ⟨rfl, rfl⟩ := trFind_key t HS.out; obtain ⟨⟨vs, hvo, hk, hval⟩, _, _⟩ := hfw; obtain ⟨v0, v1, v2, v3, v4, v5, v6, v7, v8, rfl⟩ := lenA hvo; have HOne := hide hvo.2; have HVy := hide (hval y rfl); have hbt : b ∈ trB t := hfb b (by simp [trB]); have hbl := HT.out.mem.lt b hbt; have HNe : Hid (b ≠ w.heap.size + 1 + 1) := hide (by omega); have HNv : Hid (w.heap.size + 1 ≠ b) := hide (by omega); have HNv1 : Hid (w.heap.size + 1 ≠ w.heap.size + 1 + 1) := hide (by omega); have HPut := hide (trUpd_put (x := x) HPa.out t HT.out.wf hyes); obtain ⟨cn, hcn⟩ : ∃ c, trCnt l0 + trCnt r0 + 1 = c := ⟨_, rfl⟩
 have HN2 : Hid (Blk w2 b 205 (ndC p m [v0, v1, v2, v3, v4, v5, v6, v7, v8] true cn (trPtr l0) (trPtr r0))) := hide (hcn ▸ hk); have HCn := hide hcn; have e0 : trPtr (.nd b p m (some y) l0 r0 : Tr α) = .pointer (some ⟨b, 0, none⟩) := rfl; rw [e0]; have yp : w2.cell? ⟨b, 11, none⟩ = some (.bool true) := HN2.out.cell 11; have Hbt := hide hbt; clear e0 hk hfb hs hyes hvo hval hcn hbt hbl
 go_upto_region 5 with fail
 clear yp; refine wp_region_relH 10 0 (Nat.zero_le _) [(fun v _ => v = .pointer (some ⟨b, 0, none⟩)), (fun v _ => v = .pointer (some ⟨b, 0, none⟩)), (fun v _ => v = .pointer (some ⟨b, 0, none⟩)), (fun v _ => v = .pointer (some ⟨b, 2, none⟩)), (fun v _ => v = .agg #[v0, v1, v2, v3, v4, v5, v6, v7, v8]), (fun v _ => v = .agg #[.int .i64 vh, .int .i64 vo, .slice vA vn vc, .int .u32 vp, .int .u32 vm, .int .u32 vf, .int .u32 vs, .int .u32 vi, .slice vB vk vd]), (fun _ W => Blk W (w.heap.size + 1 + 1) 28 #[v0, v1, v2, v3, v4, v5, v6, v7, v8]), (fun v _ => v = .pointer (some ⟨b, 0, none⟩)), (fun v _ => v = .pointer (some ⟨b, 2, none⟩)), (fun _ W => Both5 w2 W (fun k => k = b ∨ k = w.heap.size + 1 + 1) b 205 (ndC p m [.int .i64 vh, .int .i64 vo, .slice vA vn vc, .int .u32 vp, .int .u32 vm, .int .u32 vf, .int .u32 vs, .int .u32 vi, .slice vB vk vd] true cn (trPtr l0) (trPtr r0)))] (fun i W => Blk W (w.heap.size + 1) 28 #[.int .i64 vh, .int .i64 vo, .slice vA vn vc, .int .u32 vp, .int .u32 vm, .int .u32 vf, .int .u32 vs, .int .u32 vi, .slice vB vk vd] ∧ ChgS (fun k => k = b ∨ k = w.heap.size + 1 + 1) w2 W ∧ (i = 6 → Blk W (w.heap.size + 1 + 1) 28 #[.int .i64 0, .int .i64 0, .slice none 0 0, .int .u32 0, .int .u32 0, .int .u32 0, .int .u32 0, .int .u32 0, .slice none 0 0]) ∧ (i = 4 ∨ i = 9 → Blk W b 205 (ndC p m [v0, v1, v2, v3, v4, v5, v6, v7, v8] true cn (trPtr l0) (trPtr r0)))) (fun i Wa Wb => if i = 6 then EffC (w.heap.size + 1 + 1) 0 [v0, v1, v2, v3, v4, v5, v6, v7, v8] Wa Wb else if i = 9 then EffC b 2 [.int .i64 vh, .int .i64 vo, .slice vA vn vc, .int .u32 vp, .int .u32 vm, .int .u32 vf, .int .u32 vs, .int .u32 vi, .slice vB vk vd] Wa Wb else Below Wa.heap.size Wa Wb) (by kernel_rfl) (by kernel_rfl) (by kernel_rfl) (by kernel_rfl) (by kernel_rfl) ?hE ?hR ?hP ?h0 ⟨?_, ?_, ?_, ?_, ?_, ?_, ?_, ?_, ?_, ?_, trivial⟩ ?_
 case hE =>
  intro i2 wa wb hB he; split at he
  ·exact effC_below he
  ·split at he
   ·exact effC_below he
   ·exact he.mono (Nat.zero_le _)
 case hR =>
  intro i2 j2 vz wa wb hij hB he h; split at he
  ·rename_i hj2; subst hj2; refine keepAll_at (E := EffC (w.heap.size + 1 + 1) 0 [v0, v1, v2, v3, v4, v5, v6, v7, v8]) (x := 6) (k := 0) ?_ (by omega) he h; exact ⟨fun _ v wa wb he h => h, fun _ v wa wb he h => h, fun _ v wa wb he h => h, fun _ v wa wb he h => h, fun _ v wa wb he h => h, fun _ v wa wb he h => h, fun hn => absurd rfl hn, fun _ v wa wb he h => h, fun _ v wa wb he h => h, fun _ v wa wb he h => ⟨effC_blk he HNe.out h.1, effC_chg he h.2 (.inr rfl)⟩, trivial⟩
  ·split at he
   ·rename_i hj2; subst hj2; refine keepAll_at (E := EffC b 2 [.int .i64 vh, .int .i64 vo, .slice vA vn vc, .int .u32 vp, .int .u32 vm, .int .u32 vf, .int .u32 vs, .int .u32 vi, .slice vB vk vd]) (x := 9) (k := 0) ?_ (by omega) he h; exact ⟨fun _ v wa wb he h => h, fun _ v wa wb he h => h, fun _ v wa wb he h => h, fun _ v wa wb he h => h, fun _ v wa wb he h => h, fun _ v wa wb he h => h, fun _ v wa wb he h => effC_blk he HNe.out.symm h, fun _ v wa wb he h => h, fun _ v wa wb he h => h, fun hn => absurd rfl hn, trivial⟩
   ·refine relMono _ ?_ i2 vz wa wb he h; exact ⟨fun _ _ _ _ h => h, fun _ _ _ _ h => h, fun _ _ _ _ h => h, fun _ _ _ _ h => h, fun _ _ _ _ h => h, fun _ _ _ _ h => h, fun v wa wb hb h => h.below hb h.lt, fun _ _ _ _ h => h, fun _ _ _ _ h => h, fun v wa wb hb h => ⟨h.1.below hb h.1.lt, chg_trans h.2 (chg_below (S := fun _ => False) hb) (fun k h => h.elim)⟩, trivial⟩
 case hP =>
  intro i2 j2 wa wb hij hnb hB he h; split at he
  ·rename_i hj2; subst hj2; exact ⟨effC_blk he HNv1.out h.1, effC_chg he h.2.1 (.inr rfl), fun e => absurd e hij, fun e => effC_blk he HNe.out (h.2.2.2 e)⟩
  ·split at he
   ·rename_i hj2; subst hj2; refine ⟨effC_blk he HNv.out h.1, effC_chg he h.2.1 (.inl rfl), fun e => effC_blk he HNe.out.symm (h.2.2.1 e), fun e => ?_⟩; rcases e with rfl | rfl
    ·exact absurd hnb (by decide +kernel)
    ·exact absurd rfl hij
   ·exact ⟨h.1.below he h.1.lt, chg_trans h.2.1 (chg_below (S := fun _ => False) he) (fun k h => h.elim), fun e => (h.2.2.1 e).below he (h.2.2.1 e).lt, fun e => (h.2.2.2 e).below he (h.2.2.2 e).lt⟩
 case h0 =>
  intro j2 hj2; exact ⟨HV2.out.drew, ⟨rfl, rfl, rfl, Nat.le_refl _, fun _ _ _ => rfl⟩, fun _ => HZ2.out.drew, fun _ => HN2.out.drew⟩
 ·exact relG_plain rfl rfl (fun _ _ h => h) fun Ac w5 hp => pureM (ptv b 0) 8 (hp.out 8 (by rfl))
 ·exact relG_plain rfl rfl (fun _ _ h => h) fun Ac w5 hp => pureM (ptv b 0) 8 (hp.out 8 (by rfl))
 ·exact relG_plain rfl rfl (fun _ _ h => h) fun Ac w5 hp => pureM (ptv b 0) 29 (hp.d 1)
 ·exact relG_plain rfl rfl (fun _ _ h => h) fun Ac w5 hp => pure1 (ptv b 2) 30 (ptv b 0) (hp.d 2)
 ·refine relG_plain rfl rfl (fun _ _ h => h) ?_; intro Ac w5 hp; obtain ⟨hqv, hqc, hq1, hq2⟩ := hp.pre; have hk5 := hq2 (by decide); have y0 : w5.cell? ⟨b, 2, none⟩ = some v0 := hk5.cell 2; have y1 : w5.cell? ⟨b, 3, none⟩ = some v1 := hk5.cell 3; have y2 : w5.cell? ⟨b, 4, none⟩ = some v2 := hk5.cell 4; have y3 : w5.cell? ⟨b, 5, none⟩ = some v3 := hk5.cell 5; have y4 : w5.cell? ⟨b, 6, none⟩ = some v4 := hk5.cell 6; have y5 : w5.cell? ⟨b, 7, none⟩ = some v5 := hk5.cell 7; have y6 : w5.cell? ⟨b, 8, none⟩ = some v6 := hk5.cell 8; have y7 : w5.cell? ⟨b, 9, none⟩ = some v7 := hk5.cell 9; have y8 : w5.cell? ⟨b, 10, none⟩ = some v8 := hk5.cell 10; exact pure1 (.agg #[v0, v1, v2, v3, v4, v5, v6, v7, v8]) 31 (ptv b 2) (hp.d 3)
 ·refine relG_plain rfl rfl (fun _ _ h => h) ?_; intro Ac w5 hp; obtain ⟨hqv, hqc, hq1, hq2⟩ := hp.pre; have u0 : w5.cell? ⟨w.heap.size + 1, 0, none⟩ = some (.int .i64 vh) := hqv.cell 0; have u1 : w5.cell? ⟨w.heap.size + 1, 1, none⟩ = some (.int .i64 vo) := hqv.cell 1; have u2 : w5.cell? ⟨w.heap.size + 1, 2, none⟩ = some (.slice vA vn vc) := hqv.cell 2; have u3 : w5.cell? ⟨w.heap.size + 1, 3, none⟩ = some (.int .u32 vp) := hqv.cell 3; have u4 : w5.cell? ⟨w.heap.size + 1, 4, none⟩ = some (.int .u32 vm) := hqv.cell 4; have u5 : w5.cell? ⟨w.heap.size + 1, 5, none⟩ = some (.int .u32 vf) := hqv.cell 5; have u6 : w5.cell? ⟨w.heap.size + 1, 6, none⟩ = some (.int .u32 vs) := hqv.cell 6; have u7 : w5.cell? ⟨w.heap.size + 1, 7, none⟩ = some (.int .u32 vi) := hqv.cell 7; have u8 : w5.cell? ⟨w.heap.size + 1, 8, none⟩ = some (.slice vB vk vd) := hqv.cell 8; exact pure1 (.agg #[.int .i64 vh, .int .i64 vo, .slice vA vn vc, .int .u32 vp, .int .u32 vm, .int .u32 vf, .int .u32 vs, .int .u32 vi, .slice vB vk vd]) 5 (ptv (w.heap.size + 1) 0) (hp.out 5 (by rfl))
 ·refine relG_store rfl ?_; intro Ac w5 hp; have a6 : Ac.eval (.tmp 6) = .pointer (some ⟨w.heap.size + 1 + 1, 0, none⟩) := hp.out 6 (by rfl); have a32 : Ac.eval (.tmp 32) = .agg #[v0, v1, v2, v3, v4, v5, v6, v7, v8] := hp.d 4; obtain ⟨hqv, hqc, hq1, hq2⟩ := hp.pre; have HK := hide (hq1 rfl); clear hp hqv hqc hq1 hq2; exact ⟨w5.setCells (w.heap.size + 1 + 1) 0 [v0, v1, v2, v3, v4, v5, v6, v7, v8], .inl (exec_store rfl a6 a32 (stA_box HK.out HOne.out)), blk_sets [v0, v1, v2, v3, v4, v5, v6, v7, v8] [] [.int .i64 0, .int .i64 0, .slice none 0 0, .int .u32 0, .int .u32 0, .int .u32 0, .int .u32 0, .int .u32 0, .slice none 0 0] HK.out rfl, rfl⟩
 ·exact relG_plain rfl rfl (fun _ _ h => h) fun Ac w5 hp => pureM (ptv b 0) 28 (hp.d 0)
 ·exact relG_plain rfl rfl (fun _ _ h => h) fun Ac w5 hp => pure1 (ptv b 2) 34 (ptv b 0) (hp.d 7)
 ·refine relG_store rfl ?_; intro Ac w5 hp; have a35 : Ac.eval (.tmp 35) = .pointer (some ⟨b, 2, none⟩) := hp.d 8; have a33 : Ac.eval (.tmp 33) = .agg #[.int .i64 vh, .int .i64 vo, .slice vA vn vc, .int .u32 vp, .int .u32 vm, .int .u32 vf, .int .u32 vs, .int .u32 vi, .slice vB vk vd] := hp.d 5; obtain ⟨hqv, hqc, hq1, hq2⟩ := hp.pre; have HK := hide (hq2 (by decide)); have HQc := hide hqc; clear hp hqv hqc hq1 hq2; exact ⟨w5.setCells b 2 [.int .i64 vh, .int .i64 vo, .slice vA vn vc, .int .u32 vp, .int .u32 vm, .int .u32 vf, .int .u32 vs, .int .u32 vi, .slice vB vk vd], .inl (exec_store rfl a35 a33 (stA_nd HK.out)), ⟨blk_setsM [.bool true, .int .i64 (cn : Int), trPtr l0, trPtr r0] [.int .i64 vh, .int .i64 vo, .slice vA vn vc, .int .u32 vp, .int .u32 vm, .int .u32 vf, .int .u32 vs, .int .u32 vi, .slice vB vk vd] [.int .u32 (p : Int), .int .i64 (m : Int)] [v0, v1, v2, v3, v4, v5, v6, v7, v8] HK.out rfl, chg_trans HQc.out (chg_sets (S := fun k => k = b) rfl _ 2) (fun k h => .inl (.inl h))⟩, rfl⟩
 intro u w9 hb7 hall; have efin : Blk w9 (w.heap.size + 1 + 1) 28 #[v0, v1, v2, v3, v4, v5, v6, v7, v8] := relAll_at hall (i := 6) (by decide +kernel); have efin1 : Both5 w2 w9 (fun k => k = b ∨ k = w.heap.size + 1 + 1) b 205 (ndC p m [.int .i64 vh, .int .i64 vo, .slice vA vn vc, .int .u32 vp, .int .u32 vm, .int .u32 vf, .int .u32 vs, .int .u32 vi, .slice vB vk vd] true cn (trPtr l0) (trPtr r0)) := relAll_at hall (i := 9) (by decide +kernel); clear hall; simp only [List.drop_succ_cons, List.drop_zero, List.take_succ_cons, List.take_zero, putAll, Act.put, List.setIfInBounds_toArray, List.set_cons_zero, List.set_cons_succ, Nat.zero_add, Nat.reduceAdd, ]; have HC9 := hide efin; have HB9 := hide efin1; clear hb7 efin efin1; have z0 : w9.cell? ⟨w.heap.size + 1 + 1, 0, none⟩ = some v0 := HC9.out.cell 0; have z1 : w9.cell? ⟨w.heap.size + 1 + 1, 1, none⟩ = some v1 := HC9.out.cell 1; have z2 : w9.cell? ⟨w.heap.size + 1 + 1, 2, none⟩ = some v2 := HC9.out.cell 2; have z3 : w9.cell? ⟨w.heap.size + 1 + 1, 3, none⟩ = some v3 := HC9.out.cell 3; have z4 : w9.cell? ⟨w.heap.size + 1 + 1, 4, none⟩ = some v4 := HC9.out.cell 4; have z5 : w9.cell? ⟨w.heap.size + 1 + 1, 5, none⟩ = some v5 := HC9.out.cell 5; have z6 : w9.cell? ⟨w.heap.size + 1 + 1, 6, none⟩ = some v6 := HC9.out.cell 6; have z7 : w9.cell? ⟨w.heap.size + 1 + 1, 7, none⟩ = some v7 := HC9.out.cell 7; have z8 : w9.cell? ⟨w.heap.size + 1 + 1, 8, none⟩ = some v8 := HC9.out.cell 8; have o0 := runS Tryz.prog v0 (HOne.out v0 (by simp)); have o1 := runS Tryz.prog v1 (HOne.out v1 (by simp)); have o2 := runS Tryz.prog v2 (HOne.out v2 (by simp)); have o3 := runS Tryz.prog v3 (HOne.out v3 (by simp)); have o4 := runS Tryz.prog v4 (HOne.out v4 (by simp)); have o5 := runS Tryz.prog v5 (HOne.out v5 (by simp)); have o6 := runS Tryz.prog v6 (HOne.out v6 (by simp)); have o7 := runS Tryz.prog v7 (HOne.out v7 (by simp)); have o8 := runS Tryz.prog v8 (HOne.out v8 (by simp)); have zf := fun i => HC9.out.frozen i; go_wp2; change bodyPost _ _ _ _ _ (w9.setCells (w.heap.size + 1 + 1) 0 [v0, v1, v2, v3, v4, v5, v6, v7, v8]); obtain ⟨wF, hwF⟩ : ∃ x, w9.setCells (w.heap.size + 1 + 1) 0 [v0, v1, v2, v3, v4, v5, v6, v7, v8] = x := ⟨_, rfl⟩
 have HFk := hide (hwF ▸ blk_sets [v0, v1, v2, v3, v4, v5, v6, v7, v8] [] [v0, v1, v2, v3, v4, v5, v6, v7, v8] HC9.out rfl : Blk wF (w.heap.size + 1 + 1) 28 #[v0, v1, v2, v3, v4, v5, v6, v7, v8]); have HFb := hide (hwF ▸ blk_sets_far HNe.out [v0, v1, v2, v3, v4, v5, v6, v7, v8] 0 HB9.out.1 : Blk wF b 205 _); have HFc : Hid (ChgS (fun k => k = b ∨ k = w.heap.size + 1 + 1) w2 wF) := hide (hwF ▸ chg_trans HB9.out.2 (chg_sets (S := fun k => k = w.heap.size + 1 + 1) rfl [v0, v1, v2, v3, v4, v5, v6, v7, v8] 0) (fun k h => .inl (.inr h))); rw [hwF]; clear hwF z0 z1 z2 z3 z4 z5 z6 z7 z8 o0 o1 o2 o3 o4 o5 o6 o7 o8 zf; have z0 : wF.cell? ⟨w.heap.size + 1 + 1, 0, none⟩ = some v0 := HFk.out.cell 0; have z1 : wF.cell? ⟨w.heap.size + 1 + 1, 1, none⟩ = some v1 := HFk.out.cell 1; have z2 : wF.cell? ⟨w.heap.size + 1 + 1, 2, none⟩ = some v2 := HFk.out.cell 2; have z3 : wF.cell? ⟨w.heap.size + 1 + 1, 3, none⟩ = some v3 := HFk.out.cell 3; have z4 : wF.cell? ⟨w.heap.size + 1 + 1, 4, none⟩ = some v4 := HFk.out.cell 4; have z5 : wF.cell? ⟨w.heap.size + 1 + 1, 5, none⟩ = some v5 := HFk.out.cell 5; have z6 : wF.cell? ⟨w.heap.size + 1 + 1, 6, none⟩ = some v6 := HFk.out.cell 6; have z7 : wF.cell? ⟨w.heap.size + 1 + 1, 7, none⟩ = some v7 := HFk.out.cell 7; have z8 : wF.cell? ⟨w.heap.size + 1 + 1, 8, none⟩ = some v8 := HFk.out.cell 8; have hcF : ChgS (fun k => k = b) w wF := chg_trans (chg_below HB2.out) HFc.out (fun k h => h.elim .inl (fun h => .inr (by omega))); obtain ⟨hTu, _⟩ := trUpd_mem (x := x) HPa.out (b := b) (us := [.int .i64 vh, .int .i64 vo, .slice vA vn vc, .int .u32 vp, .int .u32 vm, .int .u32 vf, .int .u32 vs, .int .u32 vi, .slice vB vk vd]) ⟨rfl, by simp [Value.oneCell']⟩ t HT.out HS.out hcF HFv.out (by rw [HCn.out]; exact HFb.out); have hbF : ¬ F b := HT.out.far b Hbt.out; refine bodyPost_ret (v := .tuple #[.agg #[v0, v1, v2, v3, v4, v5, v6, v7, v8], .bool true]) (by simp [results, Tryz.results80, go_sem, z0, z1, z2, z3, z4, z5, z6, z7, z8]) rfl ⟨v0, v1, v2, v3, v4, v5, v6, v7, v8, rfl, frs_chg HVy.out HFc.out (fun k hF h => h.elim (fun e => hbF (e ▸ hF)) (fun e => by have := HF.out k hF; omega)), HPut.out, ?_, hTu, chg_mono hcF (fun k h => .inl (h ▸ Hbt.out))⟩; rw [(trUpd_b t).2]; exact chg_blk hcF HG.out (fun e => HgB.out (e ▸ Hbt.out))
theorem trput_ok {a n : Nat} {X : AT} {t t2 : Tr AT} (hw : trWf t) (hp : PutR a n X t t2) (hok : ∀ z ∈ trL t, AtOk z.2.2) (hX : AtOk X) : ∀ z ∈ trL t2, AtOk z.2.2 := by
 rintro ⟨c, k, x⟩ hz; rw [trL_mem t2 hp.wf, hp.get] at hz; split at hz
 ·simp only [Option.some.injEq] at hz; subst hz; exact hX
 ·exact hok (c, k, x) ((trL_mem t hw).2 hz)
theorem trput_any (F : Nat → Prop) (g : Nat) (t : Tr AT) (a n b : Nat) (X : AT) (A : Option Addr) (k c : Nat) (B : Option Addr) (m d : Nat) (xs : List Value) (w : World) (hT : TrT F w g t) (ha : PG a n) (hX : AtOk X)
  (hl : LOw 2 133 sgR w b b A k c X.path xs) (hu : FrB b none (fun w => U32s w B m d X.comms) w) (hgb : g < b) (htb : ∀ j ∈ trB t, j < b) (hc : trCnt t < 100000) :
  Calls Tryz.prog 80 #[.pointer (some ⟨g, 0, none⟩), .agg #[.int .u32 (a : Int), .int .i64 (n : Int)], .agg #[.int .i64 X.has, .int .i64 X.org, .slice A k c, .int .u32 X.hop, .int .u32 X.med, .int .u32 X.pref, .int .u32 X.aas, .int .u32 X.aid, .slice B m d]] w fun e w' =>
   (∃ v q, e = .returned (.tuple #[v, .bool q])) ∧ ∃ t2, PutR a n X t t2 ∧ TrT (fun j => F j ∨ (b ≤ j ∧ j < w.heap.size)) w' g t2 ∧ (∀ j ∈ trB t2, j ∈ trB t ∨ w.heap.size ≤ j) ∧ ChgS (fun j => j = g ∨ j ∈ trB t) w w' := by
 have hF : ∀ j, (F j ∨ (b ≤ j ∧ j < w.heap.size)) → j < w.heap.size := fun j hj => hj.elim (fun h => hT.low j h) (fun h => h.2); have hgF : ¬ (F g ∨ (b ≤ g ∧ g < w.heap.size)) := fun h => h.elim hT.gF (fun h => by omega); have hA := hT.tree.more (F' := fun j => F j ∨ (b ≤ j ∧ j < w.heap.size)) (fun j h => .inl h) (fun j hj h => h.elim (hT.tree.far j hj) (fun h => by have := htb j hj; omega)); have hv : FrS (fun j => F j ∨ (b ≤ j ∧ j < w.heap.size)) none (fun w => atR w [.int .i64 X.has, .int .i64 X.org, .slice A k c, .int .u32 X.hop, .int .u32 X.med, .int .u32 X.pref, .int .u32 X.aas, .int .u32 X.aid, .slice B m d] X) w := fun w2 h2 => ato_frs hl hu w2 ⟨h2.1, fun j o hj h3 h4 h5 => h2.2 j o (.inr hj) h3 h4 h5⟩
 cases hg : trGet a n t with
 | none =>
  refine (putnA_any (R := atR) g a n t X X.has X.org A k c X.hop X.med X.pref X.aas X.aid B m d w ha hT.root hA hF hv hgF hT.gB (by omega) hg).mono ?_; rintro e w' ⟨rfl, t2, h1, h2, h3, h4, h5⟩; refine ⟨⟨_, _, rfl⟩, t2, h1, ⟨h2, h3, hgF, fun h => (h4 g h).elim hT.gB (fun h => by have := hT.root.lt; omega), fun j hj => Nat.lt_of_lt_of_le (hF j hj) h5.size, trput_ok hT.tree.wf h1 hT.ok hX, ?_⟩, h4, h5⟩; have := h1.cnt; rw [hg] at this; simp at this; omega
 | some y =>
  refine (putfA_any (R := atR) g a n t X y X.has X.org A k c X.hop X.med X.pref X.aas X.aid B m d w ha hT.root hA hF hv hgF hT.gB (by omega) hg).mono ?_; rintro e w' ⟨v0, v1, v2, v3, v4, v5, v6, v7, v8, rfl, _, h1, h2, h3, h5⟩; have hB : ∀ j ∈ trB (trUpd a n X t), j ∈ trB t := fun j hj => by rwa [(trUpd_b (a := a) (n := n) (x := X) t).1] at hj
  refine ⟨⟨_, _, rfl⟩, trUpd a n X t, h1, ⟨h2, h3, hgF, fun h => hT.gB (hB g h), fun j hj => Nat.lt_of_lt_of_le (hF j hj) h5.size, trput_ok hT.tree.wf h1 hT.ok hX, ?_⟩, fun j hj => .inl (hB j hj), chg_mono h5 (fun j hj => .inl (.inr hj))⟩; have := h1.cnt; rw [hg] at this; simp at this; have := hT.cnt; omega
def putZ (L : List (Nat × Nat × AT)) (z : Nat × Nat × AT) : List (Nat × Nat × AT) := putL z.1 z.2.1 z.2.2 L
def NrmA (L : List (Nat × Nat × AT)) : Prop := ∀ z ∈ L, normA z.2.2 = z.2.2
def WrB (r gt : Nat) (tt : Tr AT) (j : Nat) : Prop := j = r ∨ j = gt ∨ j ∈ trB tt
structure RSt (r ga gt : Nat) (m l : Nat) (Fa Ft : Nat → Prop) (ta tt : Tr AT) (w : World) : Prop where
  blk : Blk w r 119 #[.pointer (some ⟨ga, 0, none⟩), .pointer (some ⟨gt, 0, none⟩), .int .i64 (m : Nat), .int .i64 (l : Nat)]
  aim : TrT Fa w ga ta
  told : TrT Ft w gt tt
  na : NrmA (trL ta)
  nt : NrmA (trL tt)
  rFa : ¬ Fa r
  rFt : ¬ Ft r
  rga : r ≠ ga
  rgt : r ≠ gt
  rBa : r ∉ trB ta
  rBt : r ∉ trB tt
  ap : ∀ j, (j = gt ∨ j ∈ trB tt) → ¬ Fa j ∧ j ≠ ga ∧ j ∉ trB ta
theorem own_len {X : AT} (hn : normA X = X) (hk : AtOk X) : X.path.length ≤ 100000 := by
 have h : (normA X).path.length ≤ numS X.path := by
  unfold normA; simp only; split
  ·exact normS_len _
  ·simp
 rw [hn] at h; have := hk.1; omega
section
variable {r ga gt m l : Nat} {Fa Ft : Nat → Prop} {ta tt : Tr AT} {w w' : World}
theorem RSt.below (h : RSt r ga gt m l Fa Ft ta tt w) (hb : Below w.heap.size w w') : RSt r ga gt m l Fa Ft ta tt w' :=
 ⟨h.blk.below hb h.blk.lt, h.aim.below hb, h.told.below hb, h.na, h.nt, h.rFa, h.rFt, h.rga, h.rgt, h.rBa, h.rBt, h.ap⟩
theorem RSt.lt (h : RSt r ga gt m l Fa Ft ta tt w) : ∀ j, WrB r gt tt j → j < w.heap.size := by
 rintro j (rfl | rfl | hj)
 ·exact h.blk.lt
 ·exact h.told.root.lt
 ·exact h.told.tree.mem.lt j hj
theorem RSt.paths (h : RSt r ga gt m l Fa Ft ta tt w) : (∀ z ∈ trL ta, (normA z.2.2).path.length ≤ 100000 ∧ z.2.2.path.length ≤ 100000) ∧ (∀ z ∈ trL tt, (normA z.2.2).path.length ≤ 100000 ∧ z.2.2.path.length ≤ 100000) :=
 ⟨fun z hz => ⟨by rw [h.na z hz]; exact own_len (h.na z hz) (h.aim.ok z hz), own_len (h.na z hz) (h.aim.ok z hz)⟩, fun z hz => ⟨by rw [h.nt z hz]; exact own_len (h.nt z hz) (h.told.ok z hz), own_len (h.nt z hz) (h.told.ok z hz)⟩⟩
end
def HereR (r ga gt m : Nat) (Fa : Nat → Prop) (ta tt : Tr AT) (LK : List (Nat × Nat × AT)) (w w' : World) : Prop := ∃ tt' Ft', RSt r ga gt m (if LK.length = 0 then 0 else m) Fa Ft' ta tt' w' ∧ (∀ j, WrB r gt tt' j → WrB r gt tt j ∨ w.heap.size ≤ j) ∧ trL tt' = LK.foldl putZ (trL tt) ∧ trCnt tt' ≤ trCnt tt + trCnt ta ∧ ChgS (WrB r gt tt) w w'
set_option maxRecDepth 100000 in
theorem hereL_any (r ga gt m l : Nat) (Fa Ft : Nat → Prop) (ta tt : Tr AT) (w : World) (h : RSt r ga gt m (l + 1) Fa Ft ta tt w) :
  Calls Tryz.prog 23 #[.pointer (some ⟨r, 0, none⟩)] w fun e w' => e = .returned (.slice none 0 0) ∧ w' = w := by
 have z3 : w.cell? ⟨r, 3, none⟩ = some (.int .i64 ((l + 1 : Nat) : Int)) := h.blk.cell 3; clear h; obtain ⟨L, hL⟩ : ∃ L : Int, ((l + 1 : Nat) : Int) = L := ⟨_, rfl⟩
 have hp : 0 < L := (by omega)
 have hd : decide (0 < L) = true := decide_eq_true hp; rw [hL] at z3; clear hL
 go_enter Tryz.func23, Tryz.ntmps23
 go_wp2; go_ret; exact ⟨rfl, rfl⟩
set_option maxRecDepth 100000 in
set_option maxHeartbeats 8000000 in
theorem hereG_any (r ga gt m : Nat) (Fa Ft : Nat → Prop) (ta tt : Tr AT) (w : World) (h : RSt r ga gt m 0 Fa Ft ta tt w) (hct : trCnt tt + trCnt ta < 90000) :
    Calls Tryz.prog 23 #[.pointer (some ⟨r, 0, none⟩)] w fun e w' => ∃ A n c, e = .returned (.slice A n c) ∧ LstAt 11 tdR w' A n c (((trL ta).filter (lackG tt)).map tdN) ∧ HereR r ga gt m Fa ta tt ((trL ta).filter (lackG tt)) w w' := by
  have HLk := hide (fun W (hb : Below w.heap.size w W) => lacksG_any Fa Ft ga gt ta tt W (h.aim.below hb) (h.told.below hb) (fun z hz => (h.paths.1 z hz).1) (fun z hz => (h.paths.2 z hz).2))
  have HPG : Hid (∀ z ∈ (trL ta).filter (lackG tt), PG z.1 z.2.1 ∧ normA z.2.2 = z.2.2 ∧ AtOk z.2.2) := hide (fun z hz => by
    have hz := (List.mem_filter.1 hz).1; exact ⟨trGet_pg ta h.aim.tree.wf ((trL_mem ta h.aim.tree.wf).1 hz), h.na z hz, h.aim.ok z hz⟩)
  have hLl : ((trL ta).filter (lackG tt)).length ≤ trCnt ta := by
    have := List.length_filter_le (lackG tt) (trL ta); rw [trL_len] at this; exact this
  obtain ⟨LK, hLK⟩ : ∃ LK, (trL ta).filter (lackG tt) = LK := ⟨_, rfl⟩
  rw [hLK] at HLk HPG hLl ⊢; clear hLK; have HRr := hide h.blk; have HS := hide h; have hrl := h.blk.lt; have hgl := h.told.root.lt; have hbl := h.told.tree.mem.lt; have z0 : w.cell? ⟨r, 3, none⟩ = some (.int .i64 ((0 : Nat) : Int)) := h.blk.cell 3; have HBl := hide hbl; clear h hbl
  go_enter Tryz.func23, Tryz.ntmps23
  go_upto_region 3 with fail
  have Hmn := hide (show AllMono [(isV (ptv r 0)), (isV (ptv r 0)), (isV (ptv r 0)), (isV (ptv ga 0)), (isV (ptv r 0)), (isV (ptv r 0)), (isV (ptv r 1)), (isV (ptv gt 0)), (fun v W => ∃ A n c xs, v = .slice A n c ∧ LOw 11 71 tdR W w.heap.size w.heap.size A n c (LK.map tdN) xs)] from ⟨fun _ _ _ _ h => h, fun _ _ _ _ h => h, fun _ _ _ _ h => h, fun _ _ _ _ h => h, fun _ _ _ _ h => h, fun _ _ _ _ h => h, fun _ _ _ _ h => h, fun _ _ _ _ h => h, fun v w1 w2 hb ⟨A, n, c, xs, e, h⟩ => ⟨A, n, c, xs, e, h.below hb⟩, trivial⟩); refine wp_region_relT 9 _ (by kernel_rfl) (by kernel_rfl) (by kernel_rfl) (by kernel_rfl) (by kernel_rfl) (relMono _ Hmn.out) ⟨?_, ?_, ?_, ?_, ?_, ?_, ?_, ?_, ?_, trivial⟩ ?_
  · exact relStep_plain rfl fun Ac w5 hp => pureM (ptv r 0) 0 (hp.out 0 (by rfl))
  · exact relStep_plain rfl fun Ac w5 hp => pureM (ptv r 0) 15 (hp.d 0)
  · exact relStep_plain rfl fun Ac w5 hp => pureM (ptv r 0) 16 (hp.d 1)
  · refine relStep_plain rfl ?_; intro Ac w5 hp; have hb := hp.bel; have hr5 := HRr.out.below hb HRr.out.lt; have z0 : w5.cell? ⟨r, 0, none⟩ = some (ptv ga 0) := hr5.cell 0; exact pure1 (ptv ga 0) 17 (ptv r 0) (hp.d 2)
  · exact relStep_plain rfl fun Ac w5 hp => pureM (ptv r 0) 0 (hp.out 0 (by rfl))
  · exact relStep_plain rfl fun Ac w5 hp => pureM (ptv r 0) 19 (hp.d 4)
  · exact relStep_plain rfl fun Ac w5 hp => pure1 (ptv r 1) 20 (ptv r 0) (hp.d 5)
  · refine relStep_plain rfl ?_; intro Ac w5 hp; have hb := hp.bel; have hr5 := HRr.out.below hb HRr.out.lt; have z1 : w5.cell? ⟨r, 1, none⟩ = some (ptv gt 0) := hr5.cell 1; exact pure1 (ptv gt 0) 21 (ptv r 1) (hp.d 6)
  · refine relStep_plain rfl ?_; intro Ac w5 hp; have hb := hp.bel; have a18 : Ac.eval (.tmp 18) = .pointer (some ⟨ga, 0, none⟩) := hp.d 3; have a22 : Ac.eval (.tmp 22) = .pointer (some ⟨gt, 0, none⟩) := hp.d 7; obtain ⟨ρ, hρ, hc, hf, hgl⟩ := evalX Ac; rw [hρ] at a18 a22; refine relCall hρ 84 #[.pointer (some ⟨ga, 0, none⟩), .pointer (some ⟨gt, 0, none⟩)] (by simp [go_sem, ↓IntWalk.iteOmega, *]) ?_; refine (HLk.out w5 hb).mono ?_; rintro e w6 ⟨A6, n6, c6, xs6, rfl, hl6, hb6, _⟩; exact ⟨_, rfl, ⟨A6, n6, c6, xs6, rfl, hl6.less hb.size hb.size⟩, hb6⟩
  intro u w3 hb7 hall; obtain ⟨A3, n3, c3, xs3, e23, hl3⟩ := relAll_at hall (i := 8) (by decide +kernel); change u 8 = _ at e23; clear hall; simp only [List.drop_succ_cons, List.drop_zero, List.take_succ_cons, List.take_zero, putAll, Act.put, List.setIfInBounds_toArray, List.set_cons_zero, List.set_cons_succ, Nat.zero_add, Nat.reduceAdd, e23]; have HB3 := hide hb7; have hnL : LK.length = n3 := (by have := (hl3.lst (by decide)).1; rwa [List.length_map] at this)
  have HnL := hide hnL; have hcm := (hl3.lst (by decide)).2.2.1; have h1c := (hl3.lst (by decide)).2.1; unfold maxLen at hcm; have hn3 : n3 ≤ trCnt ta := (by omega)
  have hs3 := hb7.size; have HF3 : Hid (FrS (fun j => w.heap.size ≤ j ∧ j < w3.heap.size) none (fun W => LstAt 11 tdR W A3 n3 c3 (LK.map tdN)) w3) := hide (frs_of_frb (hl3.fr (by decide) (Nat.le_refl _))); have HRr3 := hide (HRr.out.below hb7 hrl); have HT3 := hide (HS.out.told.below hb7); have HNt := hide HS.out.nt; have hr3 : r < w3.heap.size := (by omega)
  have hg3 : gt < w3.heap.size := (by omega)
  clear hl3 hb7 z0 hnL hLl; go_wp2
  go_loopw [26] (fun iv wr => ∃ (q : Nat) (t : Tr AT) (F : Nat → Prop), q ≤ n3 ∧ iv = .int .i64 (q : Nat) ∧ Blk wr r 119 #[.pointer (some ⟨ga, 0, none⟩), .pointer (some ⟨gt, 0, none⟩), .int .i64 (m : Nat), .int .i64 ((0 : Nat) : Int)] ∧ TrT F wr gt t ∧ (∀ j, F j → Ft j ∨ w3.heap.size ≤ j) ∧ (∀ j ∈ trB t, j ∈ trB tt ∨ w3.heap.size ≤ j) ∧ trL t = (LK.take q).foldl putZ (trL tt) ∧ trCnt t ≤ trCnt tt + q ∧ NrmA (trL t) ∧ ChgS (fun j => j = gt ∨ j ∈ trB tt) w3 wr) (fun iv _ => n3 - (intOf iv).toNat)
  case atStart => exact ⟨0, tt, Ft, Nat.zero_le _, rfl, HRr3.out, HT3.out, fun j hj => .inl hj, fun j hj => .inl hj, rfl, by omega, HNt.out, chg_refl _ _⟩
  case round =>
    obtain ⟨q, t, F, hq, rfl, hrr, htt, hFl, htl, hLt, hct2, hnr, hc2⟩ := hrel; have HRr2 := hide hrr; have HTt := hide htt; have HFl := hide hFl; have HTl := hide htl; have HLt := hide hLt; have HCt := hide hct2; have HNr := hide hnr; have HC2 := hide hc2; have HLw := hide (frs_here (frs_chg HF3.out hc2 (fun j hj hw => hw.elim (fun e => by omega) (fun hm => by have := HBl.out j hm; omega)))); clear hrr htt hFl htl hLt hct2 hnr hc2; by_cases hlt : q < n3
    · obtain ⟨g3, o, x, XA, xn, xc, XB, xm, xd, rfl, hg2, hx, hxr, hxu, hcs⟩ := TDat (q := q) HLw.out hlt; rw [List.getElem?_map] at hx
      obtain ⟨z, hz⟩ : ∃ z, LK[q]? = some z := by
        cases hz : LK[q]? with
        | none => rw [hz] at hx; simp at hx
        | some z => exact ⟨z, rfl⟩
      rw [hz] at hx; simp only [Option.map_some, Option.some.injEq] at hx; subst hx; have HTk : Hid (LK.take (q + 1) = LK.take q ++ [z]) := hide (by rw [List.take_add_one, hz]; rfl); have hzm := HPG.out z (List.mem_of_getElem? hz); obtain ⟨a, n0, X⟩ := z; obtain ⟨hPg, hNX, hok⟩ := hzm; simp only at hPg hNX hok; have e1 : tdN (a, n0, X) = ⟨(a : Int), (n0 : Int), X⟩ := (by unfold tdN; simp only; rw [hNX])
      rw [e1] at hxr hxu hcs; simp only at hxr hxu hcs; have HPg := hide hPg; have HOk := hide hok; obtain ⟨Y, hY⟩ : ∃ Y, normA X = Y := ⟨_, rfl⟩
      have HYX : Hid (Y = X) := hide (by rw [← hY]; exact hNX); have HY := hide hY; have q1 : (q : Int) < (n3 : Int) := (by omega)
      have q0 : (0 : Int) ≤ (q : Int) := (by omega)
      have hwq : IntKind.i64.wrap ((q : Int) + 1) = (q : Int) + 1 := (by rw [IntKind.wrap_i64]; omega)
      clear hz hok hY hPg hNX e1; have f0 : wr.cell? ⟨g3, o + q * 11, none⟩ = some (.int .u32 (a : Int)) := hcs 0 _ rfl; have f1 : wr.cell? ⟨g3, o + q * 11 + 1, none⟩ = some (.int .i64 (n0 : Int)) := hcs 1 _ rfl; have f2 : wr.cell? ⟨g3, o + q * 11 + 2, none⟩ = some (.int .i64 X.has) := hcs 2 _ rfl; have f3 : wr.cell? ⟨g3, o + q * 11 + 3, none⟩ = some (.int .i64 X.org) := hcs 3 _ rfl; have f4 : wr.cell? ⟨g3, o + q * 11 + 4, none⟩ = some (.slice XA xn xc) := hcs 4 _ rfl; have f5 : wr.cell? ⟨g3, o + q * 11 + 5, none⟩ = some (.int .u32 X.hop) := hcs 5 _ rfl; have f6 : wr.cell? ⟨g3, o + q * 11 + 6, none⟩ = some (.int .u32 X.med) := hcs 6 _ rfl; have f7 : wr.cell? ⟨g3, o + q * 11 + 7, none⟩ = some (.int .u32 X.pref) := hcs 7 _ rfl; have f8 : wr.cell? ⟨g3, o + q * 11 + 8, none⟩ = some (.int .u32 X.aas) := hcs 8 _ rfl; have f9 : wr.cell? ⟨g3, o + q * 11 + 9, none⟩ = some (.int .u32 X.aid) := hcs 9 _ rfl; have f10 : wr.cell? ⟨g3, o + q * 11 + 10, none⟩ = some (.slice XB xm xd) := hcs 10 _ rfl; obtain ⟨w4, hw4⟩ : ∃ W, wr.alloc (.cells #[.int .u32 (a : Int), .int .i64 (n0 : Int), .int .i64 X.has, .int .i64 X.org, .slice XA xn xc, .int .u32 X.hop, .int .u32 X.med, .int .u32 X.pref, .int .u32 X.aas, .int .u32 X.aid, .slice XB xm xd] 71) = W := ⟨_, rfl⟩
      have hb4 : Below wr.heap.size wr w4 := hw4 ▸ blkBelow1 wr _; have HBx : Hid (Blk w4 wr.heap.size 71 #[.int .u32 (a : Int), .int .i64 (n0 : Int), .int .i64 X.has, .int .i64 X.org, .slice XA xn xc, .int .u32 X.hop, .int .u32 X.med, .int .u32 X.pref, .int .u32 X.aas, .int .u32 X.aid, .slice XB xm xd]) := hide (hw4 ▸ Blk.new wr _ _); have HRr := hide (HRr2.out.below hb4 HRr2.out.lt); have HXr := hide (hxr.below sgMono hb4); have HXu := hide (hxu.below hb4); have HB4 := hide hb4; have HW4 := hide hw4; clear hb4 hw4 hxr hxu hcs
      go_upto_region 7 with fail
      rw [HW4.out]; have Hmn := hide (show AllMono [(isV (ptv r 0)), (isV (ptv r 0)), (isV (ptv r 1)), (isV (ptv gt 0)), (isV (ptv wr.heap.size 0)), (isV (.agg #[.int .u32 (a : Int), .int .i64 (n0 : Int)])), (isV (ptv wr.heap.size 2)), (isV (atV X.has X.org XA xn xc X.hop X.med X.pref X.aas X.aid XB xm xd)), (fun v W2 => ∃ A n c B m d, v = atV Y.has Y.org A n c Y.hop Y.med Y.pref Y.aas Y.aid B m d ∧ (∃ xs, LOw 2 133 sgR W2 w4.heap.size w4.heap.size A n c Y.path xs) ∧ FrB w4.heap.size none (fun w => U32s w B m d Y.comms) W2)] from ⟨fun _ _ _ _ h => h, fun _ _ _ _ h => h, fun _ _ _ _ h => h, fun _ _ _ _ h => h, fun _ _ _ _ h => h, fun _ _ _ _ h => h, fun _ _ _ _ h => h, fun _ _ _ _ h => h, fun v w2 w3 hb ⟨A, n, c, B, m, d, e, ⟨xs, h1⟩, h2⟩ => ⟨A, n, c, B, m, d, e, ⟨xs, h1.below hb⟩, h2.below hb⟩, trivial⟩); refine wp_region_relT 9 _ (by kernel_rfl) (by kernel_rfl) (by kernel_rfl) (by kernel_rfl) (by kernel_rfl) (relMono _ Hmn.out) ⟨?_, ?_, ?_, ?_, ?_, ?_, ?_, ?_, ?_, trivial⟩ ?_
      · exact relStep_plain rfl fun Ac w5 hp => pureM (ptv r 0) 0 (hp.out 0 (by rfl))
      · exact relStep_plain rfl fun Ac w5 hp => pureM (ptv r 0) 30 (hp.d 0)
      · exact relStep_plain rfl fun Ac w5 hp => pure1 (ptv r 1) 31 (ptv r 0) (hp.d 1)
      · refine relStep_plain rfl ?_; intro Ac w5 hp; have hb := hp.bel; have hr5 := HRr.out.below hb HRr.out.lt; have z0 : w5.cell? ⟨r, 1, none⟩ = some (ptv gt 0) := hr5.cell 1; exact pure1 (ptv gt 0) 32 (ptv r 1) (hp.d 2)
      · exact relStep_plain rfl fun Ac w5 hp => pureM (ptv wr.heap.size 0) 5 (hp.out 5 (by rfl))
      · refine relStep_plain rfl ?_; intro Ac w5 hp; have hb := hp.bel; have hx5 := HBx.out.below hb HBx.out.lt; have z1 : w5.cell? ⟨wr.heap.size, 0, none⟩ = some (.int .u32 (a : Int)) := hx5.cell 0; have z2 : w5.cell? ⟨wr.heap.size, 1, none⟩ = some (.int .i64 (n0 : Int)) := hx5.cell 1; exact pure1 (.agg #[.int .u32 (a : Int), .int .i64 (n0 : Int)]) 34 (ptv wr.heap.size 0) (hp.d 4)
      · exact relStep_plain rfl fun Ac w5 hp => pure1 (ptv wr.heap.size 2) 5 (ptv wr.heap.size 0) (hp.out 5 (by rfl))
      · refine relStep_plain rfl ?_; intro Ac w5 hp; have hb := hp.bel; have hx5 := HBx.out.below hb HBx.out.lt; have z3 : w5.cell? ⟨wr.heap.size, 2, none⟩ = some (.int .i64 X.has) := hx5.cell 2; have z4 : w5.cell? ⟨wr.heap.size, 3, none⟩ = some (.int .i64 X.org) := hx5.cell 3; have z5 : w5.cell? ⟨wr.heap.size, 4, none⟩ = some (.slice XA xn xc) := hx5.cell 4; have z6 : w5.cell? ⟨wr.heap.size, 5, none⟩ = some (.int .u32 X.hop) := hx5.cell 5; have z7 : w5.cell? ⟨wr.heap.size, 6, none⟩ = some (.int .u32 X.med) := hx5.cell 6; have z8 : w5.cell? ⟨wr.heap.size, 7, none⟩ = some (.int .u32 X.pref) := hx5.cell 7; have z9 : w5.cell? ⟨wr.heap.size, 8, none⟩ = some (.int .u32 X.aas) := hx5.cell 8; have z10 : w5.cell? ⟨wr.heap.size, 9, none⟩ = some (.int .u32 X.aid) := hx5.cell 9; have z11 : w5.cell? ⟨wr.heap.size, 10, none⟩ = some (.slice XB xm xd) := hx5.cell 10; exact pure1 (atV X.has X.org XA xn xc X.hop X.med X.pref X.aas X.aid XB xm xd) 36 (ptv wr.heap.size 2) (hp.d 6)
      · refine relStep_plain rfl ?_; intro Ac w5 hp; have hb := hp.bel; have a37 : Ac.eval (.tmp 37) = atV X.has X.org XA xn xc X.hop X.med X.pref X.aas X.aid XB xm xd := hp.d 7; obtain ⟨ρ, hρ, hc, hf, hgl⟩ := evalX Ac; rw [hρ] at a37; refine relCall hρ 68 #[atV X.has X.org XA xn xc X.hop X.med X.pref X.aas X.aid XB xm xd] (by simp [go_sem, ↓IntWalk.iteOmega, *]) ?_; refine (attrNormX_any X (atV X.has X.org XA xn xc X.hop X.med X.pref X.aas X.aid XB xm xd) w5 ⟨XA, xn, xc, XB, xm, xd, rfl, HXr.out.below sgMono hb, HXu.out.below hb⟩ HOk.out.1 HOk.out.2).mono ?_; rintro e w6 ⟨v6, rfl, ⟨A6, n6, c6, xs6, B6, m6, d6, rfl, hl6, hu6⟩, hb6⟩; rw [HY.out] at hl6 hu6 ⊢; exact ⟨_, rfl, ⟨A6, n6, c6, B6, m6, d6, rfl, ⟨xs6, hl6.less hb.size hb.size⟩, hu6.less hb.size⟩, hb6⟩
      intro u w8 hb7 hall; have e33 : u 3 = .pointer (some ⟨gt, 0, none⟩) := relAll_at hall (i := 3) (by decide +kernel); have e35 : u 5 = .agg #[.int .u32 (a : Int), .int .i64 (n0 : Int)] := relAll_at hall (i := 5) (by decide +kernel); obtain ⟨A9, n9, c9, B9, m9, d9, e38, ⟨xs9, hl9⟩, hu9⟩ := relAll_at hall (i := 8) (by decide +kernel); change u 8 = _ at e38; clear hall; simp only [List.drop_succ_cons, List.drop_zero, List.take_succ_cons, List.take_zero, putAll, Act.put, List.setIfInBounds_toArray, List.set_cons_zero, List.set_cons_succ, Nat.zero_add, Nat.reduceAdd, e33, e35, e38]; have hgw := HTt.out.root.lt; have hgw4 : gt < w4.heap.size := Nat.lt_of_lt_of_le hgw HB4.out.size; have hlw : ∀ j ∈ trB t, j < w4.heap.size := fun j hj => Nat.lt_of_lt_of_le (HTt.out.tree.mem.lt j hj) HB4.out.size; have HT8 := hide ((HTt.out.below HB4.out).below hb7); have HR8 := hide (HRr.out.below hb7 HRr.out.lt); have HB8 := hide (HB4.out.trans (hb7.mono HB4.out.size)); have hs8 := hb7.size; have hs4 := HB4.out.size; have hsr := HC2.out.size; have HPt := hide (trput_any F gt t a n0 w4.heap.size Y A9 n9 c9 B9 m9 d9 xs9 w8 HT8.out HPg.out (HY.out ▸ atok_norm HOk.out) hl9 hu9 hgw4 hlw (by have := HCt.out; omega)); clear hb7 hl9 hu9 hlw f0 f1 f2 f3 f4 f5 f6 f7 f8 f9 f10
      go_wp2_with fail
      refine HPt.out.mono ?_; rintro e w9 ⟨⟨v9, q9, rfl⟩, t2, hpr, ht9, hB9, hc9⟩; have hrt : ¬ (r = gt ∨ r ∈ trB t) := fun h => h.elim HS.out.rgt (fun h => (HTl.out r h).elim HS.out.rBt (fun h => by omega)); have HR9 := hide (chg_blk hc9 HR8.out hrt); have HT9 := hide ht9; have HF9 : Hid (∀ j, (F j ∨ (w4.heap.size ≤ j ∧ j < w8.heap.size)) → Ft j ∨ w3.heap.size ≤ j) := hide (fun j hj => hj.elim (HFl.out j) (fun h => .inr (by omega))); have HB9 : Hid (∀ j ∈ trB t2, j ∈ trB tt ∨ w3.heap.size ≤ j) := hide (fun j hj => (hB9 j hj).elim (HTl.out j) (fun h => .inr (by omega)))
      have HL9 : Hid (trL t2 = (LK.take (q + 1)).foldl putZ (trL tt)) := hide (by
        rw [hpr.list HTt.out.tree.wf, HTk.out, List.foldl_append, ← HLt.out, HYX.out]
        rfl)
      have HN9 : Hid (trCnt t2 ≤ trCnt tt + (q + 1)) := hide (by have h1 := hpr.cnt; have h2 := HCt.out; split at h1 <;> omega)
      have HNr9 : Hid (NrmA (trL t2)) := hide (fun z hz => by
        obtain ⟨c, k, x⟩ := z; rw [trL_mem t2 hpr.wf, hpr.get] at hz; split at hz
        · simp only [Option.some.injEq] at hz; subst hz; rw [← HY.out]; exact normA_eq X
        · exact HNr.out (c, k, x) ((trL_mem t HTt.out.tree.wf).2 hz))
      have HC9 : Hid (ChgS (fun j => j = gt ∨ j ∈ trB tt) w3 w9) := hide (chg_trans (chg_trans HC2.out (chg_below (S := fun _ => False) HB8.out) (fun k h => h.elim)) hc9 (fun k h => h.elim (fun h => .inl (.inl h)) (fun h => (HTl.out k h).elim (fun h => .inl (.inr h)) .inr))); clear hpr ht9 hB9 hc9 hrt; go_wp2
      go_roundw
      case rel => exact ⟨q + 1, t2, _, by omega, by go_num, HR9.out, HT9.out, HF9.out, HB9.out, HL9.out, HN9.out, HNr9.out, HC9.out⟩
      case measure => simp [intOf]; omega
    · obtain rfl : q = n3 := (by omega)
      have HLe : Hid (trL t = LK.foldl putZ (trL tt)) := hide (by
        have h1 := HLt.out
        rwa [List.take_of_length_le (by rw [HnL.out]; exact Nat.le_refl _)] at h1)
      have hsr := HC2.out.size; have y2 : wr.cell? ⟨r, 2, none⟩ = some (.int .i64 (m : Nat)) := HRr2.out.cell 2; have y3 : wr.cell? ⟨r, 3, none⟩ = some (.int .i64 ((0 : Nat) : Int)) := HRr2.out.cell 3; have yf := HRr2.out.frozen 3
      have hS : ∀ l' : Nat, ∀ w9, Blk w9 r 119 #[.pointer (some ⟨ga, 0, none⟩), .pointer (some ⟨gt, 0, none⟩), .int .i64 (m : Nat), .int .i64 (l' : Nat)] → ChgS (fun j => j = r) wr w9 → RSt r ga gt m l' Fa F ta t w9 ∧ ChgS (WrB r gt tt) w w9 ∧ LstAt 11 tdR w9 A3 q c3 (LK.map tdN) := fun l' w9 hk9 hc9 => by
        have hcA : ChgS (WrB r gt tt) w w9 := chg_trans (chg_trans (chg_below (S := WrB r gt tt) HB3.out) HC2.out (fun k h => .inl (.inr h))) hc9 (fun k h => .inl (.inl h)); have h := HS.out
        have hwr : ∀ j, WrB r gt tt j → ¬ Fa j := fun j hj hF => by
          rcases hj with rfl | hj
          · exact h.rFa hF
          · exact (h.ap j hj).1 hF
        refine ⟨⟨hk9, h.aim.chg hcA (fun j hj hw => ?_) (fun j hF hw => hwr j hw hF) (fun hw => ?_), HTt.out.chg hc9 (fun j hj e => ?_) (fun j hj e => ?_) (fun e => h.rgt e.symm), h.na, HNr.out, h.rFa, fun hF => (HFl.out r hF).elim h.rFt (fun h => by omega), h.rga, h.rgt, h.rBa, fun hB => (HTl.out r hB).elim h.rBt (fun h => by omega), fun j hj => ?_⟩, hcA, ?_⟩
        · rcases hw with rfl | hw
          · exact h.rBa hj
          · exact (h.ap j hw).2.2 hj
        · rcases hw with e | hw
          · exact h.rga e.symm
          · exact (h.ap ga hw).2.1 rfl
        · subst e; exact (HTl.out _ hj).elim h.rBt (fun h => by omega)
        · subst e; exact (HFl.out _ hj).elim h.rFt (fun h => by omega)
        · have hnew : w3.heap.size ≤ j → ¬ Fa j ∧ j ≠ ga ∧ j ∉ trB ta := fun hj => ⟨fun hF => by have := h.aim.low j hF; omega, fun e => by have := h.aim.root.lt; omega, fun hm => by have := h.aim.tree.mem.lt j hm; omega⟩
          rcases hj with rfl | hj
          · exact h.ap _ (.inl rfl)
          · exact (HTl.out j hj).elim (fun hm => h.ap j (.inr hm)) hnew
        · exact frs_here (frs_chg HF3.out (chg_trans (S := fun j => (j = gt ∨ j ∈ trB tt) ∨ j = r) (chg_mono HC2.out (fun k h => .inl (.inl h))) hc9 (fun k h => .inl (.inr h))) (fun j hj hw => by
            rcases hw with (e | hm) | e
            · omega
            · have := HBl.out j hm; omega
            · omega))
      have HSx := hide hS
      have HWx : Hid (∀ j, WrB r gt t j → WrB r gt tt j ∨ w.heap.size ≤ j) := hide (fun j hj => by
        rcases hj with e | e | hj
        · exact .inl (.inl e)
        · exact .inl (.inr (.inl e))
        · exact (HTl.out j hj).elim (fun h => .inl (.inr (.inr h))) (fun h => .inr (by omega)))
      have HCx : Hid (trCnt t ≤ trCnt tt + trCnt ta) := hide (by have := HCt.out; omega); clear hS; have e1 : decide ((q : Int) < (q : Int)) = false := (by simp)
      by_cases h0 : q = 0
      · subst h0; go_wp2; go_ret; obtain ⟨hA, hB, hC⟩ := HSx.out 0 wr HRr2.out (chg_refl _ _); refine ⟨A3, 0, c3, rfl, hC, ?_⟩; unfold HereR; rw [HnL.out, if_pos rfl]; exact ⟨t, F, hA, HWx.out, HLe.out, HCx.out, hB⟩
      · have e2 : decide (0 < (q : Int)) = true := decide_eq_true (by omega); have e3 : (0 : Int) < (q : Int) := (by omega)
        have e4 : decide (0 < q) = true := decide_eq_true (by omega); obtain ⟨w9, hw9⟩ : ∃ W, wr.setCell ⟨r, 3, none⟩ (.int .i64 (m : Nat)) = W := ⟨_, rfl⟩
        have HK9 : Hid (Blk w9 r 119 #[.pointer (some ⟨ga, 0, none⟩), .pointer (some ⟨gt, 0, none⟩), .int .i64 (m : Nat), .int .i64 (m : Nat)]) := hide (hw9 ▸ HRr2.out.set_ 3 _); have HG9 : Hid (ChgS (fun j => j = r) wr w9) := hide (hw9 ▸ chg_set (S := fun k => k = r) (p := ⟨r, 3, none⟩) rfl _); have HW9 := hide hw9; clear hw9; go_wp2; rw [HW9.out]; go_ret; obtain ⟨hA, hB, hC⟩ := HSx.out m w9 HK9.out HG9.out; refine ⟨A3, q, c3, rfl, hC, ?_⟩; unfold HereR; rw [HnL.out, if_neg h0]; exact ⟨t, F, hA, HWx.out, HLe.out, HCx.out, hB⟩
end Go.Proofs.YtcinjckajnnhmaaGreat
namespace Go.Proofs.YtcinjckajnnhmaaGreat
open Go.RowKit Go.WideShapes Go.ChangeShapes
attribute [local go_sem] Oper.semAt_some
set_option maxRecDepth 100000 in
set_option maxHeartbeats 8000000 in
theorem putbadA_any (g a : Nat) (n : Int) (vh vo : Int) (vA : Option Addr) (vn vc : Nat) (vp vm vf vs vi : Int) (vB : Option Addr) (vk vd : Nat) (w : World) (ha : a < 4294967296) (h1 : -9223372036854775808 ≤ n) (h2 : n ≤ 9223372036854775807) (hb : goodB a n = false) :
  Calls Tryz.prog 80 #[.pointer (some ⟨g, 0, none⟩), .agg #[.int .u32 (a : Int), .int .i64 n], .agg #[.int .i64 vh, .int .i64 vo, .slice vA vn vc, .int .u32 vp, .int .u32 vm, .int .u32 vf, .int .u32 vs, .int .u32 vi, .slice vB vk vd]] w fun e w' => (∃ v q, e = .returned (.tuple #[v, .bool q])) ∧ Below w.heap.size w w' := by
 obtain ⟨w0, hw0⟩ : ∃ w0, ((w.alloc (.cells #[.int .u32 (a : Int), .int .i64 n] 24)).alloc (.cells #[.int .i64 vh, .int .i64 vo, .slice vA vn vc, .int .u32 vp, .int .u32 vm, .int .u32 vf, .int .u32 vs, .int .u32 vi, .slice vB vk vd] 28)).alloc (.cells #[.int .i64 0, .int .i64 0, .slice none 0 0, .int .u32 0, .int .u32 0, .int .u32 0, .int .u32 0, .int .u32 0, .slice none 0 0] 28) = w0 := ⟨_, rfl⟩
 have hb0 : Below w.heap.size w w0 := hw0 ▸ blkBelow3q w _ _ _; have HZ0 : Hid (Blk w0 (w.heap.size + 1 + 1) 28 #[.int .i64 0, .int .i64 0, .slice none 0 0, .int .u32 0, .int .u32 0, .int .u32 0, .int .u32 0, .int .u32 0, .slice none 0 0]) := hide (hw0 ▸ blk_new' _ _ (by simp)); have HGd := hide (Good_any a n ha h1 h2); rw [hb] at HGd; unfold pfx at HGd; have HW0 := hide hw0; have HB0 := hide hb0; clear hw0 hb0 ha h1 h2 hb
 go_enter Tryz.func80, Tryz.ntmps80
 go_wp2_with fail
 rw [HW0.out]; refine (HGd.out _).mono ?_; rintro e w1 ⟨rfl, hb1⟩; have HB1 := hide (HB0.out.trans (hb1.mono HB0.out.size)); have HZ1 := hide (HZ0.out.below hb1 HZ0.out.lt); have z0 : w1.cell? ⟨w.heap.size + 1 + 1, 0, none⟩ = some (.int .i64 0) := HZ1.out.cell 0; have z1 : w1.cell? ⟨w.heap.size + 1 + 1, 1, none⟩ = some (.int .i64 0) := HZ1.out.cell 1; have z2 : w1.cell? ⟨w.heap.size + 1 + 1, 2, none⟩ = some (.slice none 0 0) := HZ1.out.cell 2; have z3 : w1.cell? ⟨w.heap.size + 1 + 1, 3, none⟩ = some (.int .u32 0) := HZ1.out.cell 3; have z4 : w1.cell? ⟨w.heap.size + 1 + 1, 4, none⟩ = some (.int .u32 0) := HZ1.out.cell 4; have z5 : w1.cell? ⟨w.heap.size + 1 + 1, 5, none⟩ = some (.int .u32 0) := HZ1.out.cell 5; have z6 : w1.cell? ⟨w.heap.size + 1 + 1, 6, none⟩ = some (.int .u32 0) := HZ1.out.cell 6; have z7 : w1.cell? ⟨w.heap.size + 1 + 1, 7, none⟩ = some (.int .u32 0) := HZ1.out.cell 7; have z8 : w1.cell? ⟨w.heap.size + 1 + 1, 8, none⟩ = some (.slice none 0 0) := HZ1.out.cell 8; have zf := fun i => HZ1.out.frozen i; clear hb1; go_wp2; change bodyPost _ _ _ _ _ (w1.setCells (w.heap.size + 1 + 1) 0 [.int .i64 0, .int .i64 0, .slice none 0 0, .int .u32 0, .int .u32 0, .int .u32 0, .int .u32 0, .int .u32 0, .slice none 0 0]); obtain ⟨wF, hwF⟩ : ∃ x, w1.setCells (w.heap.size + 1 + 1) 0 [.int .i64 0, .int .i64 0, .slice none 0 0, .int .u32 0, .int .u32 0, .int .u32 0, .int .u32 0, .int .u32 0, .slice none 0 0] = x := ⟨_, rfl⟩
 have HFk := hide (hwF ▸ blk_sets [.int .i64 0, .int .i64 0, .slice none 0 0, .int .u32 0, .int .u32 0, .int .u32 0, .int .u32 0, .int .u32 0, .slice none 0 0] [] [.int .i64 0, .int .i64 0, .slice none 0 0, .int .u32 0, .int .u32 0, .int .u32 0, .int .u32 0, .int .u32 0, .slice none 0 0] HZ1.out rfl : Blk wF (w.heap.size + 1 + 1) 28 #[.int .i64 0, .int .i64 0, .slice none 0 0, .int .u32 0, .int .u32 0, .int .u32 0, .int .u32 0, .int .u32 0, .slice none 0 0]); have HFb := hide (hwF ▸ below_sets [.int .i64 0, .int .i64 0, .slice none 0 0, .int .u32 0, .int .u32 0, .int .u32 0, .int .u32 0, .int .u32 0, .slice none 0 0] 0 HB1.out (by omega) : Below w.heap.size w wF); rw [hwF]; clear hwF z0 z1 z2 z3 z4 z5 z6 z7 z8 zf; have z0 : wF.cell? ⟨w.heap.size + 1 + 1, 0, none⟩ = some (.int .i64 0) := HFk.out.cell 0; have z1 : wF.cell? ⟨w.heap.size + 1 + 1, 1, none⟩ = some (.int .i64 0) := HFk.out.cell 1; have z2 : wF.cell? ⟨w.heap.size + 1 + 1, 2, none⟩ = some (.slice none 0 0) := HFk.out.cell 2; have z3 : wF.cell? ⟨w.heap.size + 1 + 1, 3, none⟩ = some (.int .u32 0) := HFk.out.cell 3; have z4 : wF.cell? ⟨w.heap.size + 1 + 1, 4, none⟩ = some (.int .u32 0) := HFk.out.cell 4; have z5 : wF.cell? ⟨w.heap.size + 1 + 1, 5, none⟩ = some (.int .u32 0) := HFk.out.cell 5; have z6 : wF.cell? ⟨w.heap.size + 1 + 1, 6, none⟩ = some (.int .u32 0) := HFk.out.cell 6; have z7 : wF.cell? ⟨w.heap.size + 1 + 1, 7, none⟩ = some (.int .u32 0) := HFk.out.cell 7; have z8 : wF.cell? ⟨w.heap.size + 1 + 1, 8, none⟩ = some (.slice none 0 0) := HFk.out.cell 8; exact bodyPost_ret (v := .tuple #[.agg #[.int .i64 0, .int .i64 0, .slice none 0 0, .int .u32 0, .int .u32 0, .int .u32 0, .int .u32 0, .int .u32 0, .slice none 0 0], .bool false]) (by simp [results, Tryz.results80, go_sem, z0, z1, z2, z3, z4, z5, z6, z7, z8]) rfl ⟨⟨_, _, rfl⟩, HFb.out⟩
def TdOk (x : TD) : Prop := (∃ a : Nat, x.a = (a : Int) ∧ a < 4294967296) ∧ -9223372036854775808 ≤ x.n ∧ x.n ≤ 9223372036854775807 ∧ AtOk x.at_
def aimStep (f : Nat → Nat → Option AT) (x : TD) : Nat → Nat → Option AT := fun c k => if goodB x.a.toNat x.n = true ∧ x.a = (c : Int) ∧ x.n = (k : Int) then some (normA x.at_) else f c k
def aimF (L : List TD) : Nat → Nat → Option AT := L.foldl aimStep (fun _ _ => none)
theorem aimF_push (L : List TD) (x : TD) : aimF (L ++ [x]) = aimStep (aimF L) x := by unfold aimF; rw [List.foldl_append]; rfl
def AimT (w' : World) (g : Nat) (L : List TD) : Prop := ∃ t F, TrT F w' g t ∧ (∀ j, F j → g < j) ∧ (∀ j ∈ trB t, g < j) ∧ (∀ c k, trGet c k t = aimF L c k) ∧ trCnt t ≤ L.length
set_option maxRecDepth 100000 in
set_option maxHeartbeats 8000000 in
theorem aimG_any (r gt : Nat) (m l : Int) (po : Option Addr) (A : Option Addr) (k c : Nat) (L : List TD) (w : World) (hk : Blk w r 119 #[.pointer po, .pointer (some ⟨gt, 0, none⟩), .int .i64 m, .int .i64 l]) (hL : ∀ w', ChgS (fun k => k = r) w w' → LstAt 11 tdR w' A k c L) (hR : ∀ x ∈ L, TdOk x) (hkb : k ≤ 20000) :
    Calls Tryz.prog 20 #[.pointer (some ⟨r, 0, none⟩), .slice A k c] w fun e w' => e = .returned (.tuple #[]) ∧ Blk w' r 119 #[.pointer (some ⟨w.heap.size, 0, none⟩), .pointer (some ⟨gt, 0, none⟩), .int .i64 m, .int .i64 l] ∧ AimT w' w.heap.size L ∧ ChgS (fun k => k = r) w w' := by
  have HN := hide newA_any; have HK := hide hk; have HL := hide hL; have HRg := hide hR; have hrl := hk.lt; have h1c : k ≤ c := (hL w (chg_refl _ w)).2.1; have hlen : L.length = k := (hL w (chg_refl _ w)).1; have HLen := hide hlen; have hcm := (hL w (chg_refl _ w)).2.2.1; unfold maxLen at hcm; clear hk hL hR hlen
  go_enter Tryz.func20, Tryz.ntmps20
  go_wp2_with fail
  refine (HN.out _).mono ?_; rintro e w1 ⟨rfl, hk1, hb1⟩; have hr1 := HK.out.below hb1 hrl; have z0 : w1.cell? ⟨r, 0, none⟩ = some (.pointer po) := hr1.cell 0; have zf := hr1.frozen 0; obtain ⟨w2, hw2⟩ : ∃ W, w1.setCell ⟨r, 0, none⟩ (.pointer (some ⟨w.heap.size, 0, none⟩)) = W := ⟨_, rfl⟩
  have HRr2 : Hid (Blk w2 r 119 #[.pointer (some ⟨w.heap.size, 0, none⟩), .pointer (some ⟨gt, 0, none⟩), .int .i64 m, .int .i64 l]) := hide (hw2 ▸ hr1.set_ 0 _); have HG2 : Hid (Blk w2 w.heap.size 201 #[.pointer none]) := hide (hw2 ▸ hk1.far (p := ⟨r, 0, none⟩) (by show w.heap.size ≠ r; omega) _); have HC2 : Hid (ChgS (fun k => k = r) w w2) := hide (hw2 ▸ chg_trans (chg_below hb1) (chg_set (S := fun k => k = r) (p := ⟨r, 0, none⟩) rfl _) (fun k h => .inl h)); have HW2 := hide hw2; clear hw2 hk1 hb1 hr1; go_wp2; rw [HW2.out]; clear z0 zf
  go_loopw [14] (fun iv wr => ∃ (q : Nat) (t : Tr AT) (F : Nat → Prop), q ≤ k ∧ iv = .int .i64 (q : Nat) ∧ Blk wr r 119 #[.pointer (some ⟨w.heap.size, 0, none⟩), .pointer (some ⟨gt, 0, none⟩), .int .i64 m, .int .i64 l] ∧ TrT F wr w.heap.size t ∧ (∀ j, F j → w.heap.size < j) ∧ (∀ j ∈ trB t, w.heap.size < j) ∧ (∀ c k, trGet c k t = aimF (L.take q) c k) ∧ trCnt t ≤ q ∧ ChgS (fun k => k = r) w wr) (fun iv _ => k - (intOf iv).toNat)
  case atStart => exact ⟨0, .nil, fun _ => False, Nat.zero_le _, rfl, HRr2.out, ⟨HG2.out, TrA.nil_, fun h => h, by simp [trB], fun _ h => h.elim, by simp [trL], by simp [trCnt]⟩, fun _ h => h.elim, by simp [trB], fun _ _ => rfl, Nat.le_refl _, HC2.out⟩
  case round =>
    obtain ⟨q, t, F, hq, rfl, hrr, htt, hFl, htl, hsp, hct, hc2⟩ := hrel; have HRr2 := hide hrr; have HTt := hide htt; have HFl := hide hFl; have HTl := hide htl; have HSp := hide hsp; have HCt := hide hct; have HC2 := hide hc2; have HG2 := hide htt.root; clear hrr htt hFl htl hsp hct hc2; by_cases hlt : q < k
    · obtain ⟨g2, o, x, XA, xn, xc, XB, xm, xd, rfl, hg2, hx, hxr, hxu, hcs⟩ := TDat (q := q) (HL.out _ HC2.out) hlt; have HTk : Hid (L.take (q + 1) = L.take q ++ [x]) := hide (by rw [List.take_add_one, hx]; rfl); have hxm := HRg.out x (List.mem_of_getElem? hx); obtain ⟨xa, n0, X⟩ := x; obtain ⟨⟨a, ha, hab⟩, hn1, hn2, hok⟩ := hxm; simp only at ha hn1 hn2 hok hxr hxu hcs; subst ha; have HOk := hide hok; obtain ⟨Y, hY⟩ : ∃ Y, normA X = Y := ⟨_, rfl⟩
      have HY := hide hY; have q1 : (q : Int) < (k : Int) := (by omega)
      have q0 : (0 : Int) ≤ (q : Int) := (by omega)
      have hwq : IntKind.i64.wrap ((q : Int) + 1) = (q : Int) + 1 := (by rw [IntKind.wrap_i64]; omega)
      clear hx hok hY; have f0 : wr.cell? ⟨g2, o + q * 11, none⟩ = some (.int .u32 (a : Int)) := hcs 0 _ rfl; have f1 : wr.cell? ⟨g2, o + q * 11 + 1, none⟩ = some (.int .i64 n0) := hcs 1 _ rfl; have f2 : wr.cell? ⟨g2, o + q * 11 + 2, none⟩ = some (.int .i64 X.has) := hcs 2 _ rfl; have f3 : wr.cell? ⟨g2, o + q * 11 + 3, none⟩ = some (.int .i64 X.org) := hcs 3 _ rfl; have f4 : wr.cell? ⟨g2, o + q * 11 + 4, none⟩ = some (.slice XA xn xc) := hcs 4 _ rfl; have f5 : wr.cell? ⟨g2, o + q * 11 + 5, none⟩ = some (.int .u32 X.hop) := hcs 5 _ rfl; have f6 : wr.cell? ⟨g2, o + q * 11 + 6, none⟩ = some (.int .u32 X.med) := hcs 6 _ rfl; have f7 : wr.cell? ⟨g2, o + q * 11 + 7, none⟩ = some (.int .u32 X.pref) := hcs 7 _ rfl; have f8 : wr.cell? ⟨g2, o + q * 11 + 8, none⟩ = some (.int .u32 X.aas) := hcs 8 _ rfl; have f9 : wr.cell? ⟨g2, o + q * 11 + 9, none⟩ = some (.int .u32 X.aid) := hcs 9 _ rfl; have f10 : wr.cell? ⟨g2, o + q * 11 + 10, none⟩ = some (.slice XB xm xd) := hcs 10 _ rfl; obtain ⟨w3, hw3⟩ : ∃ W, wr.alloc (.cells #[.int .u32 (a : Int), .int .i64 n0, .int .i64 X.has, .int .i64 X.org, .slice XA xn xc, .int .u32 X.hop, .int .u32 X.med, .int .u32 X.pref, .int .u32 X.aas, .int .u32 X.aid, .slice XB xm xd] 71) = W := ⟨_, rfl⟩
      have hb3 : Below wr.heap.size wr w3 := hw3 ▸ blkBelow1 wr _; have HBx : Hid (Blk w3 wr.heap.size 71 #[.int .u32 (a : Int), .int .i64 n0, .int .i64 X.has, .int .i64 X.org, .slice XA xn xc, .int .u32 X.hop, .int .u32 X.med, .int .u32 X.pref, .int .u32 X.aas, .int .u32 X.aid, .slice XB xm xd]) := hide (hw3 ▸ Blk.new wr _ _); have HRr := hide (HRr2.out.below hb3 HRr2.out.lt); have HXr := hide (hxr.below sgMono hb3); have HXu := hide (hxu.below hb3); have HB3 := hide hb3; have HW3 := hide hw3; have hs0 := HC2.out.size; have hg0 := HG2.out.lt; clear hcs hxr hxu hb3 hw3
      go_upto_region 5 with fail
      rw [HW3.out]; have Hmn := hide (show AllMono [(isV (ptv r 0)), (isV (ptv r 0)), (isV (ptv r 0)), (isV (ptv w.heap.size 0)), (isV (ptv wr.heap.size 0)), (isV (.agg #[.int .u32 (a : Int), .int .i64 n0])), (isV (ptv wr.heap.size 2)), (isV (atV X.has X.org XA xn xc X.hop X.med X.pref X.aas X.aid XB xm xd)), (fun v W2 => ∃ A n c B m d, v = atV Y.has Y.org A n c Y.hop Y.med Y.pref Y.aas Y.aid B m d ∧ (∃ xs, LOw 2 133 sgR W2 w3.heap.size w3.heap.size A n c Y.path xs) ∧ FrB w3.heap.size none (fun w => U32s w B m d Y.comms) W2)] from ⟨fun _ _ _ _ h => h, fun _ _ _ _ h => h, fun _ _ _ _ h => h, fun _ _ _ _ h => h, fun _ _ _ _ h => h, fun _ _ _ _ h => h, fun _ _ _ _ h => h, fun _ _ _ _ h => h, fun v wr w3 hb ⟨A, n, c, B, m, d, e, ⟨xs, h1⟩, h2⟩ => ⟨A, n, c, B, m, d, e, ⟨xs, h1.below hb⟩, h2.below hb⟩, trivial⟩); refine wp_region_relT 9 _ (by kernel_rfl) (by kernel_rfl) (by kernel_rfl) (by kernel_rfl) (by kernel_rfl) (relMono _ Hmn.out) ⟨?_, ?_, ?_, ?_, ?_, ?_, ?_, ?_, ?_, trivial⟩ ?_
      · exact relStep_plain rfl fun Ac w5 hp => pureM (ptv r 0) 0 (hp.out 0 (by rfl))
      · exact relStep_plain rfl fun Ac w5 hp => pureM (ptv r 0) 18 (hp.d 0)
      · exact relStep_plain rfl fun Ac w5 hp => pureM (ptv r 0) 19 (hp.d 1)
      · refine relStep_plain rfl ?_; intro Ac w5 hp; have hb := hp.bel; have hr5 := HRr.out.below hb HRr.out.lt; have z0 : w5.cell? ⟨r, 0, none⟩ = some (ptv w.heap.size 0) := hr5.cell 0; exact pure1 (ptv w.heap.size 0) 20 (ptv r 0) (hp.d 2)
      · exact relStep_plain rfl fun Ac w5 hp => pureM (ptv wr.heap.size 0) 5 (hp.out 5 (by rfl))
      · refine relStep_plain rfl ?_; intro Ac w5 hp; have hb := hp.bel; have hx5 := HBx.out.below hb HBx.out.lt; have z1 : w5.cell? ⟨wr.heap.size, 0, none⟩ = some (.int .u32 (a : Int)) := hx5.cell 0; have z2 : w5.cell? ⟨wr.heap.size, 1, none⟩ = some (.int .i64 n0) := hx5.cell 1; exact pure1 (.agg #[.int .u32 (a : Int), .int .i64 n0]) 22 (ptv wr.heap.size 0) (hp.d 4)
      · exact relStep_plain rfl fun Ac w5 hp => pure1 (ptv wr.heap.size 2) 5 (ptv wr.heap.size 0) (hp.out 5 (by rfl))
      · refine relStep_plain rfl ?_; intro Ac w5 hp; have hb := hp.bel; have hx5 := HBx.out.below hb HBx.out.lt; have z3 : w5.cell? ⟨wr.heap.size, 2, none⟩ = some (.int .i64 X.has) := hx5.cell 2; have z4 : w5.cell? ⟨wr.heap.size, 3, none⟩ = some (.int .i64 X.org) := hx5.cell 3; have z5 : w5.cell? ⟨wr.heap.size, 4, none⟩ = some (.slice XA xn xc) := hx5.cell 4; have z6 : w5.cell? ⟨wr.heap.size, 5, none⟩ = some (.int .u32 X.hop) := hx5.cell 5; have z7 : w5.cell? ⟨wr.heap.size, 6, none⟩ = some (.int .u32 X.med) := hx5.cell 6; have z8 : w5.cell? ⟨wr.heap.size, 7, none⟩ = some (.int .u32 X.pref) := hx5.cell 7; have z9 : w5.cell? ⟨wr.heap.size, 8, none⟩ = some (.int .u32 X.aas) := hx5.cell 8; have z10 : w5.cell? ⟨wr.heap.size, 9, none⟩ = some (.int .u32 X.aid) := hx5.cell 9; have z11 : w5.cell? ⟨wr.heap.size, 10, none⟩ = some (.slice XB xm xd) := hx5.cell 10; exact pure1 (atV X.has X.org XA xn xc X.hop X.med X.pref X.aas X.aid XB xm xd) 24 (ptv wr.heap.size 2) (hp.d 6)
      · refine relStep_plain rfl ?_; intro Ac w5 hp; have hb := hp.bel; have a25 : Ac.eval (.tmp 25) = atV X.has X.org XA xn xc X.hop X.med X.pref X.aas X.aid XB xm xd := hp.d 7; obtain ⟨ρ, hρ, hc, hf, hgl⟩ := evalX Ac; rw [hρ] at a25; refine relCall hρ 68 #[atV X.has X.org XA xn xc X.hop X.med X.pref X.aas X.aid XB xm xd] (by simp [go_sem, ↓IntWalk.iteOmega, *]) ?_; refine (attrNormX_any X (atV X.has X.org XA xn xc X.hop X.med X.pref X.aas X.aid XB xm xd) w5 ⟨XA, xn, xc, XB, xm, xd, rfl, HXr.out.below sgMono hb, HXu.out.below hb⟩ HOk.out.1 HOk.out.2).mono ?_; rintro e w6 ⟨v6, rfl, ⟨A6, n6, c6, xs6, B6, m6, d6, rfl, hl6, hu6⟩, hb6⟩; rw [HY.out] at hl6 hu6 ⊢; exact ⟨_, rfl, ⟨A6, n6, c6, B6, m6, d6, rfl, ⟨xs6, hl6.less hb.size hb.size⟩, hu6.less hb.size⟩, hb6⟩
      intro u w8 hb7 hall; have e21 : u 3 = .pointer (some ⟨w.heap.size, 0, none⟩) := relAll_at hall (i := 3) (by decide +kernel); have e23 : u 5 = .agg #[.int .u32 (a : Int), .int .i64 n0] := relAll_at hall (i := 5) (by decide +kernel); obtain ⟨A9, n9, c9, B9, m9, d9, e26, ⟨xs9, hl9⟩, hu9⟩ := relAll_at hall (i := 8) (by decide +kernel); change u 8 = _ at e26; clear hall; simp only [List.drop_succ_cons, List.drop_zero, List.take_succ_cons, List.take_zero, putAll, Act.put, List.setIfInBounds_toArray, List.set_cons_zero, List.set_cons_succ, Nat.zero_add, Nat.reduceAdd, e21, e23, e26]; have HG8 := hide ((HG2.out.below HB3.out hg0).below hb7 (HG2.out.below HB3.out hg0).lt); have hg3 : w.heap.size < w3.heap.size := (HG2.out.below HB3.out hg0).lt; have HR8 := hide (HRr.out.below hb7 HRr.out.lt); have HB8 := hide (HB3.out.trans (hb7.mono HB3.out.size)); have hs8 := hb7.size; have Hb7 := hide hb7; clear f0 f1 f2 f3 f4 f5 f6 f7 f8 f9 f10; have HT8 := hide ((HTt.out.below HB3.out).below hb7); have hlw : ∀ j ∈ trB t, j < w3.heap.size := fun j hj => Nat.lt_of_lt_of_le (HTt.out.tree.mem.lt j hj) HB3.out.size; have hrw : r < w.heap.size := hrl; have hs8w : w3.heap.size ≤ w8.heap.size := hs8; clear hb7; by_cases hgd : goodB a n0 = true
      · obtain ⟨hPg, hnn⟩ := pg_good hab hgd; obtain ⟨n1, hn1e⟩ : ∃ n1, n0.toNat = n1 := ⟨_, rfl⟩
        rw [hn1e] at hPg hnn; clear hn1e; subst hnn; have HPt := hide (trput_any F w.heap.size t a n1 w3.heap.size Y A9 n9 c9 B9 m9 d9 xs9 w8 HT8.out hPg (HY.out ▸ atok_norm HOk.out) hl9 hu9 hg3 hlw (by have := HCt.out; omega)); have HGd := hide hgd; clear hl9 hu9 hgd hPg hlw
        go_wp2_with fail
        refine HPt.out.mono ?_; rintro e w9 ⟨⟨v9, q9, rfl⟩, t2, hpr, ht9, hB9, hc9⟩; have HR9 := hide (chg_blk hc9 HR8.out (fun h => h.elim (fun h => by omega) (fun h => by have := HTl.out r h; omega))); have HT9 := hide ht9; have HF9 : Hid (∀ j, (F j ∨ (w3.heap.size ≤ j ∧ j < w8.heap.size)) → w.heap.size < j) := hide (fun j hj => hj.elim (HFl.out j) (fun h => by omega)); have HB9 : Hid (∀ j ∈ trB t2, w.heap.size < j) := hide (fun j hj => (hB9 j hj).elim (HTl.out j) (fun h => by omega))
        have HS9 : Hid (∀ c k, trGet c k t2 = aimF (L.take (q + 1)) c k) := hide (fun c2 k2 => by
          rw [hpr.get, HTk.out, aimF_push]; unfold aimStep; simp only [Int.toNat_natCast, HGd.out, true_and, HY.out, HSp.out, Int.ofNat_inj])
        have HN9 : Hid (trCnt t2 ≤ q + 1) := hide (by have h1 := hpr.cnt; have h2 := HCt.out; split at h1 <;> omega); have HC9 : Hid (ChgS (fun k => k = r) w w9) := hide (chg_trans (chg_trans HC2.out (chg_below (S := fun _ => False) HB8.out) (fun k h => h.elim)) hc9 (fun k h => .inr (h.elim (fun h => by omega) (fun h => by have := HTl.out k h; omega)))); clear hpr ht9 hB9 hc9; go_wp2
        go_roundw
        case rel => exact ⟨q + 1, t2, _, by omega, by go_num, HR9.out, HT9.out, HF9.out, HB9.out, HS9.out, HN9.out, HC9.out⟩
        case measure => simp [intOf]; omega
      · have hbd : goodB a n0 = false := (by simpa using hgd)
        have HPt := hide (putbadA_any w.heap.size a n0 Y.has Y.org A9 n9 c9 Y.hop Y.med Y.pref Y.aas Y.aid B9 m9 d9 w8 hab hn1 hn2 hbd); have HGd := hide hbd; clear hl9 hu9 hgd hbd hlw
        go_wp2_with fail
        refine HPt.out.mono ?_; rintro e w9 ⟨⟨v9, q9, rfl⟩, hb9⟩; have HR9 := hide (HR8.out.below hb9 HR8.out.lt); have HT9 := hide (HT8.out.below hb9)
        have HS9 : Hid (∀ c k, trGet c k t = aimF (L.take (q + 1)) c k) := hide (fun c2 k2 => by
          rw [HTk.out, aimF_push]; unfold aimStep; simp only [Int.toNat_natCast, HGd.out, Bool.false_eq_true, false_and, if_false, HSp.out])
        have HC9 : Hid (ChgS (fun k => k = r) w w9) := hide (chg_trans (chg_trans HC2.out (chg_below (S := fun _ => False) HB8.out) (fun k h => h.elim)) (chg_below (S := fun _ => False) hb9) (fun k h => h.elim)); have HN9 : Hid (trCnt t ≤ q + 1) := hide (by have := HCt.out; omega); clear hb9; go_wp2
        go_roundw
        case rel => exact ⟨q + 1, t, F, by omega, by go_num, HR9.out, HT9.out, HFl.out, HTl.out, HS9.out, HN9.out, HC9.out⟩
        case measure => simp [intOf]; omega
    · obtain rfl : q = k := (by omega)
      have e1 : decide ((q : Int) < (q : Int)) = false := (by simp)
      have HSf : Hid (∀ c k, trGet c k t = aimF L c k) := hide (by
        have h1 := HSp.out
        rwa [List.take_of_length_le (by rw [HLen.out]; exact Nat.le_refl _)] at h1)
      go_wp2; refine bodyPost_end (results_none rfl _ _ _) rfl ?_; exact ⟨rfl, HRr2.out, ⟨t, F, HTt.out, HFl.out, HTl.out, HSf.out, by rw [HLen.out]; exact HCt.out⟩, HC2.out⟩
end Go.Proofs.YtcinjckajnnhmaaGreat
namespace Go.Proofs.YtcinjckajnnhmaaGreat
open Go.RowKit Go.WideShapes Go.ChangeShapes
section
variable {α : Type}
theorem lkL_putL {c k a n : Nat} {x : α} {L : List (Nat × Nat × α)} (hs : L.Pairwise PLt) : lkL c k (putL a n x L) = if a = c ∧ n = k then some x else lkL c k L := by
 refine Option.ext fun y => ?_; rw [lkL_mem (putL_sorted hs), putL_mem hs]; simp only [Prod.mk.injEq]; split
 ·rename_i e; obtain ⟨rfl, rfl⟩ := e; constructor
  ·rintro (⟨_, _, rfl⟩ | ⟨_, h⟩)
   ·rfl
   ·exact absurd ⟨rfl, rfl⟩ h
  ·intro h; injection h with h
   exact .inl ⟨rfl, rfl, h.symm⟩
 ·rename_i e; rw [lkL_mem hs]; constructor
  ·rintro (⟨rfl, rfl, _⟩ | ⟨h, _⟩)
   ·exact absurd ⟨rfl, rfl⟩ e
   ·exact h
  ·exact fun h => .inr ⟨h, e⟩
theorem lk_ext {L R : List (Nat × Nat × α)} (hL : L.Pairwise PLt) (hR : R.Pairwise PLt) (h : ∀ c k, lkL c k L = lkL c k R) : L = R := by
 refine plt_ext L R hL hR fun z => ?_; obtain ⟨c, k, x⟩ := z; rw [← lkL_mem hL, ← lkL_mem hR, h]
theorem lkL_key {c k : Nat} {x : α} {L : List (Nat × Nat × α)} (h : lkL c k L = some x) : (c, k, x) ∈ L := by
 unfold lkL at h; rw [Option.map_eq_some_iff] at h; obtain ⟨z, hz, rfl⟩ := h; have h1 := List.find?_some hz; have h2 := List.mem_of_find?_eq_some hz; simp only [decide_eq_true_eq] at h1; obtain ⟨rfl, rfl⟩ := h1; exact h2
theorem lkL_filter {c k : Nat} {p : Nat × Nat × α → Bool} {L : List (Nat × Nat × α)} (hs : L.Pairwise PLt) : lkL c k (L.filter p) = (lkL c k L).bind (fun x => if p (c, k, x) then some x else none) := by
 refine Option.ext fun y => ?_; rw [lkL_mem (hs.sublist List.filter_sublist), List.mem_filter, ← lkL_mem hs]
 cases h : lkL c k L with
 | none => simp
 | some x =>
  simp only [Option.some.injEq, Option.bind_some]; constructor
  ·rintro ⟨rfl, hp⟩; rw [if_pos hp]
  ·intro h; split at h
   ·rename_i hp; injection h with h
    subst h; exact ⟨rfl, hp⟩
   ·cases h
end
theorem foldZ_sorted : ∀ (W L : List (Nat × Nat × AT)), L.Pairwise PLt → (W.foldl putZ L).Pairwise PLt
 | [], L, h => h
 | z :: W, L, h => foldZ_sorted W _ (putL_sorted h)
theorem foldZ_lk {c k : Nat} : ∀ (W L : List (Nat × Nat × AT)), W.Pairwise PLt → L.Pairwise PLt → lkL c k (W.foldl putZ L) = (match lkL c k W with | some x => some x | none => lkL c k L)
 | [], L, _, _ => rfl
 | z :: W, L, hW, hL => by
  have hW2 := List.pairwise_cons.1 hW; have ih := foldZ_lk (c := c) (k := k) W (putZ L z) hW2.2 (putL_sorted hL); rw [List.foldl_cons, ih]; unfold putZ; rw [lkL_putL hL]; by_cases e : z.1 = c ∧ z.2.1 = k
  ·have h1 : lkL c k W = none := by
    cases h : lkL c k W with
    | none => rfl
    | some x =>
     have := hW2.1 _ (lkL_key h); unfold PLt at this; simp only at this; omega
   have h2 : lkL c k (z :: W) = some z.2.2 := by
    unfold lkL; rw [List.find?_cons, decide_eq_true (show c = z.1 ∧ k = z.2.1 from ⟨e.1.symm, e.2.symm⟩)]
    rfl
   rw [h1, h2, if_pos e]
  ·have h2 : lkL c k (z :: W) = lkL c k W := by
    unfold lkL; rw [List.find?_cons, decide_eq_false (show ¬ (c = z.1 ∧ k = z.2.1) from fun h => e ⟨h.1.symm, h.2.symm⟩)]
   rw [h2, if_neg e]
def lackL (b : List (Nat × Nat × AT)) (z : Nat × Nat × AT) : Bool := match lkL z.1 z.2.1 b with | none => true | some y => !(eqA y z.2.2)
theorem lackG_list {t : Tr AT} {L : List (Nat × Nat × AT)} (hw : trWf t) (hn : NrmA L) : L.filter (lackG t) = L.filter (lackL (trL t)) := by
 refine List.filter_congr fun z hz => ?_; unfold lackG lackL; rw [trGet_lk hw, hn z hz]
 cases lkL z.1 z.2.1 (trL t) <;> rfl
theorem inG_list {t : Tr AT} {L : List (Nat × Nat × AT)} (hw : trWf t) : L.filter (fun z => (trGet z.1 z.2.1 t).isSome) = L.filter (fun z => (lkL z.1 z.2.1 (trL t)).isSome) := by
 refine List.filter_congr fun z hz => ?_; rw [trGet_lk hw]
theorem notG_list {t : Tr AT} {L : List (Nat × Nat × AT)} (hw : trWf t) : L.filter (fun z => !(trGet z.1 z.2.1 t).isSome) = L.filter (fun z => !(lkL z.1 z.2.1 (trL t)).isSome) := by
 refine List.filter_congr fun z hz => ?_; rw [trGet_lk hw]
def aimPut (acc : List (Nat × Nat × AT)) (x : TD) : List (Nat × Nat × AT) := if goodB x.a.toNat x.n = true then putL x.a.toNat x.n.toNat (normA x.at_) acc else acc
def aimL (L : List TD) : List (Nat × Nat × AT) := L.foldl aimPut []
theorem aimL_push (L : List TD) (x : TD) : aimL (L ++ [x]) = aimPut (aimL L) x := by unfold aimL; rw [List.foldl_append]; rfl
theorem aimPut_sorted {L : List (Nat × Nat × AT)} (h : L.Pairwise PLt) (x : TD) : (aimPut L x).Pairwise PLt := by
 unfold aimPut; split
 ·exact putL_sorted h
 ·exact h
theorem aimL_sorted (L : List TD) : (aimL L).Pairwise PLt := by
 unfold aimL
 suffices h : ∀ (L : List TD) (acc : List (Nat × Nat × AT)), acc.Pairwise PLt → (L.foldl aimPut acc).Pairwise PLt from h L [] List.Pairwise.nil
 intro L
 induction L with
 | nil => exact fun acc h => h
 | cons x L ih => exact fun acc h => ih _ (aimPut_sorted h x)
theorem aimF_lk (L : List TD) (hL : ∀ x ∈ L, TdOk x) (c k : Nat) : aimF L c k = lkL c k (aimL L) := by
 suffices h : ∀ (L : List TD) (f : Nat → Nat → Option AT) (acc : List (Nat × Nat × AT)), (∀ x ∈ L, TdOk x) → acc.Pairwise PLt → (∀ c k, f c k = lkL c k acc) → ∀ c k, L.foldl aimStep f c k = lkL c k (L.foldl aimPut acc) from
  h L _ [] hL List.Pairwise.nil (fun _ _ => rfl) c k
 intro L
 induction L with
 | nil => exact fun f acc _ _ h => h
 | cons x L ih =>
  intro f acc hL hs h; refine ih _ _ (fun y hy => hL y (List.mem_cons_of_mem _ hy)) (aimPut_sorted hs x) fun c k => ?_; obtain ⟨⟨a, ha, hab⟩, _⟩ := hL x List.mem_cons_self; unfold aimStep aimPut; rw [ha, Int.toNat_natCast]; by_cases hg : goodB a x.n = true
  ·have hn := (pg_good hab hg).2; rw [if_pos hg, lkL_putL hs, h]; by_cases e : a = c ∧ x.n.toNat = k
   ·rw [if_pos e, if_pos ⟨hg, by rw [e.1], by rw [hn, e.2]⟩]
   ·rw [if_neg e, if_neg]; rintro ⟨_, h1, h2⟩; exact e ⟨Int.ofNat_inj.1 h1, by rw [h2]; rfl⟩
  ·rw [if_neg hg, if_neg (fun h => hg h.1), h]
theorem aim_list {t : Tr AT} {L : List TD} (hw : trWf t) (hL : ∀ x ∈ L, TdOk x) (h : ∀ c k, trGet c k t = aimF L c k) : trL t = aimL L :=
 lk_ext (trL_sorted t hw) (aimL_sorted L) fun c k => by rw [← trGet_lk hw, h, aimF_lk L hL]
theorem aimPut_len (L : List (Nat × Nat × AT)) (x : TD) : (aimPut L x).length ≤ L.length + 1 := by
 have h : ∀ (a n : Nat) (y : AT) (L : List (Nat × Nat × AT)), (putL a n y L).length ≤ L.length + 1 := fun a n y L => by
  induction L with
  | nil => simp [putL]
  | cons z L ih =>
   unfold putL; split
   ·simp
   ·split
    ·simp
    ·simp only [List.length_cons]; omega
 unfold aimPut; split
 ·exact h _ _ _ _
 ·omega
theorem aimL_mem {L : List TD} : ∀ z ∈ aimL L, ∃ x ∈ L, z.2.2 = normA x.at_ ∧ goodB x.a.toNat x.n = true ∧ z.1 = x.a.toNat ∧ z.2.1 = x.n.toNat := by
 suffices h : ∀ (L' : List TD) (acc : List (Nat × Nat × AT)), (∀ x ∈ L', x ∈ L) → acc.Pairwise PLt → (∀ z ∈ acc, ∃ x ∈ L, z.2.2 = normA x.at_ ∧ goodB x.a.toNat x.n = true ∧ z.1 = x.a.toNat ∧ z.2.1 = x.n.toNat) → ∀ z ∈ L'.foldl aimPut acc, ∃ x ∈ L, z.2.2 = normA x.at_ ∧ goodB x.a.toNat x.n = true ∧ z.1 = x.a.toNat ∧ z.2.1 = x.n.toNat from
  h L [] (fun _ h => h) List.Pairwise.nil (by simp)
 intro L'
 induction L' with
 | nil => exact fun acc _ _ h => h
 | cons x L' ih =>
  intro acc hsub hs h; refine ih _ (fun y hy => hsub y (List.mem_cons_of_mem _ hy)) (aimPut_sorted hs x) fun z hz => ?_; unfold aimPut at hz; split at hz
  ·rename_i hg; rcases (putL_mem hs z).1 hz with rfl | ⟨hz, _⟩
   ·exact ⟨x, hsub x List.mem_cons_self, rfl, hg, rfl, rfl⟩
   ·exact h z hz
  ·exact h z hz
theorem aimL_nrm (L : List TD) : NrmA (aimL L) := fun z hz => by
 obtain ⟨x, _, e, _⟩ := aimL_mem z hz; rw [e]; exact normA_eq _
section
variable {A T : List (Nat × Nat × AT)}
theorem eqA_refl (x : AT) : eqA x x = true := (eqA_iff x x).2 rfl
theorem settle_fold (hA : A.Pairwise PLt) (hT : T.Pairwise PLt) (hk : ∀ z ∈ T, (lkL z.1 z.2.1 A).isSome = true) : (A.filter (lackL T)).foldl putZ T = A := by
 refine lk_ext (foldZ_sorted _ _ hT) hA fun c k => ?_; rw [foldZ_lk _ _ (hA.sublist List.filter_sublist) hT, lkL_filter hA]
 cases hA2 : lkL c k A with
 | none =>
  simp only [Option.bind_none]
  cases hT2 : lkL c k T with
  | none => rfl
  | some y =>
   have := hk _ (lkL_key hT2); simp only at this; rw [hA2] at this
   cases this
 | some x =>
  simp only [Option.bind_some]; by_cases hl : lackL T (c, k, x) = true
  ·rw [if_pos hl]
  ·rw [if_neg hl]; unfold lackL at hl; simp only at hl
   cases hT2 : lkL c k T with
   | none => rw [hT2] at hl; simp at hl
   | some y =>
    rw [hT2] at hl; simp only [Bool.not_eq_true', Bool.not_eq_false] at hl; rw [(eqA_iff y x).1 (by simpa using hl)]
theorem settle_same (hA : A.Pairwise PLt) : A.filter (lackL A) = [] := by
 rw [List.filter_eq_nil_iff]; intro z hz; unfold lackL; rw [(lkL_mem (a := z.1) (n := z.2.1) (x := z.2.2) hA).2 hz]; simp [eqA_refl]
theorem settle_some (hA : A.Pairwise PLt) (hT : T.Pairwise PLt) (hk : ∀ z ∈ T, (lkL z.1 z.2.1 A).isSome = true) (h : A.filter (lackL T) = []) : T = A := by
 have := settle_fold hA hT hk
 rwa [h] at this
theorem keep_keys : ∀ z ∈ T.filter (fun z => (lkL z.1 z.2.1 A).isSome), (lkL z.1 z.2.1 A).isSome = true := fun z hz => by simpa using (List.mem_filter.1 hz).2
end
theorem putL_insert {α : Type} {a n : Nat} {x : α} : ∀ {L : List (Nat × Nat × α)}, L.Pairwise PLt → ∀ i, (∀ j (h : j < i) (h2 : j < (L.filter (fun z => !decide (a = z.1 ∧ n = z.2.1))).length), ((L.filter (fun z => !decide (a = z.1 ∧ n = z.2.1)))[j].1 < a ∨ (L.filter (fun z => !decide (a = z.1 ∧ n = z.2.1)))[j].1 = a ∧ (L.filter (fun z => !decide (a = z.1 ∧ n = z.2.1)))[j].2.1 < n)) → i ≤ (L.filter (fun z => !decide (a = z.1 ∧ n = z.2.1))).length →
  (∀ h : i < (L.filter (fun z => !decide (a = z.1 ∧ n = z.2.1))).length, ¬ ((L.filter (fun z => !decide (a = z.1 ∧ n = z.2.1)))[i].1 < a ∨ (L.filter (fun z => !decide (a = z.1 ∧ n = z.2.1)))[i].1 = a ∧ (L.filter (fun z => !decide (a = z.1 ∧ n = z.2.1)))[i].2.1 < n)) →
  (L.filter (fun z => !decide (a = z.1 ∧ n = z.2.1))).take i ++ [(a, n, x)] ++ (L.filter (fun z => !decide (a = z.1 ∧ n = z.2.1))).drop i = putL a n x L := by
 intro L hs i h1 h2 h3; obtain ⟨M, hM⟩ : ∃ M, L.filter (fun z => !decide (a = z.1 ∧ n = z.2.1)) = M := ⟨_, rfl⟩
 have hMs : M.Pairwise PLt := hM ▸ hs.sublist List.filter_sublist; have hMm : ∀ z, z ∈ M ↔ z ∈ L ∧ ¬ (a = z.1 ∧ n = z.2.1) := fun z => by rw [← hM, List.mem_filter]; simp only [Bool.not_eq_true', decide_eq_false_iff_not]
 simp only [hM] at h1 h2 h3 ⊢
 have hlow : ∀ z ∈ M.take i, PLt z (a, n, x) := fun z hz => by
  obtain ⟨j, hj, rfl⟩ := List.getElem_of_mem hz; rw [List.length_take] at hj; rw [List.getElem_take]; exact h1 j (by omega) (by omega)
 have hhi : ∀ z ∈ M.drop i, PLt (a, n, x) z := fun z hz => by
  obtain ⟨j, hj, rfl⟩ := List.getElem_of_mem hz; rw [List.length_drop] at hj; rw [List.getElem_drop]; have hi : i < M.length := (by omega)
  have h4 := h3 hi; have h5 : ¬ (a = M[i].1 ∧ n = M[i].2.1) := ((hMm M[i]).1 (List.getElem_mem hi)).2
  have h6 : j = 0 ∨ PLt M[i] M[i + j] := by
   rcases Nat.eq_zero_or_pos j with h0 | h0
   ·exact .inl h0
   ·exact .inr (List.pairwise_iff_getElem.1 hMs i (i + j) hi (by omega) (by omega))
  unfold PLt at h6 ⊢; simp only; rcases h6 with rfl | h6
  ·simp only [Nat.add_zero]; omega
  ·omega
 refine plt_ext _ _ ?_ (putL_sorted hs) fun z => ?_
 ·rw [List.append_assoc]; refine List.pairwise_append.2 ⟨hMs.sublist (List.take_sublist _ _), ?_, fun y hy z hz => ?_⟩
  ·exact List.pairwise_cons.2 ⟨hhi, hMs.sublist (List.drop_sublist _ _)⟩
  ·rcases List.mem_cons.1 hz with rfl | hz
   ·exact hlow y hy
   ·have e1 := hlow y hy; have e2 := hhi z hz; unfold PLt at e1 e2 ⊢; simp only at e1 e2; omega
 ·rw [putL_mem hs, ← hMm]; simp only [List.mem_append, List.mem_singleton]; constructor
  ·rintro ((h | h) | h)
   ·exact .inr (List.mem_of_mem_take h)
   ·exact .inl h
   ·exact .inr (List.mem_of_mem_drop h)
  ·rintro (h | h)
   ·exact .inl (.inr h)
   ·rw [← List.take_append_drop i M] at h; rcases List.mem_append.1 h with h | h
    ·exact .inl (.inl h)
    ·exact .inr h
end Go.Proofs.YtcinjckajnnhmaaGreat
namespace Go.Proofs.YtcinjckajnnhmaaGreat
open Go.RowKit Go.WideShapes Go.ChangeShapes
attribute [local go_sem] Oper.semAt_some
set_option maxRecDepth 100000 in
set_option maxHeartbeats 8000000 in
theorem refAttrSame_eq (X : AT) (v v' : Value) (w : World) (hv : AtR w X v) (hv' : AtR w X v') (hn : X.path.length ≤ 100000) : Calls Tryz.prog 46 #[v, v'] w (GoodP true w) := by
 obtain ⟨A, n, c, B, m, d, rfl, hP, hC⟩ := hv; obtain ⟨A2, n2, c2, B2, m2, d2, rfl, hP2, hC2⟩ := hv'; obtain ⟨w1, hw1⟩ : ∃ w1, (w.alloc (.cells (atC X.has X.org A n c X.hop X.med X.pref X.aas X.aid B m d) 28)).alloc (.cells (atC X.has X.org A2 n2 c2 X.hop X.med X.pref X.aas X.aid B2 m2 d2) 28) = w1 := ⟨_, rfl⟩
 have hb1 : Below w.heap.size w w1 := hw1 ▸ blkBelow2 w _ _; have HK1 : Hid (Blk w1 w.heap.size 28 (atC X.has X.org A n c X.hop X.med X.pref X.aas X.aid B m d)) := hide (hw1 ▸ (Blk.new w _ _).alloc _); have HK2 : Hid (Blk w1 (w.heap.size + 1) 28 (atC X.has X.org A2 n2 c2 X.hop X.med X.pref X.aas X.aid B2 m2 d2)) := hide (hw1 ▸ blk_new' _ _ (by simp)); have HPs := hide (psame_eq A A2 n c n2 c2 X.path w1 (hP.below sgMono hb1) (hP2.below sgMono hb1) (by rw [← hP.1]; exact hn)); have HU := hide (fun W (hb : Below w.heap.size w W) => hC.below hb); have HU2 := hide (fun W (hb : Below w.heap.size w W) => hC2.below hb); have HB1 := hide hb1; have HW1 := hide hw1; clear hw1 hb1 hP hP2 hC hC2 hn
 go_enter Tryz.func46, Tryz.ntmps46
 go_wp2_with fail
 rw [HW1.out]; refine HPs.out.mono ?_; rintro e w2 ⟨rfl, hb⟩; have HB2 := hide (HB1.out.trans (hb.mono HB1.out.size)); have HK1 := hide (HK1.out.below hb HK1.out.lt); have HK2 := hide (HK2.out.below hb HK2.out.lt); have HSa := hide (refSame_any B m d X.comms B2 m2 d2 X.comms w2 (HU.out w2 HB2.out) (HU2.out w2 HB2.out)); clear hb; obtain ⟨a0, a1, a2, a3, a4, a5, a6, a7, a8⟩ := blk9 HK1.out; obtain ⟨b0, b1, b2, b3, b4, b5, b6, b7, b8⟩ := blk9 HK2.out
 go_wp2_with fail
 refine HSa.out.mono ?_; rintro e w3 ⟨rfl, hb⟩; have HB3 := hide (HB2.out.trans (hb.mono HB2.out.size)); clear hb a0 a1 a2 a3 a4 a5 a6 a7 a8 b0 b1 b2 b3 b4 b5 b6 b7 b8; go_wp2; go_ret; exact ⟨by simp, HB3.out⟩
def tdZ (z : Nat × Nat × AT) : TD := ⟨(z.1 : Int), (z.2.1 : Int), z.2.2⟩
theorem tdN_Z {L : List (Nat × Nat × AT)} (h : NrmA L) : L.map tdN = L.map tdZ := List.map_congr_left fun z hz => by unfold tdN tdZ; rw [h z hz]
theorem TZat {w : World} {A : Option Addr} {n c q : Nat} {L : List (Nat × Nat × AT)} (h : LstAt 11 tdR w A n c (L.map tdZ)) (hq : q < n) : ∃ g o z B1 k1 c1 B2 m2 d2, A = some ⟨g, o, none⟩ ∧ g < w.heap.size ∧ L[q]? = some z ∧ LstAt 2 sgR w B1 k1 c1 z.2.2.path ∧ U32s w B2 m2 d2 z.2.2.comms ∧ ∀ (j : Nat) (v : Value), [.int .u32 (z.1 : Int), .int .i64 (z.2.1 : Int), .int .i64 z.2.2.has, .int .i64 z.2.2.org, .slice B1 k1 c1, .int .u32 z.2.2.hop, .int .u32 z.2.2.med, .int .u32 z.2.2.pref, .int .u32 z.2.2.aas, .int .u32 z.2.2.aid, .slice B2 m2 d2][j]? = some v → w.cell? ⟨g, o + q * 11 + j, none⟩ = some v := by
 obtain ⟨g, o, x, B1, k1, c1, B2, m2, d2, e, hg, hx, h1, h2, h3⟩ := TDat h hq; rw [List.getElem?_map] at hx
 cases hz : L[q]? with
 | none => rw [hz] at hx; simp at hx
 | some z =>
  rw [hz] at hx; simp only [Option.map_some, Option.some.injEq] at hx; subst hx; exact ⟨g, o, z, B1, k1, c1, B2, m2, d2, e, hg, rfl, h1, h2, h3⟩
def At36 (L : List (Nat × Nat × AT)) (a n : Nat) (k : Int) : Prop := (∃ (i : Nat) (x : AT), k = (i : Int) ∧ i < L.length ∧ L[i]? = some (a, n, x) ∧ lkL a n L = some x) ∨ (k = -1 ∧ lkL a n L = none)
theorem lk_first {a n q : Nat} {z : Nat × Nat × AT} : ∀ {L : List (Nat × Nat × AT)}, (∀ y ∈ L.take q, ¬ (a = y.1 ∧ n = y.2.1)) → L[q]? = some z → a = z.1 ∧ n = z.2.1 → lkL a n L = some z.2.2 := fun {L} h hz e => by
 have hL : L = L.take q ++ z :: L.drop (q + 1) := by
  obtain ⟨h1, h2⟩ := List.getElem?_eq_some_iff.1 hz; rw [← h2, ← List.drop_eq_getElem_cons h1, List.take_append_drop]
 unfold lkL; rw [hL, List.find?_append]
 have e1 : (L.take q).find? (fun z => decide (a = z.1 ∧ n = z.2.1)) = none := by
  rw [List.find?_eq_none]; intro y hy; simp only [decide_eq_true_eq]; exact h y hy
 rw [e1, List.find?_cons, decide_eq_true e]
 rfl
theorem lk_nowhere {a n : Nat} {L : List (Nat × Nat × AT)} (h : ∀ y ∈ L, ¬ (a = y.1 ∧ n = y.2.1)) : lkL a n L = none := by
 unfold lkL
 have e1 : L.find? (fun z => decide (a = z.1 ∧ n = z.2.1)) = none := by
  rw [List.find?_eq_none]; intro y hy; simp only [decide_eq_true_eq]; exact h y hy
 rw [e1]
 rfl
set_option maxRecDepth 100000 in
set_option maxHeartbeats 8000000 in
theorem refAt36_any (A : Option Addr) (n c : Nat) (L : List (Nat × Nat × AT)) (a n0 : Nat) (w : World) (h : LstAt 11 tdR w A n c (L.map tdZ)) :
  Calls Tryz.prog 26 #[.slice A n c, .agg #[.int .u32 (a : Int), .int .i64 (n0 : Int)]] w fun e w' => ∃ k, e = .returned (.int .i64 k) ∧ At36 L a n0 k ∧ Below w.heap.size w w' := by
 have hln : L.length = n := (by have := h.1; rwa [List.length_map] at this)
 have hnc := h.2.1; have hmx := h.2.2.1; unfold maxLen at hmx; have HL := hide h; have HLn := hide hln; obtain ⟨w0, hw0⟩ : ∃ W, w.alloc (.cells #[.int .u32 (a : Int), .int .i64 (n0 : Int)] 24) = W := ⟨_, rfl⟩
 have hb0 : Below w.heap.size w w0 := hw0 ▸ blkBelow1 w _; have HBx : Hid (Blk w0 w.heap.size 24 #[.int .u32 (a : Int), .int .i64 (n0 : Int)]) := hide (hw0 ▸ Blk.new w _ _); have HB0 := hide hb0; have HW0 := hide hw0; have hs0 := hb0.size; clear h hln hw0 hb0
 go_enter Tryz.func26, Tryz.ntmps26
 go_wp2; rw [HW0.out]
 go_loopw [5] (fun iv wr => ∃ q : Nat, q ≤ n ∧ iv = .int .i64 (q : Nat) ∧ Below w0.heap.size w0 wr ∧ ∀ y ∈ L.take q, ¬ (a = y.1 ∧ n0 = y.2.1)) (fun iv _ => n - (intOf iv).toNat)
 case atStart => exact ⟨0, Nat.zero_le _, rfl, Below.refl _ _, by simp⟩
 case round =>
  obtain ⟨q, hq, rfl, hbel, hno⟩ := hrel; have HBe := hide hbel; have HNo := hide hno; by_cases hlt : q < n
  ·obtain ⟨g, o, z, B1, k1, c1, B2, m2, d2, rfl, hg, hz, _, _, hcs⟩ := TZat ((HL.out.below tdMono HB0.out).below tdMono hbel) hlt; have HTk : Hid (L.take (q + 1) = L.take q ++ [z]) := hide (by rw [List.take_add_one, hz]; rfl); have HZ := hide hz; have F0 : Hid (wr.cell? ⟨g, o + q * 11, none⟩ = some (.int .u32 (z.1 : Int))) := hide (hcs 0 _ rfl); have F1 : Hid (wr.cell? ⟨g, o + q * 11 + 1, none⟩ = some (.int .i64 (z.2.1 : Int))) := hide (hcs 1 _ rfl); have HBw := hide (HBx.out.below hbel HBx.out.lt); obtain ⟨a2, m2, X⟩ := z; simp only at F0 F1; have q1 : (q : Int) < (n : Int) := (by omega)
   have q0 : (0 : Int) ≤ (q : Int) := (by omega)
   have hwq : IntKind.i64.wrap ((q : Int) + 1) = (q : Int) + 1 := (by rw [IntKind.wrap_i64]; omega)
   obtain ⟨E, hE⟩ : ∃ b, ((a2 : Int) == (a : Int) && (m2 : Int) == (n0 : Int)) = b := ⟨_, rfl⟩
   have HE := hide hE; have HEi : Hid (E = true ↔ (a = a2 ∧ n0 = m2)) := hide (by rw [← hE]; simp only [Bool.and_eq_true, beq_iff_eq, Int.ofNat_inj]; exact ⟨fun ⟨x, y⟩ => ⟨x.symm, y.symm⟩, fun ⟨x, y⟩ => ⟨x.symm, y.symm⟩⟩); clear hbel hno hz hcs hE; go_wp2; have Hmn := hide (show AllMono [(isV (.slice (some ⟨g, o, none⟩) n c)), (isV (.int .i64 (q : Int))), (isV (ptv g (o + q * 11))), (isV (ptv g (o + q * 11))), (isV (.agg #[.int .u32 (a2 : Int), .int .i64 (m2 : Int)])), (isV (.agg #[.int .u32 (a : Int), .int .i64 (n0 : Int)])), (isV (.bool E))] from by repeat (first | exact trivial | refine ⟨fun _ _ _ _ h => h, ?_⟩)); refine wp_region_rel _ (by kernel_rfl) (by kernel_rfl) (relMono _ Hmn.out) ⟨?_, ?_, ?_, ?_, ?_, ?_, ?_, trivial⟩ ?_
   ·exact relStep_plain rfl fun Ac w5 hp => pureM (.slice (some ⟨g, o, none⟩) n c) 0 (hp.out 0 (by rfl))
   ·exact relStep_plain rfl fun Ac w5 hp => pureM (.int .i64 (q : Int)) 5 (hp.out 5 (by rfl))
   ·exact relStep_plain rfl fun Ac w5 hp => pure2 (ptv g (o + q * 11)) 12 (.slice (some ⟨g, o, none⟩) n c) (hp.d 0) 13 (.int .i64 (q : Int)) (hp.d 1)
   ·exact relStep_plain rfl fun Ac w5 hp => pureM (ptv g (o + q * 11)) 14 (hp.d 2)
   ·refine relStep_plain rfl ?_; intro Ac w5 hp; have hb := hp.bel; have f0 : w5.cell? ⟨g, o + q * 11, none⟩ = some (.int .u32 (a2 : Int)) := (hb.cell hg).trans F0.out; have f1 : w5.cell? ⟨g, o + q * 11 + 1, none⟩ = some (.int .i64 (m2 : Int)) := (hb.cell hg).trans F1.out; exact pure1 (.agg #[.int .u32 (a2 : Int), .int .i64 (m2 : Int)]) 15 (ptv g (o + q * 11)) (hp.d 3)
   ·refine relStep_plain rfl ?_; intro Ac w5 hp; have hb := hp.bel; have hx5 := HBw.out.below hb HBw.out.lt; have z2 : w5.cell? ⟨w.heap.size, 0, none⟩ = some (.int .u32 (a : Int)) := hx5.cell 0; have z3 : w5.cell? ⟨w.heap.size, 1, none⟩ = some (.int .i64 (n0 : Int)) := hx5.cell 1; exact pure1 (.agg #[.int .u32 (a : Int), .int .i64 (n0 : Int)]) 3 (ptv w.heap.size 0) (hp.out 3 (by rfl))
   ·refine relStep_plain rfl ?_; intro Ac w5 hp; have a16 : Ac.eval (.tmp 16) = .agg #[.int .u32 (a2 : Int), .int .i64 (m2 : Int)] := hp.d 4; have a17 : Ac.eval (.tmp 17) = .agg #[.int .u32 (a : Int), .int .i64 (n0 : Int)] := hp.d 5; have heq := HE.out; exact relPureX (.bool E) (fun ρ hρ h1 h2 h3 => by rw [hρ] at a16 a17; simp [go_sem, ↓IntWalk.iteOmega, *]; rw [← heq]; by_cases h1 : (a2 : Int) = (a : Int) <;> by_cases h2 : (m2 : Int) = (n0 : Int) <;> simp [h1, h2]) rfl
   intro u w8 hb7 hall; have e18 : u 6 = .bool E := relAll_at hall (i := 6) (by decide +kernel); clear hall; simp only [List.drop_succ_cons, List.drop_zero, List.take_succ_cons, List.take_zero, putAll, Act.put, List.setIfInBounds_toArray, List.set_cons_zero, List.set_cons_succ, Nat.zero_add, Nat.reduceAdd, e18]; have HB8 := hide (HBe.out.trans (hb7.mono HBe.out.size)); clear hb7
   cases E with
   | true =>
    go_wp2; go_ret; refine ⟨(q : Int), rfl, .inl ⟨q, X, rfl, by rw [HLn.out]; exact hlt, ?_, ?_⟩, HB0.out.trans (HB8.out.mono HB0.out.size)⟩
    ·have e := HEi.out.1 (by simp); rw [HZ.out, e.1, e.2]
    ·exact lk_first HNo.out HZ.out (HEi.out.1 (by simp))
   | false =>
    go_wp2
    go_roundw
    case rel =>
     refine ⟨q + 1, by omega, by go_num, HB8.out, fun y hy => ?_⟩; rw [HTk.out, List.mem_append, List.mem_singleton] at hy; rcases hy with hy | rfl
     ·exact HNo.out y hy
     ·exact fun e => absurd (HEi.out.2 e) (by simp)
    case measure => simp [intOf]; omega
  ·obtain rfl : q = n := (by omega)
   have e1 : decide ((q : Int) < (q : Int)) = false := (by simp)
   have HNw : Hid (lkL a n0 L = none) := hide (lk_nowhere (fun y hy => hno y (by rw [List.take_of_length_le (by rw [HLn.out]; exact Nat.le_refl _)]; exact hy))); clear hbel hlt hno; go_wp2; go_ret; exact ⟨-1, rfl, .inr ⟨rfl, HNw.out⟩, HB0.out.trans (HBe.out.mono HB0.out.size)⟩
set_option maxRecDepth 100000 in
set_option maxHeartbeats 8000000 in
theorem toldSame_eq (A B : Option Addr) (n c m d : Nat) (L : List (Nat × Nat × AT)) (w : World) (h : LstAt 11 tdR w A n c (L.map tdZ)) (h' : LstAt 11 tdR w B m d (L.map tdZ)) (hpl : ∀ z ∈ L, z.2.2.path.length ≤ 100000) :
  Calls Tryz.prog 29 #[.slice A n c, .slice B m d] w (GoodP true w) := by
 obtain rfl : n = m := h.1.symm.trans h'.1; have hnc := h.2.1; have hmx := h.2.2.1; have hnd := h'.2.1; have hmx2 := h'.2.2.1; unfold maxLen at hmx hmx2; have HL1 := hide h; have HL2 := hide h'; have HPls := hide hpl; clear h h' hpl
 go_enter Tryz.func29, Tryz.ntmps29
 go_wp2
 go_loopw [5] (fun iv wr => ∃ q : Nat, q ≤ n ∧ iv = .int .i64 (q : Nat) ∧ Below w.heap.size w wr) (fun iv _ => n - (intOf iv).toNat)
 case atStart => exact ⟨0, Nat.zero_le _, rfl, Below.refl _ _⟩
 case round =>
  obtain ⟨q, hq, rfl, hbel⟩ := hrel; have HBe := hide hbel; by_cases hlt : q < n
  ·obtain ⟨g, o, z, B1, k1, c1, C1, m1, d1, rfl, hg, hx, hr1, hu1, hcs1⟩ := TZat (HL1.out.below tdMono hbel) hlt; obtain ⟨g2, o2, z2, B2, k2, c2, C2, m2, d2, rfl, hg2, hx2, hr2, hu2, hcs2⟩ := TZat (HL2.out.below tdMono hbel) hlt; rw [hx] at hx2; simp only [Option.some.injEq] at hx2; subst hx2; have HPl := hide (HPls.out z (List.mem_of_getElem? hx)); have HR1 := hide hr1; have HR2 := hide hr2; have HU1 := hide hu1; have HU2 := hide hu2; have HC1 := hide hcs1; have HC2 := hide hcs2; have i1 : (q : Int) < (n : Int) := (by omega)
   have i0 : (0 : Int) ≤ (q : Int) := (by omega)
   have hwi : IntKind.i64.wrap ((q : Int) + 1) = (q : Int) + 1 := (by rw [IntKind.wrap_i64]; omega)
   clear hbel hx hr1 hr2 hu1 hu2 hcs1 hcs2; go_wp2; have Hmn := hide (show AllMono [(isV (.slice (some ⟨g, o, none⟩) n c)), (isV (.int .i64 (q : Int))), (isV (ptv g (o + q * 11))), (isV (ptv g (o + q * 11))), (isV (.agg #[.int .u32 (z.1 : Int), .int .i64 (z.2.1 : Int)])), (isV (.slice (some ⟨g2, o2, none⟩) n d)), (isV (.int .i64 (q : Int))), (isV (ptv g2 (o2 + q * 11))), (isV (ptv g2 (o2 + q * 11))), (isV (.agg #[.int .u32 (z.1 : Int), .int .i64 (z.2.1 : Int)])), (isV (.bool false)), (isV (.bool false)), (isV (.slice (some ⟨g, o, none⟩) n c)), (isV (.int .i64 (q : Int))), (isV (ptv g (o + q * 11))), (isV (ptv g (o + q * 11 + 2))), (isV (atV z.2.2.has z.2.2.org B1 k1 c1 z.2.2.hop z.2.2.med z.2.2.pref z.2.2.aas z.2.2.aid C1 m1 d1)), (isV (.slice (some ⟨g2, o2, none⟩) n d)), (isV (.int .i64 (q : Int))), (isV (ptv g2 (o2 + q * 11))), (isV (ptv g2 (o2 + q * 11 + 2))), (isV (atV z.2.2.has z.2.2.org B2 k2 c2 z.2.2.hop z.2.2.med z.2.2.pref z.2.2.aas z.2.2.aid C2 m2 d2)), (isV (.bool true)), (isV (.bool false)), (isV (.bool false))] from by repeat (first | exact trivial | refine ⟨fun _ _ _ _ h => h, ?_⟩)); refine wp_region_rel _ (by kernel_rfl) (by kernel_rfl) (relMono _ Hmn.out) ⟨?_, ?_, ?_, ?_, ?_, ?_, ?_, ?_, ?_, ?_, ?_, ?_, ?_, ?_, ?_, ?_, ?_, ?_, ?_, ?_, ?_, ?_, ?_, ?_, ?_, trivial⟩ ?_
   ·exact relStep_plain rfl fun Ac w5 hp => pureM (.slice (some ⟨g, o, none⟩) n c) 0 (hp.out 0 (by rfl))
   ·exact relStep_plain rfl fun Ac w5 hp => pureM (.int .i64 (q : Int)) 5 (hp.out 5 (by rfl))
   ·exact relStep_plain rfl fun Ac w5 hp => pure2 (ptv g (o + q * 11)) 17 (.slice (some ⟨g, o, none⟩) n c) (hp.d 0) 18 (.int .i64 (q : Int)) (hp.d 1)
   ·exact relStep_plain rfl fun Ac w5 hp => pureM (ptv g (o + q * 11)) 19 (hp.d 2)
   ·refine relStep_plain rfl ?_; intro Ac w5 hp; have hb := hp.bel; have f0 : w5.cell? ⟨g, o + q * 11, none⟩ = some (.int .u32 (z.1 : Int)) := (hb.cell hg).trans (HC1.out 0 _ rfl); have f1 : w5.cell? ⟨g, o + q * 11 + 1, none⟩ = some (.int .i64 (z.2.1 : Int)) := (hb.cell hg).trans (HC1.out 1 _ rfl); have f2 : w5.cell? ⟨g, o + q * 11 + 2, none⟩ = some (.int .i64 z.2.2.has) := (hb.cell hg).trans (HC1.out 2 _ rfl); have f3 : w5.cell? ⟨g, o + q * 11 + 3, none⟩ = some (.int .i64 z.2.2.org) := (hb.cell hg).trans (HC1.out 3 _ rfl); have f4 : w5.cell? ⟨g, o + q * 11 + 4, none⟩ = some (.slice B1 k1 c1) := (hb.cell hg).trans (HC1.out 4 _ rfl); have f5 : w5.cell? ⟨g, o + q * 11 + 5, none⟩ = some (.int .u32 z.2.2.hop) := (hb.cell hg).trans (HC1.out 5 _ rfl); have f6 : w5.cell? ⟨g, o + q * 11 + 6, none⟩ = some (.int .u32 z.2.2.med) := (hb.cell hg).trans (HC1.out 6 _ rfl); have f7 : w5.cell? ⟨g, o + q * 11 + 7, none⟩ = some (.int .u32 z.2.2.pref) := (hb.cell hg).trans (HC1.out 7 _ rfl); have f8 : w5.cell? ⟨g, o + q * 11 + 8, none⟩ = some (.int .u32 z.2.2.aas) := (hb.cell hg).trans (HC1.out 8 _ rfl); have f9 : w5.cell? ⟨g, o + q * 11 + 9, none⟩ = some (.int .u32 z.2.2.aid) := (hb.cell hg).trans (HC1.out 9 _ rfl); have f10 : w5.cell? ⟨g, o + q * 11 + 10, none⟩ = some (.slice C1 m1 d1) := (hb.cell hg).trans (HC1.out 10 _ rfl); exact pure1 (.agg #[.int .u32 (z.1 : Int), .int .i64 (z.2.1 : Int)]) 20 (ptv g (o + q * 11)) (hp.d 3)
   ·exact relStep_plain rfl fun Ac w5 hp => pureM (.slice (some ⟨g2, o2, none⟩) n d) 1 (hp.out 1 (by rfl))
   ·exact relStep_plain rfl fun Ac w5 hp => pureM (.int .i64 (q : Int)) 5 (hp.out 5 (by rfl))
   ·exact relStep_plain rfl fun Ac w5 hp => pure2 (ptv g2 (o2 + q * 11)) 22 (.slice (some ⟨g2, o2, none⟩) n d) (hp.d 5) 23 (.int .i64 (q : Int)) (hp.d 6)
   ·exact relStep_plain rfl fun Ac w5 hp => pureM (ptv g2 (o2 + q * 11)) 24 (hp.d 7)
   ·refine relStep_plain rfl ?_; intro Ac w5 hp; have hb := hp.bel; have f0 : w5.cell? ⟨g2, o2 + q * 11, none⟩ = some (.int .u32 (z.1 : Int)) := (hb.cell hg2).trans (HC2.out 0 _ rfl); have f1 : w5.cell? ⟨g2, o2 + q * 11 + 1, none⟩ = some (.int .i64 (z.2.1 : Int)) := (hb.cell hg2).trans (HC2.out 1 _ rfl); have f2 : w5.cell? ⟨g2, o2 + q * 11 + 2, none⟩ = some (.int .i64 z.2.2.has) := (hb.cell hg2).trans (HC2.out 2 _ rfl); have f3 : w5.cell? ⟨g2, o2 + q * 11 + 3, none⟩ = some (.int .i64 z.2.2.org) := (hb.cell hg2).trans (HC2.out 3 _ rfl); have f4 : w5.cell? ⟨g2, o2 + q * 11 + 4, none⟩ = some (.slice B2 k2 c2) := (hb.cell hg2).trans (HC2.out 4 _ rfl); have f5 : w5.cell? ⟨g2, o2 + q * 11 + 5, none⟩ = some (.int .u32 z.2.2.hop) := (hb.cell hg2).trans (HC2.out 5 _ rfl); have f6 : w5.cell? ⟨g2, o2 + q * 11 + 6, none⟩ = some (.int .u32 z.2.2.med) := (hb.cell hg2).trans (HC2.out 6 _ rfl); have f7 : w5.cell? ⟨g2, o2 + q * 11 + 7, none⟩ = some (.int .u32 z.2.2.pref) := (hb.cell hg2).trans (HC2.out 7 _ rfl); have f8 : w5.cell? ⟨g2, o2 + q * 11 + 8, none⟩ = some (.int .u32 z.2.2.aas) := (hb.cell hg2).trans (HC2.out 8 _ rfl); have f9 : w5.cell? ⟨g2, o2 + q * 11 + 9, none⟩ = some (.int .u32 z.2.2.aid) := (hb.cell hg2).trans (HC2.out 9 _ rfl); have f10 : w5.cell? ⟨g2, o2 + q * 11 + 10, none⟩ = some (.slice C2 m2 d2) := (hb.cell hg2).trans (HC2.out 10 _ rfl); exact pure1 (.agg #[.int .u32 (z.1 : Int), .int .i64 (z.2.1 : Int)]) 25 (ptv g2 (o2 + q * 11)) (hp.d 8)
   ·exact relStep_plain rfl fun Ac w5 hp => pure2 (.bool false) 21 (.agg #[.int .u32 (z.1 : Int), .int .i64 (z.2.1 : Int)]) (hp.d 4) 26 (.agg #[.int .u32 (z.1 : Int), .int .i64 (z.2.1 : Int)]) (hp.d 9)
   ·exact relStep_plain rfl fun Ac w5 hp => pureM (.bool false) 27 (hp.d 10)
   ·exact rsG 11 false fun Ac w5 hp => pureM (.slice (some ⟨g, o, none⟩) n c) 0 (hp.out 0 (by rfl))
   ·exact rsG 11 false fun Ac w5 hp => pureM (.int .i64 (q : Int)) 5 (hp.out 5 (by rfl))
   ·exact rsG 11 false fun Ac w5 hp => pure2 (ptv g (o + q * 11)) 29 (.slice (some ⟨g, o, none⟩) n c) (hp.d 12) 30 (.int .i64 (q : Int)) (hp.d 13)
   ·exact rsG 11 false fun Ac w5 hp => pure1 (ptv g (o + q * 11 + 2)) 31 (ptv g (o + q * 11)) (hp.d 14)
   ·refine rsG 11 false ?_; intro Ac w5 hp; have hb := hp.bel; have f0 : w5.cell? ⟨g, o + q * 11, none⟩ = some (.int .u32 (z.1 : Int)) := (hb.cell hg).trans (HC1.out 0 _ rfl); have f1 : w5.cell? ⟨g, o + q * 11 + 1, none⟩ = some (.int .i64 (z.2.1 : Int)) := (hb.cell hg).trans (HC1.out 1 _ rfl); have f2 : w5.cell? ⟨g, o + q * 11 + 2, none⟩ = some (.int .i64 z.2.2.has) := (hb.cell hg).trans (HC1.out 2 _ rfl); have f3 : w5.cell? ⟨g, o + q * 11 + 3, none⟩ = some (.int .i64 z.2.2.org) := (hb.cell hg).trans (HC1.out 3 _ rfl); have f4 : w5.cell? ⟨g, o + q * 11 + 4, none⟩ = some (.slice B1 k1 c1) := (hb.cell hg).trans (HC1.out 4 _ rfl); have f5 : w5.cell? ⟨g, o + q * 11 + 5, none⟩ = some (.int .u32 z.2.2.hop) := (hb.cell hg).trans (HC1.out 5 _ rfl); have f6 : w5.cell? ⟨g, o + q * 11 + 6, none⟩ = some (.int .u32 z.2.2.med) := (hb.cell hg).trans (HC1.out 6 _ rfl); have f7 : w5.cell? ⟨g, o + q * 11 + 7, none⟩ = some (.int .u32 z.2.2.pref) := (hb.cell hg).trans (HC1.out 7 _ rfl); have f8 : w5.cell? ⟨g, o + q * 11 + 8, none⟩ = some (.int .u32 z.2.2.aas) := (hb.cell hg).trans (HC1.out 8 _ rfl); have f9 : w5.cell? ⟨g, o + q * 11 + 9, none⟩ = some (.int .u32 z.2.2.aid) := (hb.cell hg).trans (HC1.out 9 _ rfl); have f10 : w5.cell? ⟨g, o + q * 11 + 10, none⟩ = some (.slice C1 m1 d1) := (hb.cell hg).trans (HC1.out 10 _ rfl); exact pure1 (atV z.2.2.has z.2.2.org B1 k1 c1 z.2.2.hop z.2.2.med z.2.2.pref z.2.2.aas z.2.2.aid C1 m1 d1) 32 (ptv g (o + q * 11 + 2)) (hp.d 15)
   ·exact rsG 11 false fun Ac w5 hp => pureM (.slice (some ⟨g2, o2, none⟩) n d) 1 (hp.out 1 (by rfl))
   ·exact rsG 11 false fun Ac w5 hp => pureM (.int .i64 (q : Int)) 5 (hp.out 5 (by rfl))
   ·exact rsG 11 false fun Ac w5 hp => pure2 (ptv g2 (o2 + q * 11)) 34 (.slice (some ⟨g2, o2, none⟩) n d) (hp.d 17) 35 (.int .i64 (q : Int)) (hp.d 18)
   ·exact rsG 11 false fun Ac w5 hp => pure1 (ptv g2 (o2 + q * 11 + 2)) 36 (ptv g2 (o2 + q * 11)) (hp.d 19)
   ·refine rsG 11 false ?_; intro Ac w5 hp; have hb := hp.bel; have f0 : w5.cell? ⟨g2, o2 + q * 11, none⟩ = some (.int .u32 (z.1 : Int)) := (hb.cell hg2).trans (HC2.out 0 _ rfl); have f1 : w5.cell? ⟨g2, o2 + q * 11 + 1, none⟩ = some (.int .i64 (z.2.1 : Int)) := (hb.cell hg2).trans (HC2.out 1 _ rfl); have f2 : w5.cell? ⟨g2, o2 + q * 11 + 2, none⟩ = some (.int .i64 z.2.2.has) := (hb.cell hg2).trans (HC2.out 2 _ rfl); have f3 : w5.cell? ⟨g2, o2 + q * 11 + 3, none⟩ = some (.int .i64 z.2.2.org) := (hb.cell hg2).trans (HC2.out 3 _ rfl); have f4 : w5.cell? ⟨g2, o2 + q * 11 + 4, none⟩ = some (.slice B2 k2 c2) := (hb.cell hg2).trans (HC2.out 4 _ rfl); have f5 : w5.cell? ⟨g2, o2 + q * 11 + 5, none⟩ = some (.int .u32 z.2.2.hop) := (hb.cell hg2).trans (HC2.out 5 _ rfl); have f6 : w5.cell? ⟨g2, o2 + q * 11 + 6, none⟩ = some (.int .u32 z.2.2.med) := (hb.cell hg2).trans (HC2.out 6 _ rfl); have f7 : w5.cell? ⟨g2, o2 + q * 11 + 7, none⟩ = some (.int .u32 z.2.2.pref) := (hb.cell hg2).trans (HC2.out 7 _ rfl); have f8 : w5.cell? ⟨g2, o2 + q * 11 + 8, none⟩ = some (.int .u32 z.2.2.aas) := (hb.cell hg2).trans (HC2.out 8 _ rfl); have f9 : w5.cell? ⟨g2, o2 + q * 11 + 9, none⟩ = some (.int .u32 z.2.2.aid) := (hb.cell hg2).trans (HC2.out 9 _ rfl); have f10 : w5.cell? ⟨g2, o2 + q * 11 + 10, none⟩ = some (.slice C2 m2 d2) := (hb.cell hg2).trans (HC2.out 10 _ rfl); exact pure1 (atV z.2.2.has z.2.2.org B2 k2 c2 z.2.2.hop z.2.2.med z.2.2.pref z.2.2.aas z.2.2.aid C2 m2 d2) 37 (ptv g2 (o2 + q * 11 + 2)) (hp.d 20)
   ·refine rsG 11 false ?_; intro Ac w5 hp; have hb := hp.bel; have a33 : Ac.eval (.tmp 33) = atV z.2.2.has z.2.2.org B1 k1 c1 z.2.2.hop z.2.2.med z.2.2.pref z.2.2.aas z.2.2.aid C1 m1 d1 := hp.d 16; have a38 : Ac.eval (.tmp 38) = atV z.2.2.has z.2.2.org B2 k2 c2 z.2.2.hop z.2.2.med z.2.2.pref z.2.2.aas z.2.2.aid C2 m2 d2 := hp.d 21; obtain ⟨ρ, hρ, hc, hf, hgl⟩ := evalX Ac; rw [hρ] at a33 a38; refine relCall hρ 46 #[atV z.2.2.has z.2.2.org B1 k1 c1 z.2.2.hop z.2.2.med z.2.2.pref z.2.2.aas z.2.2.aid C1 m1 d1, atV z.2.2.has z.2.2.org B2 k2 c2 z.2.2.hop z.2.2.med z.2.2.pref z.2.2.aas z.2.2.aid C2 m2 d2] (by simp [go_sem, ↓IntWalk.iteOmega, *]) ?_; refine (refAttrSame_eq z.2.2 _ _ w5 ⟨B1, k1, c1, C1, m1, d1, rfl, HR1.out.below sgMono hb, HU1.out.below hb⟩ ⟨B2, k2, c2, C2, m2, d2, rfl, HR2.out.below sgMono hb, HU2.out.below hb⟩ HPl.out).mono ?_; rintro e w6 ⟨rfl, hb6⟩; exact ⟨_, rfl, rfl, hb6⟩
   ·exact rsG 11 false fun Ac w5 hp => pure1 (.bool false) 39 (.bool true) (hp.d 22)
   ·exact relStep_plain rfl fun Ac w5 hp => pure2 (.bool false) 28 (.bool false) (hp.d 11) 40 (.bool false) (hp.d 23)
   intro u w8 hb7 hall; have e41 : u 24 = .bool false := relAll_at hall (i := 24) (by decide +kernel); clear hall; simp only [List.drop_succ_cons, List.drop_zero, List.take_succ_cons, List.take_zero, putAll, Act.put, List.setIfInBounds_toArray, List.set_cons_zero, List.set_cons_succ, Nat.zero_add, Nat.reduceAdd, e41]; have HB8 := hide (HBe.out.trans (hb7.mono HBe.out.size)); clear hb7; go_wp2
   go_roundw
   case rel => exact ⟨q + 1, by omega, by go_num, HB8.out⟩
   case measure => simp [intOf]; omega
  ·obtain rfl : q = n := (by omega)
   have e1 : decide ((q : Int) < (q : Int)) = false := (by simp)
   clear hbel hlt; go_wp2; go_ret; exact ⟨rfl, HBe.out⟩
end Go.Proofs.YtcinjckajnnhmaaGreat
namespace Go.Proofs.YtcinjckajnnhmaaGreat
open Go.RowKit Go.WideShapes Go.ChangeShapes
theorem relValS {P : Program} {o : Oper} {A : Act} {w : World} {S : Value → World → Prop} {Q : Exit → Act → World → Prop} {ρ : Operand → Value} (hρ : A.eval = ρ) (v : Value) (w' : World) (h : (execOp ρ o).run P w = .ok (.value v) w') (hS : S v w') :
  o.wp P A w (fun A' w' => ∃ v, A' = A.put o.dst v ∧ S v w') Q := by
 subst hρ; unfold Oper.wp; rw [h]; exact ⟨v, rfl, hS⟩
theorem relCallS {P : Program} {o : Oper} {A : Act} {w : World} {S : Value → World → Prop} {Q : Exit → Act → World → Prop} {ρ : Operand → Value} (hρ : A.eval = ρ) (f : FuncId) (args : Array Value) (h : (execOp ρ o).run P w = .ok (.enter f args) w)
  (hc : Calls P f args w fun e w' => ∃ v, e = .returned v ∧ S v w') :
  o.wp P A w (fun A' w' => ∃ v, A' = A.put o.dst v ∧ S v w') Q := by
 subst hρ; unfold Oper.wp; rw [h]; refine hc.mono ?_; rintro e w' ⟨v, rfl, hS⟩; exact ⟨v, rfl, hS⟩
def AllFlat : List (Value → World → Prop) → Prop
  | [] => True
  | R :: r => (∀ (v : Value) (w w' : World), R v w → R v w') ∧ AllFlat r
theorem relFlat : ∀ (Rs : List (Value → World → Prop)) (_ : AllFlat Rs) (i : Nat) (v : Value) (w w' : World), relAt Rs i v w → relAt Rs i v w'
 | [], _, i, v, w, w', h => by unfold relAt; simp
 | R :: r, h, 0, v, w, w', hr => h.1 v w w' hr
 | R :: r, h, i + 1, v, w, w', hr => relFlat r h.2 i v w w' hr
end Go.Proofs.YtcinjckajnnhmaaGreat
