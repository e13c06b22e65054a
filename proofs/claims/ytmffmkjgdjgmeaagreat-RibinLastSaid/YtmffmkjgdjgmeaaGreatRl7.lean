import Derived.Test.YtmffmkjgdjgmeaaGreatRl6
set_option linter.unusedSimpArgs false
set_option linter.unusedVariables false
namespace Go.Proofs.YtmffmkjgdjgmeaaGreat
open Go.RowKit Go.WideShapes Go.ChangeShapes
attribute [local go_sem] Oper.semAt_some
def Both5 (w2 W : World) (S : Nat → Prop) (b : Nat) (T : TypeId) (cs : Array Value) : Prop := Blk W b T cs ∧ ChgS S w2 W
def EffC (H i : Nat) (vs : List Value) (wa wb : World) : Prop := wb = wa.setCells H i vs
theorem effC_blk {H i g : Nat} {vs : List Value} {wa wb : World} {t : TypeId} {cs : Array Value} (he : EffC H i vs wa wb) (hne : g ≠ H) (h : Blk wa g t cs) : Blk wb g t cs := by
 unfold EffC at he; subst he; exact blk_sets_far hne vs i h
theorem effC_chg {H i : Nat} {S : Nat → Prop} {vs : List Value} {w wa wb : World} (he : EffC H i vs wa wb) (hc : ChgS S w wa) (hs : S H) : ChgS S w wb := by
 unfold EffC at he; subst he; exact chg_trans hc (chg_sets (S := fun k => k = H) rfl vs i) (fun k h => .inl (by rw [h]; exact hs))
theorem below0_sets {H : Nat} : ∀ (vs : List Value) (i : Nat) (w : World), Below 0 w (w.setCells H i vs)
 | [], _, w => Below.refl 0 w
 | v :: vs, i, w => ((Below.refl 0 w).setCell (p := ⟨H, i, none⟩) (Nat.zero_le _) v).trans (below0_sets vs (i + 1) _)
theorem effC_below {H i : Nat} {vs : List Value} {wa wb : World} (he : EffC H i vs wa wb) : Below 0 wa wb := by
 unfold EffC at he; subst he; exact below0_sets vs i wa
theorem trFind_key {α : Type} {a n b p m : Nat} {v : Option α} {l0 r0 : Tr α} : ∀ t : Tr α, trFind a n t = .nd b p m v l0 r0 → p = a ∧ m = n
 | .nil, h => by simp [trFind] at h
 | .nd b1 p1 m1 v1 l r, h => by
   unfold trFind at h; split at h
   ·split at h
    ·rename_i he; injection h with _ e2 e3
     subst e2 e3; exact he
    ·split at h
     ·exact trFind_key l h
     ·exact trFind_key r h
   ·cases h
set_option maxRecDepth 100000 in
set_option maxHeartbeats 4000000 in
theorem stA_box {w : World} {R : Nat} {v0 v1 v2 v3 v4 v5 v6 v7 v8 : Value} (hk : Blk w R 28 zeroA) (h1 : ∀ u ∈ [v0, v1, v2, v3, v4, v5, v6, v7, v8], u.oneCell' = true) : (Instr.storeAt 28 (.pointer (some ⟨R, 0, none⟩)) (.agg #[v0, v1, v2, v3, v4, v5, v6, v7, v8])).run Tryz.prog w = .ok () (w.setCells R 0 [v0, v1, v2, v3, v4, v5, v6, v7, v8]) := by
 have z0 : w.cell? ⟨R, 0, none⟩ = some (.int .i64 0) := hk.cell 0; have z1 : w.cell? ⟨R, 1, none⟩ = some (.int .i64 0) := hk.cell 1; have z2 : w.cell? ⟨R, 2, none⟩ = some (.slice none 0 0) := hk.cell 2; have z3 : w.cell? ⟨R, 3, none⟩ = some (.int .u32 0) := hk.cell 3; have z4 : w.cell? ⟨R, 4, none⟩ = some (.int .u32 0) := hk.cell 4; have z5 : w.cell? ⟨R, 5, none⟩ = some (.int .u32 0) := hk.cell 5; have z6 : w.cell? ⟨R, 6, none⟩ = some (.int .u32 0) := hk.cell 6; have z7 : w.cell? ⟨R, 7, none⟩ = some (.int .u32 0) := hk.cell 7; have z8 : w.cell? ⟨R, 8, none⟩ = some (.slice none 0 0) := hk.cell 8; have zf := fun i => hk.frozen i; have o0 := runS Tryz.prog v0 (h1 v0 (by simp)); have o1 := runS Tryz.prog v1 (h1 v1 (by simp)); have o2 := runS Tryz.prog v2 (h1 v2 (by simp)); have o3 := runS Tryz.prog v3 (h1 v3 (by simp)); have o4 := runS Tryz.prog v4 (h1 v4 (by simp)); have o5 := runS Tryz.prog v5 (h1 v5 (by simp)); have o6 := runS Tryz.prog v6 (h1 v6 (by simp)); have o7 := runS Tryz.prog v7 (h1 v7 (by simp)); have o8 := runS Tryz.prog v8 (h1 v8 (by simp)); simp [go_sem, z0, z1, z2, z3, z4, z5, z6, z7, z8, zf, o0, o1, o2, o3, o4, o5, o6, o7, o8, World.setCells]
set_option maxRecDepth 100000 in
set_option maxHeartbeats 4000000 in
theorem stA_nd {w : World} {b a n cn : Nat} {q : Bool} {x y : Value} {v0 v1 v2 v3 v4 v5 v6 v7 v8 : Value} {vh vo : Int} {vA : Option Addr} {vn vc : Nat} {vp vm vf vs vi : Int} {vB : Option Addr} {vk vd : Nat} (hk : Blk w b 319 (ndC a n [v0, v1, v2, v3, v4, v5, v6, v7, v8] q cn x y)) : (Instr.storeAt 28 (.pointer (some ⟨b, 2, none⟩)) (.agg #[.int .i64 vh, .int .i64 vo, .slice vA vn vc, .int .u32 vp, .int .u32 vm, .int .u32 vf, .int .u32 vs, .int .u32 vi, .slice vB vk vd])).run Tryz.prog w = .ok () (w.setCells b 2 [.int .i64 vh, .int .i64 vo, .slice vA vn vc, .int .u32 vp, .int .u32 vm, .int .u32 vf, .int .u32 vs, .int .u32 vi, .slice vB vk vd]) := by
 have z0 : w.cell? ⟨b, 2, none⟩ = some v0 := hk.cell 2; have z1 : w.cell? ⟨b, 3, none⟩ = some v1 := hk.cell 3; have z2 : w.cell? ⟨b, 4, none⟩ = some v2 := hk.cell 4; have z3 : w.cell? ⟨b, 5, none⟩ = some v3 := hk.cell 5; have z4 : w.cell? ⟨b, 6, none⟩ = some v4 := hk.cell 6; have z5 : w.cell? ⟨b, 7, none⟩ = some v5 := hk.cell 7; have z6 : w.cell? ⟨b, 8, none⟩ = some v6 := hk.cell 8; have z7 : w.cell? ⟨b, 9, none⟩ = some v7 := hk.cell 9; have z8 : w.cell? ⟨b, 10, none⟩ = some v8 := hk.cell 10; have zf := fun i => hk.frozen i; simp [go_sem, z0, z1, z2, z3, z4, z5, z6, z7, z8, zf, World.setCells]
set_option maxRecDepth 100000 in
set_option maxHeartbeats 32000000 in
theorem putnA_any {α : Type} {F : Nat → Prop} {R : World → List Value → α → Prop} (g a n : Nat) (t : Tr α) (x : α) (vh vo : Int) (vA : Option Addr) (vn vc : Nat) (vp vm vf vs vi : Int) (vB : Option Addr) (vk vd : Nat) (w : World) (ha : PG a n) (hg : Blk w g 215 #[trPtr t]) (h : TrA 9 319 F R w t) (hF : ∀ k, F k → k < w.heap.size) (hv : FrS F none (fun w => R w [.int .i64 vh, .int .i64 vo, .slice vA vn vc, .int .u32 vp, .int .u32 vm, .int .u32 vf, .int .u32 vs, .int .u32 vi, .slice vB vk vd] x) w) (hgF : ¬ F g) (hgB : g ∉ trB t) (hcn : trCnt t < 100000000) (hno : trGet a n t = none) :
    Calls Tryz.prog 170 #[.pointer (some ⟨g, 0, none⟩), .agg #[.int .u32 (a : Int), .int .i64 (n : Int)], .agg #[.int .i64 vh, .int .i64 vo, .slice vA vn vc, .int .u32 vp, .int .u32 vm, .int .u32 vf, .int .u32 vs, .int .u32 vi, .slice vB vk vd]] w fun e w' => e = .returned (.tuple #[.agg #[.int .i64 0, .int .i64 0, .slice none 0 0, .int .u32 0, .int .u32 0, .int .u32 0, .int .u32 0, .int .u32 0, .slice none 0 0], .bool false]) ∧ ∃ t2, PutR a n x t t2 ∧ Blk w' g 215 #[trPtr t2] ∧ TrA 9 319 F R w' t2 ∧ (∀ k ∈ trB t2, k ∈ trB t ∨ w.heap.size ≤ k) ∧ ChgS (fun k => k = g ∨ k ∈ trB t) w w' := by
  obtain ⟨w0, hw0⟩ : ∃ w0, ((w.alloc (.cells #[.int .u32 (a : Int), .int .i64 (n : Int)] 24)).alloc (.cells #[.int .i64 vh, .int .i64 vo, .slice vA vn vc, .int .u32 vp, .int .u32 vm, .int .u32 vf, .int .u32 vs, .int .u32 vi, .slice vB vk vd] 28)).alloc (.cells zeroA 28) = w0 := ⟨_, rfl⟩
  have hb0 : Below w.heap.size w w0 := hw0 ▸ blkBelow3q w _ _ _; have HX0 : Hid (Blk w0 w.heap.size 24 #[.int .u32 (a : Int), .int .i64 (n : Int)]) := hide (hw0 ▸ ((Blk.new w _ _).alloc _).alloc _); have HV0 : Hid (Blk w0 (w.heap.size + 1) 28 #[.int .i64 vh, .int .i64 vo, .slice vA vn vc, .int .u32 vp, .int .u32 vm, .int .u32 vf, .int .u32 vs, .int .u32 vi, .slice vB vk vd]) := hide (hw0 ▸ (blk_new' _ _ (by simp)).alloc _); have HZ0 : Hid (Blk w0 (w.heap.size + 1 + 1) 28 zeroA) := hide (hw0 ▸ blk_new' _ _ (by simp)); have HGd := hide (Good_any a (n : Int) ha.1 (by omega) (by have := ha.2.1; omega)); rw [good_pg ha] at HGd; unfold pfx at HGd; have HFd := hide (fun W (hb : Below w.heap.size w W) => findA_any (F := F) (R := R) g a n t W ha (hg.below hb hg.lt) (h.mem.chg (S := fun _ => False) (chg_below hb) (by simp) (by simp)) h.wf); have hgf := trGet_find a n t; have HG := hide hg; have HT := hide h; have HW0 := hide hw0; have HB0 := hide hb0; have HFv := hide hv; have HF := hide hF; have HPa := hide ha; have HgF := hide hgF; have HgB := hide hgB; have HCt := hide hcn; clear hw0 hb0 hg hF hv ha hgF hgB hcn h
  go_enter Tryz.func170, Tryz.ntmps170
  go_wp2_with fail
  rw [HW0.out]; refine (HGd.out _).mono ?_; rintro e w1 ⟨rfl, hb1⟩; have HB1 := hide (btr HB0.out hb1); have HX1 := hide (HX0.out.below hb1 HX0.out.lt); have x0 : w1.cell? ⟨w.heap.size, 0, none⟩ = some (.int .u32 (a : Int)) := HX1.out.cell 0; have x1 : w1.cell? ⟨w.heap.size, 1, none⟩ = some (.int .i64 (n : Int)) := HX1.out.cell 1; have HV1 := hide (HV0.out.below hb1 HV0.out.lt); have HZ1 := hide (HZ0.out.below hb1 HZ0.out.lt); clear hb1
  go_wp2_with fail
  refine (HFd.out _ HB1.out).mono ?_; rintro e w2 ⟨rfl, hb2⟩; have HB2 := hide (btr HB1.out hb2); have HX2 := hide (HX1.out.below hb2 HX1.out.lt); have HV2 := hide (HV1.out.below hb2 HV1.out.lt); have HZ2 := hide (HZ1.out.below hb2 HZ1.out.lt); have HG2 := hide (HG.out.below HB2.out HG.out.lt); have HT2 := hide (HT.out.chg (S := fun _ => False) (chg_below HB2.out) (by simp) (by simp)); have hfw := trFind_w a n t HT2.out.mem; have hfb := trFind_sub a n t; clear hb2 x0 x1; obtain ⟨s, hs⟩ : ∃ s, trFind a n t = s := ⟨_, rfl⟩
  rw [hs] at hfw hfb hgf ⊢; have HRec := hide (fun W (hb : Below w2.heap.size w2 W) => putA_any (F := F) (R := R) x vh vo vA vn vc vp vm vf vs vi vB vk vd a n t W HPa.out (HT2.out.chg (S := fun _ => False) (chg_below hb) (by simp) (by simp)) (fun k hk => Nat.lt_of_lt_of_le (HF.out k hk) (Nat.le_trans HB2.out.size hb.size)) (frs_chg HFv.out (chg_below (S := fun _ => False) (btr HB2.out hb)) (by simp)) HCt.out)
  have hgo : Hid (s = .nil ∨ ∃ b p m l0 r0 v0 v1 v2 v3 v4 v5 v6 v7 v8 cn, s = .nd b p m none l0 r0 ∧ Blk w2 b 319 (ndC p m [v0, v1, v2, v3, v4, v5, v6, v7, v8] false cn (trPtr l0) (trPtr r0))) := hide (by
    rw [hno] at hgf
    cases s with
    | nil => exact .inl rfl
    | nd b p m v l0 r0 =>
      simp only at hgf; subst hgf; obtain ⟨⟨vs, hv, hk, _⟩, _, _⟩ := hfw; obtain ⟨v0, v1, v2, v3, v4, v5, v6, v7, v8, rfl⟩ := lenA hv; exact .inr ⟨b, p, m, l0, r0, v0, v1, v2, v3, v4, v5, v6, v7, v8, _, rfl, hk⟩)
  clear hfw hfb hgf hs hno; rcases hgo.out with rfl | ⟨b, p, m, l0, r0, v0, v1, v2, v3, v4, v5, v6, v7, v8, cn, rfl, hk⟩
  all_goals clear hgo
  · have e0 : trPtr (.nil : Tr α) = .pointer none := rfl; rw [e0]; clear e0
    go_upto_region 7 with fail
    refine wp_region_relH 10 0 (Nat.zero_le _) [(fun v _ => v = .pointer (some ⟨g, 0, none⟩)), (fun v _ => v = .pointer (some ⟨g, 0, none⟩)), (fun v _ => v = .pointer (some ⟨g, 0, none⟩)), (fun v _ => v = .pointer (some ⟨g, 0, none⟩)), (fun v _ => v = trPtr t), (fun v _ => v = .agg #[.int .u32 (a : Int), .int .i64 (n : Int)]), (fun v _ => v = .agg #[.int .i64 vh, .int .i64 vo, .slice vA vn vc, .int .u32 vp, .int .u32 vm, .int .u32 vf, .int .u32 vs, .int .u32 vi, .slice vB vk vd]), (fun v W => ∃ t2, v = trPtr t2 ∧ PutR a n x t t2 ∧ TrA 9 319 F R W t2 ∧ (∀ k ∈ trB t2, k ∈ trB t ∨ w2.heap.size ≤ k) ∧ ChgS (fun k => k ∈ trB t) w2 W), (fun v _ => v = .pointer (some ⟨g, 0, none⟩)), (fun v _ => v = .pointer (some ⟨g, 0, none⟩))] (fun i W => (1 ≤ i ∧ i ≤ 7) → Below w2.heap.size w2 W) (fun i Wa Wb => if i = 7 then Below 0 Wa Wb else Below Wa.heap.size Wa Wb) (by kernel_rfl) (by kernel_rfl) (by kernel_rfl) (by kernel_rfl) (by kernel_rfl) ?hE ?hR ?hP ?h0 ⟨?_, ?_, ?_, ?_, ?_, ?_, ?_, ?_, ?_, ?_, trivial⟩ ?_
    case hE =>
      intro i2 wa wb hB he; split at he
      · exact he
      · exact he.mono (Nat.zero_le _)
    case hR =>
      intro i2 j2 v2 wa wb hij hB he h; split at he
      · rename_i hj2; subst hj2; refine keepAll_at (E := fun wa wb => Below 0 wa wb) (x := 7) (k := 0) ?_ (by omega) he h; exact ⟨fun _ v wa wb he h => h, fun _ v wa wb he h => h, fun _ v wa wb he h => h, fun _ v wa wb he h => h, fun _ v wa wb he h => h, fun _ v wa wb he h => h, fun _ v wa wb he h => h, fun hn => absurd rfl hn, fun _ v wa wb he h => h, fun _ v wa wb he h => h, trivial⟩
      · refine relMono _ ?_ i2 v2 wa wb he h; exact ⟨fun _ _ _ _ h => h, fun _ _ _ _ h => h, fun _ _ _ _ h => h, fun _ _ _ _ h => h, fun _ _ _ _ h => h, fun _ _ _ _ h => h, fun _ _ _ _ h => h, fun v wa wb hb ⟨t2, e, h1, h2, h3, h4⟩ => ⟨t2, e, h1, h2.chg (S := fun _ => False) (chg_below hb) (by simp) (by simp), h3, chg_trans h4 (chg_below (S := fun _ => False) hb) (fun k h => h.elim)⟩, fun _ _ _ _ h => h, fun _ _ _ _ h => h, trivial⟩
    case hP =>
      intro i2 j2 wa wb hij hnb hB he h hi; split at he
      · rename_i hj2; subst hj2; have hi3 : i2 = 1 ∨ i2 = 2 ∨ i2 = 3 ∨ i2 = 4 ∨ i2 = 5 ∨ i2 = 6 ∨ i2 = 7 := (by omega)
        rcases hi3 with rfl | rfl | rfl | rfl | rfl | rfl | rfl
        all_goals first | exact absurd rfl hij | exact absurd hnb (by decide +kernel)
      · exact (h hi).trans (he.mono (h hi).size)
    case h0 =>
      intro j2 hj2 _; exact (Below.refl _ _).drew
    · exact relG_plain rfl rfl (fun _ _ h => h) fun Ac w5 hp => pureM (ptv g 0) 0 (hp.out 0 (by rfl))
    · exact relG_plain rfl rfl (fun _ _ h => h) fun Ac w5 hp => pureM (ptv g 0) 0 (hp.out 0 (by rfl))
    · exact relG_plain rfl rfl (fun _ _ h => h) fun Ac w5 hp => pureM (ptv g 0) 38 (hp.d 1)
    · exact relG_plain rfl rfl (fun _ _ h => h) fun Ac w5 hp => pureM (ptv g 0) 39 (hp.d 2)
    · refine relG_plain rfl rfl (fun _ _ h => h) ?_; intro Ac w5 hp; have hb := hp.bel; have hb := hp.pre ⟨by decide, by decide⟩; have hg5 := HG2.out.below hb HG2.out.lt; have z0 : w5.cell? ⟨g, 0, none⟩ = some (trPtr t) := hg5.cell 0; exact pure1 (trPtr t) 40 (ptv g 0) (hp.d 3)
    · refine relG_plain rfl rfl (fun _ _ h => h) ?_; intro Ac w5 hp; have hb := hp.bel; have hb := hp.pre ⟨by decide, by decide⟩; have hx5 := HX2.out.below hb HX2.out.lt; have x0 : w5.cell? ⟨w.heap.size, 0, none⟩ = some (.int .u32 (a : Int)) := hx5.cell 0; have x1 : w5.cell? ⟨w.heap.size, 1, none⟩ = some (.int .i64 (n : Int)) := hx5.cell 1; exact pure1 (.agg #[.int .u32 (a : Int), .int .i64 (n : Int)]) 4 (ptv w.heap.size 0) (hp.out 4 (by rfl))
    · refine relG_plain rfl rfl (fun _ _ h => h) ?_; intro Ac w5 hp; have hb := hp.bel; have hb := hp.pre ⟨by decide, by decide⟩; have hv5 := HV2.out.below hb HV2.out.lt; have u0 : w5.cell? ⟨w.heap.size + 1, 0, none⟩ = some (.int .i64 vh) := hv5.cell 0; have u1 : w5.cell? ⟨w.heap.size + 1, 1, none⟩ = some (.int .i64 vo) := hv5.cell 1; have u2 : w5.cell? ⟨w.heap.size + 1, 2, none⟩ = some (.slice vA vn vc) := hv5.cell 2; have u3 : w5.cell? ⟨w.heap.size + 1, 3, none⟩ = some (.int .u32 vp) := hv5.cell 3; have u4 : w5.cell? ⟨w.heap.size + 1, 4, none⟩ = some (.int .u32 vm) := hv5.cell 4; have u5 : w5.cell? ⟨w.heap.size + 1, 5, none⟩ = some (.int .u32 vf) := hv5.cell 5; have u6 : w5.cell? ⟨w.heap.size + 1, 6, none⟩ = some (.int .u32 vs) := hv5.cell 6; have u7 : w5.cell? ⟨w.heap.size + 1, 7, none⟩ = some (.int .u32 vi) := hv5.cell 7; have u8 : w5.cell? ⟨w.heap.size + 1, 8, none⟩ = some (.slice vB vk vd) := hv5.cell 8; exact pure1 (.agg #[.int .i64 vh, .int .i64 vo, .slice vA vn vc, .int .u32 vp, .int .u32 vm, .int .u32 vf, .int .u32 vs, .int .u32 vi, .slice vB vk vd]) 5 (ptv (w.heap.size + 1) 0) (hp.out 5 (by rfl))
    · refine relG_enter rfl rfl ?_; intro Ac w5 hp; have hb := hp.bel; have a41 : Ac.eval (.tmp 41) = trPtr t := hp.d 4; have a42 : Ac.eval (.tmp 42) = .agg #[.int .u32 (a : Int), .int .i64 (n : Int)] := hp.d 5; have a43 : Ac.eval (.tmp 43) = .agg #[.int .i64 vh, .int .i64 vo, .slice vA vn vc, .int .u32 vp, .int .u32 vm, .int .u32 vf, .int .u32 vs, .int .u32 vi, .slice vB vk vd] := hp.d 6; obtain ⟨ρ, hρ, hc, hf, hgl⟩ := evalX Ac; rw [hρ] at a41 a42 a43; refine ⟨279, #[trPtr t, .agg #[.int .u32 (a : Int), .int .i64 (n : Int)], .agg #[.int .i64 vh, .int .i64 vo, .slice vA vn vc, .int .u32 vp, .int .u32 vm, .int .u32 vf, .int .u32 vs, .int .u32 vi, .slice vB vk vd]], by rw [hρ]; simp [go_sem, hc, hf, hgl, ↓IntWalk.iteOmega, a41, a42, a43, *], ?_⟩; have hb := hp.pre ⟨by decide, by decide⟩; refine (HRec.out w5 hb).mono ?_; rintro e w6 ⟨t2, rfl, h1, h2, h3, h4⟩; refine ⟨_, rfl, ⟨t2, rfl, h1, h2, fun k hk => (h3 k hk).imp id (Nat.le_trans hb.size), chg_trans (chg_below hb) h4 (fun k h => .inl h)⟩, by show Below 0 w5 w6; exact ⟨h4.os, h4.tape, h4.output, h4.size, fun k hk => absurd hk (Nat.not_lt_zero k)⟩⟩
    · exact relG_plain rfl rfl (fun _ _ h => h) fun Ac w5 hp => pureM (ptv g 0) 37 (hp.d 0)
    · exact relG_plain rfl rfl (fun _ _ h => h) fun Ac w5 hp => pureM (ptv g 0) 45 (hp.d 8)
    intro u w9 hb7 hall; obtain ⟨t44, e44, h44a, h44b, h44c, h44d⟩ := relAll_at hall (i := 7) (by decide +kernel); change u 7 = _ at e44; have e46 : u 9 = .pointer (some ⟨g, 0, none⟩) := relAll_at hall (i := 9) (by decide +kernel); clear hall; simp only [List.drop_succ_cons, List.drop_zero, List.take_succ_cons, List.take_zero, putAll, Act.put, List.setIfInBounds_toArray, List.set_cons_zero, List.set_cons_succ, Nat.zero_add, Nat.reduceAdd, e44, e46]; have hcb : w.heap.size + 1 + 1 < w2.heap.size := HZ2.out.lt; have hgl := HG.out.lt; have htl := HT.out.mem.lt; have HG9 := hide (chg_blk h44d HG2.out HgB.out); have HZ9 := hide (chg_blk h44d HZ2.out (fun h => by have := htl _ h; omega)); have hg44 : g ∉ trB t44 := fun h => (h44c g h).elim HgB.out (fun h => by omega); have hc44 : w.heap.size + 1 + 1 ∉ trB t44 := fun h => (h44c _ h).elim (fun h => by have := htl _ h; omega) (fun h => by omega); obtain ⟨q44, hq44⟩ := trPtr_ptr t44; rw [hq44]; have zg : w9.cell? ⟨g, 0, none⟩ = some (trPtr t) := HG9.out.cell 0; have zgf := HG9.out.frozen 0; obtain ⟨w10, hw10⟩ : ∃ W, w9.setCell ⟨g, 0, none⟩ (.pointer q44) = W := ⟨_, rfl⟩
    have HZ10 : Hid (Blk w10 (w.heap.size + 1 + 1) 28 zeroA) := hide (hw10 ▸ HZ9.out.far (p := ⟨g, 0, none⟩) (by show w.heap.size + 1 + 1 ≠ g; omega) _); have HG10 : Hid (Blk w10 g 215 #[trPtr t44]) := hide (by rw [hq44]; exact hw10 ▸ HG9.out.set_ 0 _); have HC10 : Hid (ChgS (fun k => k = g) w9 w10) := hide (hw10 ▸ chg_set (S := fun k => k = g) (p := ⟨g, 0, none⟩) rfl _); have HT10 := hide (h44b.chg HC10.out (fun k hk e => hg44 (e ▸ hk)) (fun k hF e => HgF.out (e ▸ hF))); have HCw : Hid (ChgS (fun k => k = g ∨ k ∈ trB t) w w10) := hide (chg_trans (chg_trans (chg_below (S := fun k => k = g ∨ k ∈ trB t) HB2.out) h44d (fun k h => .inl (.inr h))) HC10.out (fun k h => .inl (.inl h))); have HPu := hide h44a; have HSu := hide (fun k hk => (h44c k hk).imp id (Nat.le_trans HB2.out.size)); have Hc44 := hide hc44; have HWd := hide hw10; clear hw10 hq44 h44a h44b h44c h44d hb7 hg44 hc44 htl
    go_upto_region 8 with fail
    rw [HWd.out]; clear zg zgf; obtain ⟨z0, z1, z2, z3, z4, z5, z6, z7, z8⟩ := blk9 HZ10.out; have zf := fun i => HZ10.out.frozen i; go_wp2; change bodyPost _ _ _ _ _ (w10.setCells (w.heap.size + 1 + 1) 0 zeroL); obtain ⟨wF, hwF⟩ : ∃ x, w10.setCells (w.heap.size + 1 + 1) 0 zeroL = x := ⟨_, rfl⟩
    have HFk := hide (hwF ▸ blk_sets zeroL [] zeroL HZ10.out rfl : Blk wF (w.heap.size + 1 + 1) 28 zeroA); have HFg := hide (hwF ▸ blk_sets_far (by omega) [.int .i64 0, .int .i64 0, .slice none 0 0, .int .u32 0, .int .u32 0, .int .u32 0, .int .u32 0, .int .u32 0, .slice none 0 0] 0 HG10.out : Blk wF g 215 _); have HFc : Hid (ChgS (fun k => k = w.heap.size + 1 + 1) w10 wF) := hide (hwF ▸ chg_sets (S := fun k => k = w.heap.size + 1 + 1) rfl [.int .i64 0, .int .i64 0, .slice none 0 0, .int .u32 0, .int .u32 0, .int .u32 0, .int .u32 0, .int .u32 0, .slice none 0 0] 0); rw [hwF]; clear hwF z0 z1 z2 z3 z4 z5 z6 z7 z8 zf; obtain ⟨z0, z1, z2, z3, z4, z5, z6, z7, z8⟩ := blk9 HFk.out; refine bodyPost_ret (v := .tuple #[.agg #[.int .i64 0, .int .i64 0, .slice none 0 0, .int .u32 0, .int .u32 0, .int .u32 0, .int .u32 0, .int .u32 0, .slice none 0 0], .bool false]) (by simp [results, Tryz.results170, go_sem, z0, z1, z2, z3, z4, z5, z6, z7, z8]) rfl ⟨rfl, t44, HPu.out, HFg.out, HT10.out.chg HFc.out (fun k hk e => Hc44.out (e ▸ hk)) (fun k hF e => by have := HF.out k hF; omega), HSu.out, chg_trans HCw.out HFc.out (fun k h => .inr (by omega))⟩
  · have e0 : trPtr (.nd b p m none l0 r0 : Tr α) = .pointer (some ⟨b, 0, none⟩) := rfl; rw [e0]; have yp : w2.cell? ⟨b, 11, none⟩ = some (.bool false) := hk.cell 11; clear e0 hk
    go_upto_region 7 with fail
    refine wp_region_relH 10 0 (Nat.zero_le _) [(fun v _ => v = .pointer (some ⟨g, 0, none⟩)), (fun v _ => v = .pointer (some ⟨g, 0, none⟩)), (fun v _ => v = .pointer (some ⟨g, 0, none⟩)), (fun v _ => v = .pointer (some ⟨g, 0, none⟩)), (fun v _ => v = trPtr t), (fun v _ => v = .agg #[.int .u32 (a : Int), .int .i64 (n : Int)]), (fun v _ => v = .agg #[.int .i64 vh, .int .i64 vo, .slice vA vn vc, .int .u32 vp, .int .u32 vm, .int .u32 vf, .int .u32 vs, .int .u32 vi, .slice vB vk vd]), (fun v W => ∃ t2, v = trPtr t2 ∧ PutR a n x t t2 ∧ TrA 9 319 F R W t2 ∧ (∀ k ∈ trB t2, k ∈ trB t ∨ w2.heap.size ≤ k) ∧ ChgS (fun k => k ∈ trB t) w2 W), (fun v _ => v = .pointer (some ⟨g, 0, none⟩)), (fun v _ => v = .pointer (some ⟨g, 0, none⟩))] (fun i W => (1 ≤ i ∧ i ≤ 7) → Below w2.heap.size w2 W) (fun i Wa Wb => if i = 7 then Below 0 Wa Wb else Below Wa.heap.size Wa Wb) (by kernel_rfl) (by kernel_rfl) (by kernel_rfl) (by kernel_rfl) (by kernel_rfl) ?hE ?hR ?hP ?h0 ⟨?_, ?_, ?_, ?_, ?_, ?_, ?_, ?_, ?_, ?_, trivial⟩ ?_
    case hE =>
      intro i2 wa wb hB he; split at he
      · exact he
      · exact he.mono (Nat.zero_le _)
    case hR =>
      intro i2 j2 v2 wa wb hij hB he h; split at he
      · rename_i hj2; subst hj2; refine keepAll_at (E := fun wa wb => Below 0 wa wb) (x := 7) (k := 0) ?_ (by omega) he h; exact ⟨fun _ v wa wb he h => h, fun _ v wa wb he h => h, fun _ v wa wb he h => h, fun _ v wa wb he h => h, fun _ v wa wb he h => h, fun _ v wa wb he h => h, fun _ v wa wb he h => h, fun hn => absurd rfl hn, fun _ v wa wb he h => h, fun _ v wa wb he h => h, trivial⟩
      · refine relMono _ ?_ i2 v2 wa wb he h; exact ⟨fun _ _ _ _ h => h, fun _ _ _ _ h => h, fun _ _ _ _ h => h, fun _ _ _ _ h => h, fun _ _ _ _ h => h, fun _ _ _ _ h => h, fun _ _ _ _ h => h, fun v wa wb hb ⟨t2, e, h1, h2, h3, h4⟩ => ⟨t2, e, h1, h2.chg (S := fun _ => False) (chg_below hb) (by simp) (by simp), h3, chg_trans h4 (chg_below (S := fun _ => False) hb) (fun k h => h.elim)⟩, fun _ _ _ _ h => h, fun _ _ _ _ h => h, trivial⟩
    case hP =>
      intro i2 j2 wa wb hij hnb hB he h hi; split at he
      · rename_i hj2; subst hj2; have hi3 : i2 = 1 ∨ i2 = 2 ∨ i2 = 3 ∨ i2 = 4 ∨ i2 = 5 ∨ i2 = 6 ∨ i2 = 7 := (by omega)
        rcases hi3 with rfl | rfl | rfl | rfl | rfl | rfl | rfl
        all_goals first | exact absurd rfl hij | exact absurd hnb (by decide +kernel)
      · exact (h hi).trans (he.mono (h hi).size)
    case h0 =>
      intro j2 hj2 _; exact (Below.refl _ _).drew
    · exact relG_plain rfl rfl (fun _ _ h => h) fun Ac w5 hp => pureM (ptv g 0) 0 (hp.out 0 (by rfl))
    · exact relG_plain rfl rfl (fun _ _ h => h) fun Ac w5 hp => pureM (ptv g 0) 0 (hp.out 0 (by rfl))
    · exact relG_plain rfl rfl (fun _ _ h => h) fun Ac w5 hp => pureM (ptv g 0) 38 (hp.d 1)
    · exact relG_plain rfl rfl (fun _ _ h => h) fun Ac w5 hp => pureM (ptv g 0) 39 (hp.d 2)
    · refine relG_plain rfl rfl (fun _ _ h => h) ?_; intro Ac w5 hp; have hb := hp.bel; have hb := hp.pre ⟨by decide, by decide⟩; have hg5 := HG2.out.below hb HG2.out.lt; have z0 : w5.cell? ⟨g, 0, none⟩ = some (trPtr t) := hg5.cell 0; exact pure1 (trPtr t) 40 (ptv g 0) (hp.d 3)
    · refine relG_plain rfl rfl (fun _ _ h => h) ?_; intro Ac w5 hp; have hb := hp.bel; have hb := hp.pre ⟨by decide, by decide⟩; have hx5 := HX2.out.below hb HX2.out.lt; have x0 : w5.cell? ⟨w.heap.size, 0, none⟩ = some (.int .u32 (a : Int)) := hx5.cell 0; have x1 : w5.cell? ⟨w.heap.size, 1, none⟩ = some (.int .i64 (n : Int)) := hx5.cell 1; exact pure1 (.agg #[.int .u32 (a : Int), .int .i64 (n : Int)]) 4 (ptv w.heap.size 0) (hp.out 4 (by rfl))
    · refine relG_plain rfl rfl (fun _ _ h => h) ?_; intro Ac w5 hp; have hb := hp.bel; have hb := hp.pre ⟨by decide, by decide⟩; have hv5 := HV2.out.below hb HV2.out.lt; have u0 : w5.cell? ⟨w.heap.size + 1, 0, none⟩ = some (.int .i64 vh) := hv5.cell 0; have u1 : w5.cell? ⟨w.heap.size + 1, 1, none⟩ = some (.int .i64 vo) := hv5.cell 1; have u2 : w5.cell? ⟨w.heap.size + 1, 2, none⟩ = some (.slice vA vn vc) := hv5.cell 2; have u3 : w5.cell? ⟨w.heap.size + 1, 3, none⟩ = some (.int .u32 vp) := hv5.cell 3; have u4 : w5.cell? ⟨w.heap.size + 1, 4, none⟩ = some (.int .u32 vm) := hv5.cell 4; have u5 : w5.cell? ⟨w.heap.size + 1, 5, none⟩ = some (.int .u32 vf) := hv5.cell 5; have u6 : w5.cell? ⟨w.heap.size + 1, 6, none⟩ = some (.int .u32 vs) := hv5.cell 6; have u7 : w5.cell? ⟨w.heap.size + 1, 7, none⟩ = some (.int .u32 vi) := hv5.cell 7; have u8 : w5.cell? ⟨w.heap.size + 1, 8, none⟩ = some (.slice vB vk vd) := hv5.cell 8; exact pure1 (.agg #[.int .i64 vh, .int .i64 vo, .slice vA vn vc, .int .u32 vp, .int .u32 vm, .int .u32 vf, .int .u32 vs, .int .u32 vi, .slice vB vk vd]) 5 (ptv (w.heap.size + 1) 0) (hp.out 5 (by rfl))
    · refine relG_enter rfl rfl ?_; intro Ac w5 hp; have hb := hp.bel; have a41 : Ac.eval (.tmp 41) = trPtr t := hp.d 4; have a42 : Ac.eval (.tmp 42) = .agg #[.int .u32 (a : Int), .int .i64 (n : Int)] := hp.d 5; have a43 : Ac.eval (.tmp 43) = .agg #[.int .i64 vh, .int .i64 vo, .slice vA vn vc, .int .u32 vp, .int .u32 vm, .int .u32 vf, .int .u32 vs, .int .u32 vi, .slice vB vk vd] := hp.d 6; obtain ⟨ρ, hρ, hc, hf, hgl⟩ := evalX Ac; rw [hρ] at a41 a42 a43; refine ⟨279, #[trPtr t, .agg #[.int .u32 (a : Int), .int .i64 (n : Int)], .agg #[.int .i64 vh, .int .i64 vo, .slice vA vn vc, .int .u32 vp, .int .u32 vm, .int .u32 vf, .int .u32 vs, .int .u32 vi, .slice vB vk vd]], by rw [hρ]; simp [go_sem, hc, hf, hgl, ↓IntWalk.iteOmega, a41, a42, a43, *], ?_⟩; have hb := hp.pre ⟨by decide, by decide⟩; refine (HRec.out w5 hb).mono ?_; rintro e w6 ⟨t2, rfl, h1, h2, h3, h4⟩; refine ⟨_, rfl, ⟨t2, rfl, h1, h2, fun k hk => (h3 k hk).imp id (Nat.le_trans hb.size), chg_trans (chg_below hb) h4 (fun k h => .inl h)⟩, by show Below 0 w5 w6; exact ⟨h4.os, h4.tape, h4.output, h4.size, fun k hk => absurd hk (Nat.not_lt_zero k)⟩⟩
    · exact relG_plain rfl rfl (fun _ _ h => h) fun Ac w5 hp => pureM (ptv g 0) 37 (hp.d 0)
    · exact relG_plain rfl rfl (fun _ _ h => h) fun Ac w5 hp => pureM (ptv g 0) 45 (hp.d 8)
    intro u w9 hb7 hall; obtain ⟨t44, e44, h44a, h44b, h44c, h44d⟩ := relAll_at hall (i := 7) (by decide +kernel); change u 7 = _ at e44; have e46 : u 9 = .pointer (some ⟨g, 0, none⟩) := relAll_at hall (i := 9) (by decide +kernel); clear hall; simp only [List.drop_succ_cons, List.drop_zero, List.take_succ_cons, List.take_zero, putAll, Act.put, List.setIfInBounds_toArray, List.set_cons_zero, List.set_cons_succ, Nat.zero_add, Nat.reduceAdd, e44, e46]; clear yp; have hcb : w.heap.size + 1 + 1 < w2.heap.size := HZ2.out.lt; have hgl := HG.out.lt; have htl := HT.out.mem.lt; have HG9 := hide (chg_blk h44d HG2.out HgB.out); have HZ9 := hide (chg_blk h44d HZ2.out (fun h => by have := htl _ h; omega)); have hg44 : g ∉ trB t44 := fun h => (h44c g h).elim HgB.out (fun h => by omega); have hc44 : w.heap.size + 1 + 1 ∉ trB t44 := fun h => (h44c _ h).elim (fun h => by have := htl _ h; omega) (fun h => by omega); obtain ⟨q44, hq44⟩ := trPtr_ptr t44; rw [hq44]; have zg : w9.cell? ⟨g, 0, none⟩ = some (trPtr t) := HG9.out.cell 0; have zgf := HG9.out.frozen 0; obtain ⟨w10, hw10⟩ : ∃ W, w9.setCell ⟨g, 0, none⟩ (.pointer q44) = W := ⟨_, rfl⟩
    have HZ10 : Hid (Blk w10 (w.heap.size + 1 + 1) 28 zeroA) := hide (hw10 ▸ HZ9.out.far (p := ⟨g, 0, none⟩) (by show w.heap.size + 1 + 1 ≠ g; omega) _); have HG10 : Hid (Blk w10 g 215 #[trPtr t44]) := hide (by rw [hq44]; exact hw10 ▸ HG9.out.set_ 0 _); have HC10 : Hid (ChgS (fun k => k = g) w9 w10) := hide (hw10 ▸ chg_set (S := fun k => k = g) (p := ⟨g, 0, none⟩) rfl _); have HT10 := hide (h44b.chg HC10.out (fun k hk e => hg44 (e ▸ hk)) (fun k hF e => HgF.out (e ▸ hF))); have HCw : Hid (ChgS (fun k => k = g ∨ k ∈ trB t) w w10) := hide (chg_trans (chg_trans (chg_below (S := fun k => k = g ∨ k ∈ trB t) HB2.out) h44d (fun k h => .inl (.inr h))) HC10.out (fun k h => .inl (.inl h))); have HPu := hide h44a; have HSu := hide (fun k hk => (h44c k hk).imp id (Nat.le_trans HB2.out.size)); have Hc44 := hide hc44; have HWd := hide hw10; clear hw10 hq44 h44a h44b h44c h44d hb7 hg44 hc44 htl
    go_upto_region 8 with fail
    rw [HWd.out]; clear zg zgf; obtain ⟨z0, z1, z2, z3, z4, z5, z6, z7, z8⟩ := blk9 HZ10.out; have zf := fun i => HZ10.out.frozen i; go_wp2; change bodyPost _ _ _ _ _ (w10.setCells (w.heap.size + 1 + 1) 0 zeroL); obtain ⟨wF, hwF⟩ : ∃ x, w10.setCells (w.heap.size + 1 + 1) 0 zeroL = x := ⟨_, rfl⟩
    have HFk := hide (hwF ▸ blk_sets zeroL [] zeroL HZ10.out rfl : Blk wF (w.heap.size + 1 + 1) 28 zeroA); have HFg := hide (hwF ▸ blk_sets_far (by omega) [.int .i64 0, .int .i64 0, .slice none 0 0, .int .u32 0, .int .u32 0, .int .u32 0, .int .u32 0, .int .u32 0, .slice none 0 0] 0 HG10.out : Blk wF g 215 _); have HFc : Hid (ChgS (fun k => k = w.heap.size + 1 + 1) w10 wF) := hide (hwF ▸ chg_sets (S := fun k => k = w.heap.size + 1 + 1) rfl [.int .i64 0, .int .i64 0, .slice none 0 0, .int .u32 0, .int .u32 0, .int .u32 0, .int .u32 0, .int .u32 0, .slice none 0 0] 0); rw [hwF]; clear hwF z0 z1 z2 z3 z4 z5 z6 z7 z8 zf; obtain ⟨z0, z1, z2, z3, z4, z5, z6, z7, z8⟩ := blk9 HFk.out; refine bodyPost_ret (v := .tuple #[.agg #[.int .i64 0, .int .i64 0, .slice none 0 0, .int .u32 0, .int .u32 0, .int .u32 0, .int .u32 0, .int .u32 0, .slice none 0 0], .bool false]) (by simp [results, Tryz.results170, go_sem, z0, z1, z2, z3, z4, z5, z6, z7, z8]) rfl ⟨rfl, t44, HPu.out, HFg.out, HT10.out.chg HFc.out (fun k hk e => Hc44.out (e ▸ hk)) (fun k hF e => by have := HF.out k hF; omega), HSu.out, chg_trans HCw.out HFc.out (fun k h => .inr (by omega))⟩
set_option maxRecDepth 100000 in
set_option maxHeartbeats 32000000 in
theorem putfA_any {α : Type} {F : Nat → Prop} {R : World → List Value → α → Prop} (g a n : Nat) (t : Tr α) (x y : α) (vh vo : Int) (vA : Option Addr) (vn vc : Nat) (vp vm vf vs vi : Int) (vB : Option Addr) (vk vd : Nat) (w : World) (ha : PG a n) (hg : Blk w g 215 #[trPtr t]) (h : TrA 9 319 F R w t) (hF : ∀ k, F k → k < w.heap.size) (hv : FrS F none (fun w => R w [.int .i64 vh, .int .i64 vo, .slice vA vn vc, .int .u32 vp, .int .u32 vm, .int .u32 vf, .int .u32 vs, .int .u32 vi, .slice vB vk vd] x) w) (hgF : ¬ F g) (hgB : g ∉ trB t) (hcn : trCnt t < 100000000) (hyes : trGet a n t = some y) :
  Calls Tryz.prog 170 #[.pointer (some ⟨g, 0, none⟩), .agg #[.int .u32 (a : Int), .int .i64 (n : Int)], .agg #[.int .i64 vh, .int .i64 vo, .slice vA vn vc, .int .u32 vp, .int .u32 vm, .int .u32 vf, .int .u32 vs, .int .u32 vi, .slice vB vk vd]] w fun e w' => ∃ v0 v1 v2 v3 v4 v5 v6 v7 v8, e = .returned (.tuple #[.agg #[v0, v1, v2, v3, v4, v5, v6, v7, v8], .bool true]) ∧ FrS F none (fun w => R w [v0, v1, v2, v3, v4, v5, v6, v7, v8] y) w' ∧ PutR a n x t (trUpd a n x t) ∧ Blk w' g 215 #[trPtr (trUpd a n x t)] ∧ TrA 9 319 F R w' (trUpd a n x t) ∧ ChgS (fun k => k ∈ trB t) w w' := by
 obtain ⟨w0, hw0⟩ : ∃ w0, ((w.alloc (.cells #[.int .u32 (a : Int), .int .i64 (n : Int)] 24)).alloc (.cells #[.int .i64 vh, .int .i64 vo, .slice vA vn vc, .int .u32 vp, .int .u32 vm, .int .u32 vf, .int .u32 vs, .int .u32 vi, .slice vB vk vd] 28)).alloc (.cells zeroA 28) = w0 := ⟨_, rfl⟩
 have hb0 : Below w.heap.size w w0 := hw0 ▸ blkBelow3q w _ _ _; have HX0 : Hid (Blk w0 w.heap.size 24 #[.int .u32 (a : Int), .int .i64 (n : Int)]) := hide (hw0 ▸ ((Blk.new w _ _).alloc _).alloc _); have HV0 : Hid (Blk w0 (w.heap.size + 1) 28 #[.int .i64 vh, .int .i64 vo, .slice vA vn vc, .int .u32 vp, .int .u32 vm, .int .u32 vf, .int .u32 vs, .int .u32 vi, .slice vB vk vd]) := hide (hw0 ▸ (blk_new' _ _ (by simp)).alloc _); have HZ0 : Hid (Blk w0 (w.heap.size + 1 + 1) 28 zeroA) := hide (hw0 ▸ blk_new' _ _ (by simp)); have HGd := hide (Good_any a (n : Int) ha.1 (by omega) (by have := ha.2.1; omega)); rw [good_pg ha] at HGd; unfold pfx at HGd; have HFd := hide (fun W (hb : Below w.heap.size w W) => findA_any (F := F) (R := R) g a n t W ha (hg.below hb hg.lt) (h.mem.chg (S := fun _ => False) (chg_below hb) (by simp) (by simp)) h.wf); have hgf := trGet_find a n t; have HG := hide hg; have HT := hide h; have HW0 := hide hw0; have HB0 := hide hb0; have HFv := hide hv; have HF := hide hF; have HPa := hide ha; have HgF := hide hgF; have HgB := hide hgB; have HCt := hide hcn; clear hw0 hb0 hg hF hv ha hgF hgB hcn h
 go_enter Tryz.func170, Tryz.ntmps170
 go_wp2_with fail
 rw [HW0.out]; refine (HGd.out _).mono ?_; rintro e w1 ⟨rfl, hb1⟩; have HB1 := hide (btr HB0.out hb1); have HX1 := hide (HX0.out.below hb1 HX0.out.lt); have x0 : w1.cell? ⟨w.heap.size, 0, none⟩ = some (.int .u32 (a : Int)) := HX1.out.cell 0; have x1 : w1.cell? ⟨w.heap.size, 1, none⟩ = some (.int .i64 (n : Int)) := HX1.out.cell 1; have HV1 := hide (HV0.out.below hb1 HV0.out.lt); have HZ1 := hide (HZ0.out.below hb1 HZ0.out.lt); clear hb1
 go_wp2_with fail
 refine (HFd.out _ HB1.out).mono ?_; rintro e w2 ⟨rfl, hb2⟩; have HB2 := hide (btr HB1.out hb2); have HX2 := hide (HX1.out.below hb2 HX1.out.lt); have HV2 := hide (HV1.out.below hb2 HV1.out.lt); have HZ2 := hide (HZ1.out.below hb2 HZ1.out.lt); have HG2 := hide (HG.out.below HB2.out HG.out.lt); have HT2 := hide (HT.out.chg (S := fun _ => False) (chg_below HB2.out) (by simp) (by simp)); have hfw := trFind_w a n t HT2.out.mem; have hfb := trFind_sub a n t; clear hb2 x0 x1; obtain ⟨s, hs⟩ : ∃ s, trFind a n t = s := ⟨_, rfl⟩
 have HS := hide hs; rw [hs] at hfw hfb hgf ⊢; rw [hyes] at hgf
 cases s with
 | nil => exact absurd hgf (by simp)
 | nd b p m v l0 r0 =>
 simp only at hgf; subst hgf; obtain ⟨rfl, rfl⟩ := trFind_key t HS.out; obtain ⟨⟨vs, hvo, hk, hval⟩, _, _⟩ := hfw; obtain ⟨v0, v1, v2, v3, v4, v5, v6, v7, v8, rfl⟩ := lenA hvo; have HOne := hide hvo.2; have HVy := hide (hval y rfl); have hbt : b ∈ trB t := hfb b (by simp [trB]); have hbl := HT.out.mem.lt b hbt; have HNe : Hid (b ≠ w.heap.size + 1 + 1) := hide (by omega); have HNv : Hid (w.heap.size + 1 ≠ b) := hide (by omega); have HNv1 : Hid (w.heap.size + 1 ≠ w.heap.size + 1 + 1) := hide (by omega); have HPut := hide (trUpd_put (x := x) HPa.out t HT.out.wf hyes); obtain ⟨cn, hcn⟩ : ∃ c, trCnt l0 + trCnt r0 + 1 = c := ⟨_, rfl⟩
 have HN2 : Hid (Blk w2 b 319 (ndC p m [v0, v1, v2, v3, v4, v5, v6, v7, v8] true cn (trPtr l0) (trPtr r0))) := hide (hcn ▸ hk); have HCn := hide hcn; have e0 : trPtr (.nd b p m (some y) l0 r0 : Tr α) = .pointer (some ⟨b, 0, none⟩) := rfl; rw [e0]; have yp : w2.cell? ⟨b, 11, none⟩ = some (.bool true) := HN2.out.cell 11; have Hbt := hide hbt; clear e0 hk hfb hs hyes hvo hval hcn hbt hbl
 go_upto_region 5 with fail
 clear yp; refine wp_region_relH 10 0 (Nat.zero_le _) [(fun v _ => v = .pointer (some ⟨b, 0, none⟩)), (fun v _ => v = .pointer (some ⟨b, 0, none⟩)), (fun v _ => v = .pointer (some ⟨b, 0, none⟩)), (fun v _ => v = .pointer (some ⟨b, 2, none⟩)), (fun v _ => v = .agg #[v0, v1, v2, v3, v4, v5, v6, v7, v8]), (fun v _ => v = .agg #[.int .i64 vh, .int .i64 vo, .slice vA vn vc, .int .u32 vp, .int .u32 vm, .int .u32 vf, .int .u32 vs, .int .u32 vi, .slice vB vk vd]), (fun _ W => Blk W (w.heap.size + 1 + 1) 28 #[v0, v1, v2, v3, v4, v5, v6, v7, v8]), (fun v _ => v = .pointer (some ⟨b, 0, none⟩)), (fun v _ => v = .pointer (some ⟨b, 2, none⟩)), (fun _ W => Both5 w2 W (fun k => k = b ∨ k = w.heap.size + 1 + 1) b 319 (ndC p m [.int .i64 vh, .int .i64 vo, .slice vA vn vc, .int .u32 vp, .int .u32 vm, .int .u32 vf, .int .u32 vs, .int .u32 vi, .slice vB vk vd] true cn (trPtr l0) (trPtr r0)))] (fun i W => Blk W (w.heap.size + 1) 28 #[.int .i64 vh, .int .i64 vo, .slice vA vn vc, .int .u32 vp, .int .u32 vm, .int .u32 vf, .int .u32 vs, .int .u32 vi, .slice vB vk vd] ∧ ChgS (fun k => k = b ∨ k = w.heap.size + 1 + 1) w2 W ∧ (i = 6 → Blk W (w.heap.size + 1 + 1) 28 zeroA) ∧ (i = 4 ∨ i = 9 → Blk W b 319 (ndC p m [v0, v1, v2, v3, v4, v5, v6, v7, v8] true cn (trPtr l0) (trPtr r0)))) (fun i Wa Wb => if i = 6 then EffC (w.heap.size + 1 + 1) 0 [v0, v1, v2, v3, v4, v5, v6, v7, v8] Wa Wb else if i = 9 then EffC b 2 [.int .i64 vh, .int .i64 vo, .slice vA vn vc, .int .u32 vp, .int .u32 vm, .int .u32 vf, .int .u32 vs, .int .u32 vi, .slice vB vk vd] Wa Wb else Below Wa.heap.size Wa Wb) (by kernel_rfl) (by kernel_rfl) (by kernel_rfl) (by kernel_rfl) (by kernel_rfl) ?hE ?hR ?hP ?h0 ⟨?_, ?_, ?_, ?_, ?_, ?_, ?_, ?_, ?_, ?_, trivial⟩ ?_
 case hE =>
  intro i2 wa wb hB he; split at he
  ·exact effC_below he
  ·split at he
   ·exact effC_below he
   ·exact he.mono (Nat.zero_le _)
 case hR =>
  intro i2 j2 vz wa wb hij hB he h; split at he
  ·rename_i hj2; subst hj2; refine keepAll_at (E := EffC (w.heap.size + 1 + 1) 0 [v0, v1, v2, v3, v4, v5, v6, v7, v8]) (x := 6) (k := 0) ?_ (by omega) he h; exact ⟨fun _ v wa wb he h => h, fun _ v wa wb he h => h, fun _ v wa wb he h => h, fun _ v wa wb he h => h, fun _ v wa wb he h => h, fun _ v wa wb he h => h, fun hn => absurd rfl hn, fun _ v wa wb he h => h, fun _ v wa wb he h => h, fun _ v wa wb he h => ⟨effC_blk he HNe.out h.1, effC_chg he h.2 (.inr rfl)⟩, trivial⟩
  ·split at he
   ·rename_i hj2; subst hj2; refine keepAll_at (E := EffC b 2 [.int .i64 vh, .int .i64 vo, .slice vA vn vc, .int .u32 vp, .int .u32 vm, .int .u32 vf, .int .u32 vs, .int .u32 vi, .slice vB vk vd]) (x := 9) (k := 0) ?_ (by omega) he h; exact ⟨fun _ v wa wb he h => h, fun _ v wa wb he h => h, fun _ v wa wb he h => h, fun _ v wa wb he h => h, fun _ v wa wb he h => h, fun _ v wa wb he h => h, fun _ v wa wb he h => effC_blk he HNe.out.symm h, fun _ v wa wb he h => h, fun _ v wa wb he h => h, fun hn => absurd rfl hn, trivial⟩
   ·refine relMono _ ?_ i2 vz wa wb he h; exact ⟨fun _ _ _ _ h => h, fun _ _ _ _ h => h, fun _ _ _ _ h => h, fun _ _ _ _ h => h, fun _ _ _ _ h => h, fun _ _ _ _ h => h, fun v wa wb hb h => h.below hb h.lt, fun _ _ _ _ h => h, fun _ _ _ _ h => h, fun v wa wb hb h => ⟨h.1.below hb h.1.lt, chg_trans h.2 (chg_below (S := fun _ => False) hb) (fun k h => h.elim)⟩, trivial⟩
 case hP =>
  intro i2 j2 wa wb hij hnb hB he h; split at he
  ·rename_i hj2; subst hj2; exact ⟨effC_blk he HNv1.out h.1, effC_chg he h.2.1 (.inr rfl), fun e => absurd e hij, fun e => effC_blk he HNe.out (h.2.2.2 e)⟩
  ·split at he
   ·rename_i hj2; subst hj2; refine ⟨effC_blk he HNv.out h.1, effC_chg he h.2.1 (.inl rfl), fun e => effC_blk he HNe.out.symm (h.2.2.1 e), fun e => ?_⟩; rcases e with rfl | rfl
    ·exact absurd hnb (by decide +kernel)
    ·exact absurd rfl hij
   ·exact ⟨h.1.below he h.1.lt, chg_trans h.2.1 (chg_below (S := fun _ => False) he) (fun k h => h.elim), fun e => (h.2.2.1 e).below he (h.2.2.1 e).lt, fun e => (h.2.2.2 e).below he (h.2.2.2 e).lt⟩
 case h0 =>
  intro j2 hj2; exact ⟨HV2.out.drew, ⟨rfl, rfl, rfl, Nat.le_refl _, fun _ _ _ => rfl⟩, fun _ => HZ2.out.drew, fun _ => HN2.out.drew⟩
 ·exact relG_plain rfl rfl (fun _ _ h => h) fun Ac w5 hp => pureM (ptv b 0) 8 (hp.out 8 (by rfl))
 ·exact relG_plain rfl rfl (fun _ _ h => h) fun Ac w5 hp => pureM (ptv b 0) 8 (hp.out 8 (by rfl))
 ·exact relG_plain rfl rfl (fun _ _ h => h) fun Ac w5 hp => pureM (ptv b 0) 29 (hp.d 1)
 ·exact relG_plain rfl rfl (fun _ _ h => h) fun Ac w5 hp => pure1 (ptv b 2) 30 (ptv b 0) (hp.d 2)
 ·refine relG_plain rfl rfl (fun _ _ h => h) ?_; intro Ac w5 hp; obtain ⟨hqv, hqc, hq1, hq2⟩ := hp.pre; have hk5 := hq2 (by decide); have y0 : w5.cell? ⟨b, 2, none⟩ = some v0 := hk5.cell 2; have y1 : w5.cell? ⟨b, 3, none⟩ = some v1 := hk5.cell 3; have y2 : w5.cell? ⟨b, 4, none⟩ = some v2 := hk5.cell 4; have y3 : w5.cell? ⟨b, 5, none⟩ = some v3 := hk5.cell 5; have y4 : w5.cell? ⟨b, 6, none⟩ = some v4 := hk5.cell 6; have y5 : w5.cell? ⟨b, 7, none⟩ = some v5 := hk5.cell 7; have y6 : w5.cell? ⟨b, 8, none⟩ = some v6 := hk5.cell 8; have y7 : w5.cell? ⟨b, 9, none⟩ = some v7 := hk5.cell 9; have y8 : w5.cell? ⟨b, 10, none⟩ = some v8 := hk5.cell 10; exact pure1 (.agg #[v0, v1, v2, v3, v4, v5, v6, v7, v8]) 31 (ptv b 2) (hp.d 3)
 ·refine relG_plain rfl rfl (fun _ _ h => h) ?_; intro Ac w5 hp; obtain ⟨hqv, hqc, hq1, hq2⟩ := hp.pre; have u0 : w5.cell? ⟨w.heap.size + 1, 0, none⟩ = some (.int .i64 vh) := hqv.cell 0; have u1 : w5.cell? ⟨w.heap.size + 1, 1, none⟩ = some (.int .i64 vo) := hqv.cell 1; have u2 : w5.cell? ⟨w.heap.size + 1, 2, none⟩ = some (.slice vA vn vc) := hqv.cell 2; have u3 : w5.cell? ⟨w.heap.size + 1, 3, none⟩ = some (.int .u32 vp) := hqv.cell 3; have u4 : w5.cell? ⟨w.heap.size + 1, 4, none⟩ = some (.int .u32 vm) := hqv.cell 4; have u5 : w5.cell? ⟨w.heap.size + 1, 5, none⟩ = some (.int .u32 vf) := hqv.cell 5; have u6 : w5.cell? ⟨w.heap.size + 1, 6, none⟩ = some (.int .u32 vs) := hqv.cell 6; have u7 : w5.cell? ⟨w.heap.size + 1, 7, none⟩ = some (.int .u32 vi) := hqv.cell 7; have u8 : w5.cell? ⟨w.heap.size + 1, 8, none⟩ = some (.slice vB vk vd) := hqv.cell 8; exact pure1 (.agg #[.int .i64 vh, .int .i64 vo, .slice vA vn vc, .int .u32 vp, .int .u32 vm, .int .u32 vf, .int .u32 vs, .int .u32 vi, .slice vB vk vd]) 5 (ptv (w.heap.size + 1) 0) (hp.out 5 (by rfl))
 ·refine relG_store rfl ?_; intro Ac w5 hp; have a6 : Ac.eval (.tmp 6) = .pointer (some ⟨w.heap.size + 1 + 1, 0, none⟩) := hp.out 6 (by rfl); have a32 : Ac.eval (.tmp 32) = .agg #[v0, v1, v2, v3, v4, v5, v6, v7, v8] := hp.d 4; obtain ⟨hqv, hqc, hq1, hq2⟩ := hp.pre; have HK := hide (hq1 rfl); clear hp hqv hqc hq1 hq2; exact ⟨w5.setCells (w.heap.size + 1 + 1) 0 [v0, v1, v2, v3, v4, v5, v6, v7, v8], .inl (exec_store rfl a6 a32 (stA_box HK.out HOne.out)), blk_sets [v0, v1, v2, v3, v4, v5, v6, v7, v8] [] zeroL HK.out rfl, rfl⟩
 ·exact relG_plain rfl rfl (fun _ _ h => h) fun Ac w5 hp => pureM (ptv b 0) 28 (hp.d 0)
 ·exact relG_plain rfl rfl (fun _ _ h => h) fun Ac w5 hp => pure1 (ptv b 2) 34 (ptv b 0) (hp.d 7)
 ·refine relG_store rfl ?_; intro Ac w5 hp; have a35 : Ac.eval (.tmp 35) = .pointer (some ⟨b, 2, none⟩) := hp.d 8; have a33 : Ac.eval (.tmp 33) = .agg #[.int .i64 vh, .int .i64 vo, .slice vA vn vc, .int .u32 vp, .int .u32 vm, .int .u32 vf, .int .u32 vs, .int .u32 vi, .slice vB vk vd] := hp.d 5; obtain ⟨hqv, hqc, hq1, hq2⟩ := hp.pre; have HK := hide (hq2 (by decide)); have HQc := hide hqc; clear hp hqv hqc hq1 hq2; exact ⟨w5.setCells b 2 [.int .i64 vh, .int .i64 vo, .slice vA vn vc, .int .u32 vp, .int .u32 vm, .int .u32 vf, .int .u32 vs, .int .u32 vi, .slice vB vk vd], .inl (exec_store rfl a35 a33 (stA_nd HK.out)), ⟨blk_setsM [.bool true, .int .i64 (cn : Int), trPtr l0, trPtr r0] [.int .i64 vh, .int .i64 vo, .slice vA vn vc, .int .u32 vp, .int .u32 vm, .int .u32 vf, .int .u32 vs, .int .u32 vi, .slice vB vk vd] [.int .u32 (p : Int), .int .i64 (m : Int)] [v0, v1, v2, v3, v4, v5, v6, v7, v8] HK.out rfl, chg_trans HQc.out (chg_sets (S := fun k => k = b) rfl _ 2) (fun k h => .inl (.inl h))⟩, rfl⟩
 intro u w9 hb7 hall; have efin : Blk w9 (w.heap.size + 1 + 1) 28 #[v0, v1, v2, v3, v4, v5, v6, v7, v8] := relAll_at hall (i := 6) (by decide +kernel); have efin1 : Both5 w2 w9 (fun k => k = b ∨ k = w.heap.size + 1 + 1) b 319 (ndC p m [.int .i64 vh, .int .i64 vo, .slice vA vn vc, .int .u32 vp, .int .u32 vm, .int .u32 vf, .int .u32 vs, .int .u32 vi, .slice vB vk vd] true cn (trPtr l0) (trPtr r0)) := relAll_at hall (i := 9) (by decide +kernel); clear hall; simp only [List.drop_succ_cons, List.drop_zero, List.take_succ_cons, List.take_zero, putAll, Act.put, List.setIfInBounds_toArray, List.set_cons_zero, List.set_cons_succ, Nat.zero_add, Nat.reduceAdd, ]; have HC9 := hide efin; have HB9 := hide efin1; clear hb7 efin efin1; have z0 : w9.cell? ⟨w.heap.size + 1 + 1, 0, none⟩ = some v0 := HC9.out.cell 0; have z1 : w9.cell? ⟨w.heap.size + 1 + 1, 1, none⟩ = some v1 := HC9.out.cell 1; have z2 : w9.cell? ⟨w.heap.size + 1 + 1, 2, none⟩ = some v2 := HC9.out.cell 2; have z3 : w9.cell? ⟨w.heap.size + 1 + 1, 3, none⟩ = some v3 := HC9.out.cell 3; have z4 : w9.cell? ⟨w.heap.size + 1 + 1, 4, none⟩ = some v4 := HC9.out.cell 4; have z5 : w9.cell? ⟨w.heap.size + 1 + 1, 5, none⟩ = some v5 := HC9.out.cell 5; have z6 : w9.cell? ⟨w.heap.size + 1 + 1, 6, none⟩ = some v6 := HC9.out.cell 6; have z7 : w9.cell? ⟨w.heap.size + 1 + 1, 7, none⟩ = some v7 := HC9.out.cell 7; have z8 : w9.cell? ⟨w.heap.size + 1 + 1, 8, none⟩ = some v8 := HC9.out.cell 8; have o0 := runS Tryz.prog v0 (HOne.out v0 (by simp)); have o1 := runS Tryz.prog v1 (HOne.out v1 (by simp)); have o2 := runS Tryz.prog v2 (HOne.out v2 (by simp)); have o3 := runS Tryz.prog v3 (HOne.out v3 (by simp)); have o4 := runS Tryz.prog v4 (HOne.out v4 (by simp)); have o5 := runS Tryz.prog v5 (HOne.out v5 (by simp)); have o6 := runS Tryz.prog v6 (HOne.out v6 (by simp)); have o7 := runS Tryz.prog v7 (HOne.out v7 (by simp)); have o8 := runS Tryz.prog v8 (HOne.out v8 (by simp)); have zf := fun i => HC9.out.frozen i; go_wp2; change bodyPost _ _ _ _ _ (w9.setCells (w.heap.size + 1 + 1) 0 [v0, v1, v2, v3, v4, v5, v6, v7, v8]); obtain ⟨wF, hwF⟩ : ∃ x, w9.setCells (w.heap.size + 1 + 1) 0 [v0, v1, v2, v3, v4, v5, v6, v7, v8] = x := ⟨_, rfl⟩
 have HFk := hide (hwF ▸ blk_sets [v0, v1, v2, v3, v4, v5, v6, v7, v8] [] [v0, v1, v2, v3, v4, v5, v6, v7, v8] HC9.out rfl : Blk wF (w.heap.size + 1 + 1) 28 #[v0, v1, v2, v3, v4, v5, v6, v7, v8]); have HFb := hide (hwF ▸ blk_sets_far HNe.out [v0, v1, v2, v3, v4, v5, v6, v7, v8] 0 HB9.out.1 : Blk wF b 319 _); have HFc : Hid (ChgS (fun k => k = b ∨ k = w.heap.size + 1 + 1) w2 wF) := hide (hwF ▸ chg_trans HB9.out.2 (chg_sets (S := fun k => k = w.heap.size + 1 + 1) rfl [v0, v1, v2, v3, v4, v5, v6, v7, v8] 0) (fun k h => .inl (.inr h))); rw [hwF]; clear hwF z0 z1 z2 z3 z4 z5 z6 z7 z8 o0 o1 o2 o3 o4 o5 o6 o7 o8 zf; have z0 : wF.cell? ⟨w.heap.size + 1 + 1, 0, none⟩ = some v0 := HFk.out.cell 0; have z1 : wF.cell? ⟨w.heap.size + 1 + 1, 1, none⟩ = some v1 := HFk.out.cell 1; have z2 : wF.cell? ⟨w.heap.size + 1 + 1, 2, none⟩ = some v2 := HFk.out.cell 2; have z3 : wF.cell? ⟨w.heap.size + 1 + 1, 3, none⟩ = some v3 := HFk.out.cell 3; have z4 : wF.cell? ⟨w.heap.size + 1 + 1, 4, none⟩ = some v4 := HFk.out.cell 4; have z5 : wF.cell? ⟨w.heap.size + 1 + 1, 5, none⟩ = some v5 := HFk.out.cell 5; have z6 : wF.cell? ⟨w.heap.size + 1 + 1, 6, none⟩ = some v6 := HFk.out.cell 6; have z7 : wF.cell? ⟨w.heap.size + 1 + 1, 7, none⟩ = some v7 := HFk.out.cell 7; have z8 : wF.cell? ⟨w.heap.size + 1 + 1, 8, none⟩ = some v8 := HFk.out.cell 8; have hcF : ChgS (fun k => k = b) w wF := chg_trans (chg_below HB2.out) HFc.out (fun k h => h.elim .inl (fun h => .inr (by omega))); obtain ⟨hTu, _⟩ := trUpd_mem (x := x) HPa.out (b := b) (us := [.int .i64 vh, .int .i64 vo, .slice vA vn vc, .int .u32 vp, .int .u32 vm, .int .u32 vf, .int .u32 vs, .int .u32 vi, .slice vB vk vd]) ⟨rfl, by simp [Value.oneCell']⟩ t HT.out HS.out hcF HFv.out (by rw [HCn.out]; exact HFb.out); have hbF : ¬ F b := HT.out.far b Hbt.out; refine bodyPost_ret (v := .tuple #[.agg #[v0, v1, v2, v3, v4, v5, v6, v7, v8], .bool true]) (by simp [results, Tryz.results170, go_sem, z0, z1, z2, z3, z4, z5, z6, z7, z8]) rfl ⟨v0, v1, v2, v3, v4, v5, v6, v7, v8, rfl, frs_chg HVy.out HFc.out (fun k hF h => h.elim (fun e => hbF (e ▸ hF)) (fun e => by have := HF.out k hF; omega)), HPut.out, ?_, hTu, chg_mono hcF (fun k h => .inl (h ▸ Hbt.out))⟩; rw [(trUpd_b t).2]; exact chg_blk hcF HG.out (fun e => HgB.out (e ▸ Hbt.out))
theorem trput_ok {a n : Nat} {X : AT} {t t2 : Tr AT} (hw : trWf t) (hp : PutR a n X t t2) (hok : ∀ z ∈ trL t, AtOk z.2.2) (hX : AtOk X) : ∀ z ∈ trL t2, AtOk z.2.2 := by
 rintro ⟨c, k, x⟩ hz; rw [trL_mem t2 hp.wf, hp.get] at hz; split at hz
 ·simp only [Option.some.injEq] at hz; subst hz; exact hX
 ·exact hok (c, k, x) ((trL_mem t hw).2 hz)
theorem own_len {X : AT} (hn : normA X = X) (hk : AtOk X) : X.path.length ≤ 100000 := by
 have h : (normA X).path.length ≤ numS X.path := by
  unfold normA; simp only; split
  ·exact normS_len _
  ·simp
 rw [hn] at h; have := hk.1; omega
end Go.Proofs.YtmffmkjgdjgmeaaGreat
namespace Go.Proofs.YtmffmkjgdjgmeaaGreat
open Go.RowKit Go.WideShapes Go.ChangeShapes
section
variable {α : Type}
theorem lkL_putL {c k a n : Nat} {x : α} {L : List (Nat × Nat × α)} (hs : L.Pairwise PLt) : lkL c k (putL a n x L) = if a = c ∧ n = k then some x else lkL c k L := by
 refine Option.ext fun y => ?_; rw [lkL_mem (putL_sorted hs), putL_mem hs]; simp only [Prod.mk.injEq]; split
 ·rename_i e; obtain ⟨rfl, rfl⟩ := e; constructor
  ·rintro (⟨_, _, rfl⟩ | ⟨_, h⟩)
   ·rfl
   ·exact absurd ⟨rfl, rfl⟩ h
  ·intro h; injection h with h
   exact .inl ⟨rfl, rfl, h.symm⟩
 ·rename_i e; rw [lkL_mem hs]; constructor
  ·rintro (⟨rfl, rfl, _⟩ | ⟨h, _⟩)
   ·exact absurd ⟨rfl, rfl⟩ e
   ·exact h
  ·exact fun h => .inr ⟨h, e⟩
theorem lk_ext {L R : List (Nat × Nat × α)} (hL : L.Pairwise PLt) (hR : R.Pairwise PLt) (h : ∀ c k, lkL c k L = lkL c k R) : L = R := by
 refine plt_ext L R hL hR fun z => ?_; obtain ⟨c, k, x⟩ := z; rw [← lkL_mem hL, ← lkL_mem hR, h]
theorem lkL_key {c k : Nat} {x : α} {L : List (Nat × Nat × α)} (h : lkL c k L = some x) : (c, k, x) ∈ L := by
 unfold lkL at h; rw [Option.map_eq_some_iff] at h; obtain ⟨z, hz, rfl⟩ := h; have h1 := List.find?_some hz; have h2 := List.mem_of_find?_eq_some hz; simp only [decide_eq_true_eq] at h1; obtain ⟨rfl, rfl⟩ := h1; exact h2
theorem lkL_filter {c k : Nat} {p : Nat × Nat × α → Bool} {L : List (Nat × Nat × α)} (hs : L.Pairwise PLt) : lkL c k (L.filter p) = (lkL c k L).bind (fun x => if p (c, k, x) then some x else none) := by
 refine Option.ext fun y => ?_; rw [lkL_mem (hs.sublist List.filter_sublist), List.mem_filter, ← lkL_mem hs]
 cases h : lkL c k L with
 | none => simp
 | some x =>
  simp only [Option.some.injEq, Option.bind_some]; constructor
  ·rintro ⟨rfl, hp⟩; rw [if_pos hp]
  ·intro h; split at h
   ·rename_i hp; injection h with h
    subst h; exact ⟨rfl, hp⟩
   ·cases h
end
end Go.Proofs.YtmffmkjgdjgmeaaGreat
namespace Go.Proofs.YtmffmkjgdjgmeaaGreat
open Go.RowKit Go.WideShapes Go.ChangeShapes
attribute [local go_sem] Oper.semAt_some
theorem pz_one {xs : List Value} {l : List (Nat × Int)} {w : World} (h : Chunks 2 pzR w xs l) : ∀ u ∈ xs, u.oneCell' = true := by
 refine h.ones (fun w vs x hr u hu => ?_) (by decide); obtain ⟨rfl, _⟩ := hr; simp at hu; rcases hu with rfl | rfl <;> rfl
set_option maxRecDepth 100000 in
theorem pxFew_any (A : Option Addr) (n c : Nat) (l : List (Nat × Int)) (w : World) (h : LstAt 2 pzR w A n c l) :
    Calls Tryz.prog 70 #[.slice A n c, .int .i64 30] w fun e w' => ∃ A' n' c', e = .returned (.slice A' n' c') ∧ LstAt 2 pzR w' A' n' c' (l.take 30) ∧ (∀ k, (Value.slice A' n' c').ownBlock = some k → w.heap.size ≤ k) ∧ Below w.heap.size w w' := by
  obtain ⟨i0, hi, hz0, hz1, hz2⟩ := info_parts pxInfo; have hnc := h.2.1; have hmx := h.2.2.1; unfold maxLen at hmx; have hln := h.1
  obtain ⟨m, hm, hcase⟩ : ∃ m, LstAt 2 pzR w A m c (l.take 30) ∧ ((30 < n ∧ m = 30) ∨ (n ≤ 30 ∧ m = n)) := by
    by_cases h30 : 30 < n
    · exact ⟨30, h.take_ (by omega), .inl ⟨h30, rfl⟩⟩
    · exact ⟨n, by rw [List.take_of_length_le (by omega)]; exact h, .inr ⟨by omega, rfl⟩⟩
  obtain ⟨xs, hr, hx⟩ := hm.reads (by decide); have HR := hide hr; have HX := hide hx; have H1 := hide (pz_one hx); have hmc := hm.2.1
  have HF : Hid (∀ (v : Value) (w1 : World), w1.ownsRow w.heap.size 24 2 v (0 + m) ([] ++ xs) → ∃ A' n' c', v = .slice A' n' c' ∧ LstAt 2 pzR w1 A' n' c' (l.take 30) ∧ ∀ k, v.ownBlock = some k → w.heap.size ≤ k) := hide (fun v w1 ho => by
    rw [Nat.zero_add, List.nil_append] at ho; have hc' : Chunks 2 pzR w1 xs (l.take 30) := ⟨HX.out.1, fun k x hk => HX.out.2 k x hk⟩
    have hlow := own_low_block ho; rcases ho.2 with ⟨rfl, h0⟩ | ⟨g, cap, cur, rfl, r⟩
    · subst h0; exact ⟨none, 0, 0, rfl, LstAt.of_own (by decide) ho hc', hlow⟩
    · exact ⟨_, _, _, rfl, LstAt.of_own (by decide) ho hc', hlow⟩)
  clear h hm hr hx hln
  go_enter Tryz.func70, Tryz.ntmps70
  rcases hcase with ⟨h30, rfl⟩ | ⟨h30, rfl⟩
  all_goals
    have i1 : (30 : Int) ≤ (c : Int) ∨ True := .inr trivial; clear i1
  · have e1 : decide ((n : Int) > 30) = true := decide_eq_true (by omega); have e2 : (30 : Int) ≤ (c : Int) := (by omega)
    go_wp2_with (at_builtin; refine wpList_append_any _ rfl (.tmp 12) (.tmp 13) 36 rfl w.heap.size 24 i0 _ 2 16 Tryz.underlying36 hi hz0 hz1 hz2 rfl (by decide) (.slice (some ⟨w.heap.size, 0, none⟩) 0 0) 0 [] rfl (own_made0P w) w.heap.size A _ c xs rfl (HR.out.alloc (Nat.le_refl _) _) H1.out (by unfold maxLen; omega) (by omega) (by simp) ?_; intro v' w1 hown' hgrow _)
    go_ret; obtain ⟨A', n', c', e, hl, hb⟩ := HF.out _ _ hown'; exact ⟨A', n', c', by rw [e]; rfl, hl, by rw [← e]; exact hb, ((Below.refl _ _).alloc (Nat.le_refl _) _).grown hgrow (by simp) (fun k hk => by simp [Value.ownBlock] at hk; omega)⟩
  · have e1 : decide ((m : Int) > 30) = false := decide_eq_false (by omega)
    go_wp2_with (at_builtin; refine wpList_append_any _ rfl (.tmp 12) (.tmp 13) 36 rfl w.heap.size 24 i0 _ 2 16 Tryz.underlying36 hi hz0 hz1 hz2 rfl (by decide) (.slice (some ⟨w.heap.size, 0, none⟩) 0 0) 0 [] rfl (own_made0P w) w.heap.size A _ c xs rfl (HR.out.alloc (Nat.le_refl _) _) H1.out (by unfold maxLen; omega) (by omega) (by simp) ?_; intro v' w1 hown' hgrow _)
    go_ret; obtain ⟨A', n', c', e, hl, hb⟩ := HF.out _ _ hown'; exact ⟨A', n', c', by rw [e]; rfl, hl, by rw [← e]; exact hb, ((Below.refl _ _).alloc (Nat.le_refl _) _).grown hgrow (by simp) (fun k hk => by simp [Value.ownBlock] at hk; omega)⟩
theorem pGood_own (A : Option Addr) (n c : Nat) (l : List SG) (w : World) (h : LstAt 2 sgR w A n c l) (hno : normS l = l) (hl : ∀ x ∈ l, 1 ≤ x.r.length ∧ x.r.length ≤ 255) (hn : n ≤ 100) (hnum : numS l ≤ 10000) :
  Calls Tryz.prog 424 #[.slice A n c] w (GoodP true w) := by
 have H := hide (pgood_eq A n c l w h hno hl hn hnum); clear h hno hl
 go_enter Tryz.func424, Tryz.ntmps424
 go_wp2_with fail
 refine H.out.mono ?_; rintro e w1 ⟨rfl, hb⟩; have HB := hide hb; clear hb; go_wp2; go_ret; exact ⟨rfl, HB.out⟩
set_option maxRecDepth 100000 in
set_option maxHeartbeats 4000000 in
theorem attrways_own (A : Option Addr) (n c : Nat) (l : List SG) (w : World) (h : LstAt 2 sgR w A n c l) (hno : normS l = l) (hl : ∀ x ∈ l, 1 ≤ x.r.length ∧ x.r.length ≤ 255) (hn : n ≤ 100) (hnum : numS l ≤ 2000) :
  Calls Tryz.prog 404 #[.slice A n c] w (GoodP true w) := by
 have hln := h.1; have hnc := h.2.1; have hmx := h.2.2.1; unfold maxLen at hmx; have HLs := hide h; have HG := hide (fun W (hb : Below w.heap.size w W) => pGood_own A n c l W (h.below sgMono hb) hno hl hn (by omega)); clear h hno hl
 go_enter Tryz.func404, Tryz.ntmps404
 go_wp2
 go_loopw [3, 8] (fun av iv wr => ∃ q : Nat, q ≤ n ∧ iv = .int .i64 (q : Nat) ∧ av = .int .i64 (numS (l.take q) : Int) ∧ Below w.heap.size w wr) (fun _ iv _ => n - (intOf iv).toNat)
 case atStart => exact ⟨0, Nat.zero_le _, rfl, rfl, Below.refl _ _⟩
 case round =>
  obtain ⟨q, hq, rfl, rfl, hbel⟩ := hrel; have HBe := hide hbel; have hs1 := hbel.size; by_cases hlt : q < n
  ·obtain ⟨g, o, b, B, m, d, r, rfl, hg, hx, hr, hc0, hc1⟩ := SGat (HLs.out.below sgMono hbel) hlt; have HS := hide (numS_snoc l q _ hx); have h2 := numS_take_le l (q + 1); have hrl : r.length = m := hr.1; have q1 : (q : Int) < (n : Int) := (by omega)
   have q0 : (0 : Int) ≤ (q : Int) := (by omega)
   have hwq : IntKind.i64.wrap ((q : Int) + 1) = (q : Int) + 1 := (by rw [IntKind.wrap_i64]; omega)
   have hsn := HS.out; have HBx : Hid (∀ o1 : Obj, Below w.heap.size w (wr.alloc o1)) := hide (fun o1 => HBe.out.alloc hs1 o1); simp only [hrl] at hsn; clear hbel hx hr; have hwa : IntKind.i64.wrap ((numS (l.take q) : Int) + (m : Int)) = (numS (l.take (q + 1)) : Int) := (by rw [IntKind.wrap_i64]; omega)
   go_wp2
   go_roundw
   case rel => exact ⟨q + 1, by omega, by go_num, by first | rfl | exact congrArg (Value.int .i64) (by omega), HBx.out _⟩
   case measure => simp [intOf]; omega
  ·obtain rfl : q = n := (by omega)
   have HE : Hid (numS (l.take q) = numS l) := hide (by rw [List.take_of_length_le (by omega)]); have HGd := hide (HG.out wr hbel); have e9 : decide ((numS (l.take q) : Int) ≤ 2000) = true := decide_eq_true (by rw [HE.out]; omega); clear hbel hlt
   go_wp2_with fail
   refine HGd.out.mono ?_; rintro e w2 ⟨rfl, hb2⟩; have HB2 := hide (HBe.out.trans (hb2.mono hs1)); clear hb2; go_wp2; go_ret; exact ⟨rfl, HB2.out⟩
theorem attrhop_5 (w : World) : Calls Tryz.prog 403 #[.int .u32 5] w fun e w' => e = .returned (.bool true) ∧ w' = w := by
 go_enter Tryz.func403, Tryz.ntmps403
 go_wp2; go_ret; exact ⟨rfl, rfl⟩
set_option maxRecDepth 100000 in
set_option maxHeartbeats 8000000 in
theorem attrgood_own (X : AT) (v : Value) (w : World) (hv : AtR w X v) (hN : normA X = X) (h0 : 0 ≤ X.org) (h2 : X.org ≤ 2) (hcm : X.comms.length ≤ 255) (hh : attB X.has 3 = true ∧ X.hop = 5) (hpo : normS X.path = X.path) (hpl : ∀ x ∈ X.path, 1 ≤ x.r.length ∧ x.r.length ≤ 255) (hpn : X.path.length ≤ 100) (hnum : numS X.path ≤ 2000) :
  Calls Tryz.prog 352 #[v] w (GoodP true w) := by
 obtain ⟨A, n, c, B, m, d, rfl, hP, hC⟩ := hv; obtain ⟨w1, hw1⟩ : ∃ w1, w.alloc (.cells (aC X A n c B m d) 28) = w1 := ⟨_, rfl⟩
 have hb1 : Below w.heap.size w w1 := hw1 ▸ blkBelow1 w _; have HK : Hid (Blk w1 w.heap.size 28 (aC X A n c B m d)) := hide (hw1 ▸ Blk.new w _ _); have hn := hP.1; have hm := hC.1; have HN1 : Hid (numS X.path ≤ 10000) := hide (by omega); have HN2 : Hid (m ≤ 10000) := hide (by omega); have HPl : Hid (X.path.length ≤ 100000) := hide (by omega); have HNx : Hid (normA X = X) := hide hN; have HP := hide (fun W (hb : Below w1.heap.size w1 W) => (hP.below sgMono hb1).below sgMono hb); have HC := hide (fun W (hb : Below w1.heap.size w1 W) => (hC.below hb1).below hb); have HWy := hide (fun W (hb : Below w1.heap.size w1 W) => attrways_own A n c X.path W (HP.out W hb) hpo hpl (by omega) hnum); have HHs := hide (fun W => attrHas_any 3 (by unfold K8; omega) X.has X.org A n c X.hop X.med X.pref X.aas X.aid B m d W); rw [hh.1] at HHs; have HHp := hide (fun W => attrhop_5 W); have HHo := hide hh.2; have hml : (m : Int) ≤ 255 := (by omega)
 have HB1 := hide hb1; have HW1 := hide hw1; clear hw1 hb1 hP hC hN hpo hpl hpn hnum hh hcm hn hm
 go_enter Tryz.func352, Tryz.ntmps352
 go_upto_region 1 with fail
 rw [HW1.out]; have Hmn := hide (show AllMono [(isV (.agg #[.int .i64 X.has, .int .i64 X.org, .slice A n c, .int .u32 X.hop, .int .u32 X.med, .int .u32 X.pref, .int .u32 X.aas, .int .u32 X.aid, .slice B m d])), (fun v W => AtR W X v), (isV (.agg #[.int .i64 X.has, .int .i64 X.org, .slice A n c, .int .u32 X.hop, .int .u32 X.med, .int .u32 X.pref, .int .u32 X.aas, .int .u32 X.aid, .slice B m d])), (isV (.bool true)), (isV (.bool false))] from ⟨fun _ _ _ _ h => h, fun v w2 w3 hb ⟨A, n, c, B, m, d, e, h1, h2⟩ => ⟨A, n, c, B, m, d, e, h1.below sgMono hb, h2.below hb⟩, fun _ _ _ _ h => h, fun _ _ _ _ h => h, fun _ _ _ _ h => h, trivial⟩); refine wp_region_relT 5 _ (by kernel_rfl) (by kernel_rfl) (by kernel_rfl) (by kernel_rfl) (by kernel_rfl) (relMono _ Hmn.out) ⟨?_, ?_, ?_, ?_, ?_, trivial⟩ ?_
 ·refine relStep_plain rfl ?_; intro Ac w5 hp; have hb := hp.bel; have hx5 := HK.out.below hb HK.out.lt; have x0 : w5.cell? ⟨w.heap.size, 0, none⟩ = some (.int .i64 X.has) := hx5.cell 0; have x1 : w5.cell? ⟨w.heap.size, 1, none⟩ = some (.int .i64 X.org) := hx5.cell 1; have x2 : w5.cell? ⟨w.heap.size, 2, none⟩ = some (.slice A n c) := hx5.cell 2; have x3 : w5.cell? ⟨w.heap.size, 3, none⟩ = some (.int .u32 X.hop) := hx5.cell 3; have x4 : w5.cell? ⟨w.heap.size, 4, none⟩ = some (.int .u32 X.med) := hx5.cell 4; have x5 : w5.cell? ⟨w.heap.size, 5, none⟩ = some (.int .u32 X.pref) := hx5.cell 5; have x6 : w5.cell? ⟨w.heap.size, 6, none⟩ = some (.int .u32 X.aas) := hx5.cell 6; have x7 : w5.cell? ⟨w.heap.size, 7, none⟩ = some (.int .u32 X.aid) := hx5.cell 7; have x8 : w5.cell? ⟨w.heap.size, 8, none⟩ = some (.slice B m d) := hx5.cell 8; exact pure1 (.agg #[.int .i64 X.has, .int .i64 X.org, .slice A n c, .int .u32 X.hop, .int .u32 X.med, .int .u32 X.pref, .int .u32 X.aas, .int .u32 X.aid, .slice B m d]) 1 (ptv w.heap.size 0) (hp.out 1 (by rfl))
 ·refine relStep_plain rfl ?_; intro Ac w5 hp; have hb := hp.bel; have a4 : Ac.eval (.tmp 4) = .agg #[.int .i64 X.has, .int .i64 X.org, .slice A n c, .int .u32 X.hop, .int .u32 X.med, .int .u32 X.pref, .int .u32 X.aas, .int .u32 X.aid, .slice B m d] := hp.d 0; obtain ⟨ρ, hρ, hc, hf, hgl⟩ := evalX Ac; rw [hρ] at a4; refine relCall hρ 248 #[.agg #[.int .i64 X.has, .int .i64 X.org, .slice A n c, .int .u32 X.hop, .int .u32 X.med, .int .u32 X.pref, .int .u32 X.aas, .int .u32 X.aid, .slice B m d]] (by simp [go_sem, ↓IntWalk.iteOmega, *]) ?_; refine (attrNorm_any X.has X.org A n c X.hop X.med X.pref X.aas X.aid B m d X.path X.comms w5 (HP.out w5 hb) (HC.out w5 hb) HN1.out HN2.out).mono ?_; rintro e w6 ⟨v6, rfl, ⟨A6, n6, c6, xs6, B6, m6, d6, rfl, hl6, hu6⟩, hb6⟩; have hNx : normA ⟨X.has, X.org, X.path, X.hop, X.med, X.pref, X.aas, X.aid, X.comms⟩ = X := HNx.out; rw [hNx] at hl6 hu6 ⊢; exact ⟨_, rfl, ⟨A6, n6, c6, B6, m6, d6, rfl, (hl6.lst (by decide)).below sgMono (Below.refl _ _), hu6.here⟩, hb6⟩
 ·refine relStep_plain rfl ?_; intro Ac w5 hp; have hb := hp.bel; have hx5 := HK.out.below hb HK.out.lt; have x0 : w5.cell? ⟨w.heap.size, 0, none⟩ = some (.int .i64 X.has) := hx5.cell 0; have x1 : w5.cell? ⟨w.heap.size, 1, none⟩ = some (.int .i64 X.org) := hx5.cell 1; have x2 : w5.cell? ⟨w.heap.size, 2, none⟩ = some (.slice A n c) := hx5.cell 2; have x3 : w5.cell? ⟨w.heap.size, 3, none⟩ = some (.int .u32 X.hop) := hx5.cell 3; have x4 : w5.cell? ⟨w.heap.size, 4, none⟩ = some (.int .u32 X.med) := hx5.cell 4; have x5 : w5.cell? ⟨w.heap.size, 5, none⟩ = some (.int .u32 X.pref) := hx5.cell 5; have x6 : w5.cell? ⟨w.heap.size, 6, none⟩ = some (.int .u32 X.aas) := hx5.cell 6; have x7 : w5.cell? ⟨w.heap.size, 7, none⟩ = some (.int .u32 X.aid) := hx5.cell 7; have x8 : w5.cell? ⟨w.heap.size, 8, none⟩ = some (.slice B m d) := hx5.cell 8; exact pure1 (.agg #[.int .i64 X.has, .int .i64 X.org, .slice A n c, .int .u32 X.hop, .int .u32 X.med, .int .u32 X.pref, .int .u32 X.aas, .int .u32 X.aid, .slice B m d]) 1 (ptv w.heap.size 0) (hp.out 1 (by rfl))
 ·refine relStep_plain rfl ?_; intro Ac w5 hp; have hb := hp.bel; obtain ⟨A5, n5, c5, B5, m5, d5, a5, hl5, hu5⟩ := hp.d 1; change Ac.eval (.tmp 5) = _ at a5; have a6 : Ac.eval (.tmp 6) = .agg #[.int .i64 X.has, .int .i64 X.org, .slice A n c, .int .u32 X.hop, .int .u32 X.med, .int .u32 X.pref, .int .u32 X.aas, .int .u32 X.aid, .slice B m d] := hp.d 2; obtain ⟨ρ, hρ, hc, hf, hgl⟩ := evalX Ac; rw [hρ] at a5 a6; refine relCall hρ 351 #[.agg #[.int .i64 X.has, .int .i64 X.org, .slice A5 n5 c5, .int .u32 X.hop, .int .u32 X.med, .int .u32 X.pref, .int .u32 X.aas, .int .u32 X.aid, .slice B5 m5 d5], .agg #[.int .i64 X.has, .int .i64 X.org, .slice A n c, .int .u32 X.hop, .int .u32 X.med, .int .u32 X.pref, .int .u32 X.aas, .int .u32 X.aid, .slice B m d]] (by simp [go_sem, ↓IntWalk.iteOmega, *]) ?_; refine (attrsame_eq X _ _ w5 ⟨A5, n5, c5, B5, m5, d5, rfl, hl5, hu5⟩ ⟨A, n, c, B, m, d, rfl, HP.out w5 hb, HC.out w5 hb⟩ HPl.out).mono ?_; rintro e w6 ⟨rfl, hb6⟩; exact ⟨_, rfl, rfl, hb6⟩
 ·exact relStep_plain rfl fun Ac w5 hp => pure1 (.bool false) 7 (.bool true) (hp.d 3)
 intro u w2 hb7 hall; have e8 : u 4 = .bool false := relAll_at hall (i := 4) (by decide +kernel); clear hall; simp only [List.drop_succ_cons, List.drop_zero, List.take_succ_cons, List.take_zero, putAll, Act.put, List.setIfInBounds_toArray, List.set_cons_zero, List.set_cons_succ, Nat.zero_add, Nat.reduceAdd, e8]; have HB2 := hide (btr HB1.out hb7); have HK2 := hide (HK.out.below hb7 HK.out.lt); have HBw := hide hb7; clear hb7 HK; have x1 : w2.cell? ⟨w.heap.size, 1, none⟩ = some (.int .i64 X.org) := HK2.out.cell 1; have x8 : w2.cell? ⟨w.heap.size, 8, none⟩ = some (.slice B m d) := HK2.out.cell 8; have x0 : w2.cell? ⟨w.heap.size, 0, none⟩ = some (.int .i64 X.has) := HK2.out.cell 0; have x2 : w2.cell? ⟨w.heap.size, 2, none⟩ = some (.slice A n c) := HK2.out.cell 2; have x3 : w2.cell? ⟨w.heap.size, 3, none⟩ = some (.int .u32 X.hop) := HK2.out.cell 3; have x4 : w2.cell? ⟨w.heap.size, 4, none⟩ = some (.int .u32 X.med) := HK2.out.cell 4; have x5 : w2.cell? ⟨w.heap.size, 5, none⟩ = some (.int .u32 X.pref) := HK2.out.cell 5; have x6 : w2.cell? ⟨w.heap.size, 6, none⟩ = some (.int .u32 X.aas) := HK2.out.cell 6; have x7 : w2.cell? ⟨w.heap.size, 7, none⟩ = some (.int .u32 X.aid) := HK2.out.cell 7; have d1 : decide (X.org < 0) = false := decide_eq_false (by omega); have d2 : decide (X.org > 2) = false := decide_eq_false (by omega); have d3 : decide ((m : Int) > 255) = false := decide_eq_false (by omega)
 go_wp2_with fail
 refine (HHs.out _).mono ?_; rintro e w3 ⟨rfl, hb3⟩; have HB3 := hide (btr HB2.out hb3); have HBw3 := hide (btr HBw.out hb3); have HK3 := hide (HK2.out.below hb3 HK2.out.lt); clear hb3 x0 x1 x2 x3 x4 x5 x6 x7 x8; have y3 : w3.cell? ⟨w.heap.size, 3, none⟩ = some (.int .u32 X.hop) := HK3.out.cell 3; rw [HHo.out] at y3; have y2 : w3.cell? ⟨w.heap.size, 2, none⟩ = some (.slice A n c) := HK3.out.cell 2
 go_wp2_with fail
 refine (HHp.out _).mono ?_; rintro e w4 ⟨rfl, rfl⟩
 go_wp2_with fail
 refine (HWy.out _ HBw3.out).mono ?_; rintro e w5 ⟨rfl, hb5⟩; have HB5 := hide (btr HB3.out hb5); clear hb5; go_wp2; go_ret; exact ⟨rfl, HB5.out⟩
theorem attrGood_own (X : AT) (v : Value) (w : World) (hv : AtR w X v) (hN : normA X = X) (h0 : 0 ≤ X.org) (h2 : X.org ≤ 2) (hcm : X.comms.length ≤ 255) (hh : attB X.has 3 = true ∧ X.hop = 5) (hpo : normS X.path = X.path) (hpl : ∀ x ∈ X.path, 1 ≤ x.r.length ∧ x.r.length ≤ 255) (hpn : X.path.length ≤ 100) (hnum : numS X.path ≤ 2000) :
  Calls Tryz.prog 273 #[v] w (GoodP true w) := by
 have H := hide (fun W (hb : Below w.heap.size w W) => attrgood_own X v W (by obtain ⟨A, n, c, B, m, d, e, hP, hC⟩ := hv; exact ⟨A, n, c, B, m, d, e, hP.below sgMono hb, hC.below hb⟩) hN h0 h2 hcm hh hpo hpl hpn hnum); obtain ⟨A, n, c, B, m, d, rfl, hP, hC⟩ := hv; have HB := hide (blkBelow1 w (.cells (aC X A n c B m d) 28)); clear hP hC hN hpo hpl hpn hnum hh hcm
 go_enter Tryz.func273, Tryz.ntmps273
 go_wp2_with fail
 refine (H.out _ HB.out).mono ?_; rintro e w1 ⟨rfl, hb⟩; have HB1 := hide (btr HB.out hb); clear hb; go_wp2; go_ret; exact ⟨rfl, HB1.out⟩
set_option maxRecDepth 100000 in
theorem sgIndex1_any (F : FuncId) (cap : Value) (p : SG → Bool) (A : Option Addr) (n c : Nat) (l : List SG) (w : World) (h : LstAt 2 sgR w A n c l) (hF : ∀ (args : Array Value) (W : World), (callFunc F args).run Tryz.prog W = .ok (.enter F args) W)
    (HF : ∀ (b : Int) (B : Option Addr) (m d : Nat) (r : List Nat) (W : World), Below w.heap.size w W → U32s W B m d r → Calls Tryz.prog F #[.agg #[.int .i64 b, .slice B m d], cap] W (GoodP (p ⟨b, r⟩) W)) :
    Calls Tryz.prog 406 #[.slice A n c, .func (.func F) #[] #[cap]] w fun e w' => e = .returned (.int .i64 (idxP p l)) ∧ Below w.heap.size w w' := by
  have hm := h.2.2.1; have hnc := h.2.1; unfold maxLen at hm; have HU := hide h; have HP := hide HF; have HE := hide hF; clear h HF hF
  go_enter Tryz.func406, Tryz.ntmps406
  go_wp2
  go_loopw [8] (fun i wr => ∃ k : Nat, k ≤ n ∧ i = .int .i64 k ∧ (∀ y ∈ l.take k, p y = false) ∧ Below w.heap.size w wr) (fun i _ => n - (intOf i).toNat)
  case atStart => exact ⟨0, Nat.zero_le _, rfl, by simp, Below.refl _ _⟩
  case round =>
    obtain ⟨k, hk, rfl, hno, hb⟩ := hrel; have HN := hide hno; have HA := hide (HU.out.below sgMono hb); have HB := hide hb; have hsz := hb.size; clear hno hb; by_cases hlt : k < n
    · obtain ⟨g, o, b, B, m, d, r, rfl, hg, hy, hok, c0, c1⟩ := SGat HA.out hlt; have HO := hide (HP.out b B m d r wr HB.out hok); have HY := hide hy; clear hy; obtain ⟨q, hq⟩ : ∃ q, p ⟨b, r⟩ = q := ⟨_, rfl⟩
      rw [hq] at HO; have HQ := hide hq; clear hq hok
      go_wp2_with fail
      rw [HE.out, Oper.upon_enter]; refine HO.out.mono ?_; rintro e w1 ⟨rfl, hb1⟩; have HB1 := hide (HB.out.trans (hb1.mono hsz)); clear hb1
      cases q
      · have hn2 := hide (show ∀ y ∈ l.take (k + 1), p y = false by
          intro y hy; rw [List.take_add_one, HY.out, List.mem_append] at hy; rcases hy with hy | hy
          · exact HN.out y hy
          · simp at hy; subst hy; exact HQ.out)
        go_wp2
        go_roundw
        case rel => exact ⟨k + 1, by omega, by go_num, hn2.out, HB1.out⟩
        case measure => simp [intOf]; omega
      · have hin := hide (idxP_at p l k _ HN.out HY.out HQ.out); go_wp2; go_ret; exact ⟨ret_i64 hin.out.symm, HB1.out⟩
    · obtain rfl : k = n := (by omega)
      have hf := hide (idxP_none p l (fun y hy => HN.out y (by rw [List.take_of_length_le (by rw [HU.out.1]; exact Nat.le_refl _)]; exact hy))); go_wp2; go_ret; exact ⟨ret_i64 hf.out.symm, HB.out⟩
theorem sgContains1_any (F : FuncId) (cap : Value) (p : SG → Bool) (A : Option Addr) (n c : Nat) (l : List SG) (w : World) (h : LstAt 2 sgR w A n c l) (hF : ∀ (args : Array Value) (W : World), (callFunc F args).run Tryz.prog W = .ok (.enter F args) W)
  (HF : ∀ (b : Int) (B : Option Addr) (m d : Nat) (r : List Nat) (W : World), Below w.heap.size w W → U32s W B m d r → Calls Tryz.prog F #[.agg #[.int .i64 b, .slice B m d], cap] W (GoodP (p ⟨b, r⟩) W)) :
  Calls Tryz.prog 356 #[.slice A n c, .func (.func F) #[] #[cap]] w (GoodP (l.any p) w) := by
 have HI := hide (sgIndex1_any F cap p A n c l w h hF HF); have hd := idxP_any p l; obtain ⟨q, hq⟩ : ∃ q, l.any p = q := ⟨_, rfl⟩
 obtain ⟨i, hi⟩ : ∃ i, idxP p l = i := ⟨_, rfl⟩
 rw [hi] at HI hd; rw [hq] at hd ⊢; clear h hF HF hi hq
 go_enter Tryz.func356, Tryz.ntmps356
 go_wp2_with fail
 refine HI.out.mono ?_; rintro e w1 ⟨rfl, hb⟩; have HB := hide hb; clear hb; go_wp2; go_ret; exact ⟨rfl, HB.out⟩
def pathHas (l : List SG) (n : Nat) : Bool := l.any fun s => s.r.contains n
theorem phas1_any (n H : Nat) (b : Int) (B : Option Addr) (m d : Nat) (r : List Nat) (w : World) (hr : U32s w B m d r) (hc : w.cell? ⟨H, 0, none⟩ = some (.int .u32 (n : Int))) (hH : H < w.heap.size) :
  Calls Tryz.prog 357 #[.agg #[.int .i64 b, .slice B m d], .pointer (some ⟨H, 0, none⟩)] w (GoodP (r.contains n) w) := by
 have hb := blkBelow1 w (.cells #[.int .i64 b, .slice B m d] 99); have HCn := hide (contains32_any B m d r n _ (hr.below hb)); have HC := hide ((hb.cell (p := ⟨H, 0, none⟩) hH).trans hc); have HB := hide hb; obtain ⟨q, hq⟩ : ∃ q, r.contains n = q := ⟨_, rfl⟩
 rw [hq] at HCn ⊢; clear hr hc hb hq; have hcc := HC.out
 go_enter Tryz.func357, Tryz.ntmps357
 go_wp2_with fail
 refine HCn.out.mono ?_; rintro e w1 ⟨rfl, rfl⟩; go_wp2; go_ret; exact ⟨rfl, HB.out⟩
theorem pathHas_any (A : Option Addr) (n c : Nat) (l : List SG) (x : Nat) (w : World) (h : LstAt 2 sgR w A n c l) :
  Calls Tryz.prog 277 #[.slice A n c, .int .u32 (x : Int)] w (GoodP (pathHas l x) w) := by
 have hb := blkBelow1 w (.cells #[.int .u32 (x : Int)] 22); have HI := hide (sgContains1_any 357 (.pointer (some ⟨w.heap.size, 0, none⟩)) (fun s => s.r.contains x) A n c l _ (h.below sgMono hb) (fun args W => by simp [callFunc, go_sem, Tryz.func357]; rfl) (fun b B m d r W hbW hr => phas1_any x w.heap.size b B m d r W hr ((hbW.cell (p := ⟨w.heap.size, 0, none⟩) (by simp)).trans (by simp)) (Nat.lt_of_lt_of_le (by simp) hbW.size))); have HB := hide hb; obtain ⟨q, hq⟩ : ∃ q, pathHas l x = q := ⟨_, rfl⟩
 have hq' : (l.any fun s => s.r.contains x) = q := hq; rw [hq'] at HI; rw [hq]; clear h hb hq hq'
 go_enter Tryz.func277, Tryz.ntmps277
 go_wp2_with fail
 refine HI.out.mono ?_; rintro e w1 ⟨rfl, hb1⟩; have HB1 := hide (btr HB.out hb1); clear hb1; go_wp2; go_ret; exact ⟨rfl, HB1.out⟩
set_option maxRecDepth 100000 in
set_option maxHeartbeats 4000000 in
theorem attrwell_own (X : AT) (v : Value) (w : World) (hv : AtR w X v) (h1 : attB X.has 1 = true) (h2 : attB X.has 2 = true) (h3 : attB X.has 3 = true) :
    Calls Tryz.prog 274 #[v] w fun e w' => e = .returned (.agg #[.int .i64 0, .int .i64 0, .slice none 0 0]) ∧ Below w.heap.size w w' := by
  obtain ⟨A, n, c, B, m, d, rfl, hP, hC⟩ := hv; obtain ⟨w1, hw1⟩ : ∃ w1, (w.alloc (.cells (aC X A n c B m d) 28)).alloc (.cells #[.int .i64 0, .int .i64 0, .slice none 0 0] 311) = w1 := ⟨_, rfl⟩
  have hb1 : Below w.heap.size w w1 := hw1 ▸ blkBelow2 w _ _; have HK : Hid (Blk w1 w.heap.size 28 (aC X A n c B m d)) := hide (hw1 ▸ (Blk.new w _ _).alloc _); have HZ : Hid (Blk w1 (w.heap.size + 1) 311 #[.int .i64 0, .int .i64 0, .slice none 0 0]) := hide (hw1 ▸ blk_new' _ _ (by simp))
  have HHs : Hid (∀ (k : Nat), 1 ≤ k → k ≤ 3 → ∀ W, Calls Tryz.prog 330 #[.agg #[.int .i64 X.has, .int .i64 X.org, .slice A n c, .int .u32 X.hop, .int .u32 X.med, .int .u32 X.pref, .int .u32 X.aas, .int .u32 X.aid, .slice B m d], .int .i64 (k : Int)] W (GoodP true W)) := hide (fun k hk1 hk3 W => by
    have hk : attB X.has k = true := by
      rcases (show k = 1 ∨ k = 2 ∨ k = 3 by omega) with rfl | rfl | rfl
      · exact h1
      · exact h2
      · exact h3
    have := attrHas_any k (by unfold K8; omega) X.has X.org A n c X.hop X.med X.pref X.aas X.aid B m d W; rw [hk] at this; exact this)
  have HB1 := hide hb1; have HW1 := hide hw1; clear hw1 hb1 hP hC h1 h2 h3
  go_enter Tryz.func274, Tryz.ntmps274
  go_wp2; rw [HW1.out]
  go_loopw [3] (fun iv wr => ∃ k : Nat, 1 ≤ k ∧ k ≤ 4 ∧ iv = .int .i64 (k : Nat) ∧ Below w1.heap.size w1 wr) (fun iv _ => 4 - (intOf iv).toNat)
  case atStart => exact ⟨1, Nat.le_refl _, by omega, rfl, Below.refl _ _⟩
  case round =>
    obtain ⟨k, hk1, hk4, rfl, hbel⟩ := hrel; have HBe := hide hbel; have hs1 := hbel.size; by_cases hlt : k ≤ 3
    · have HKr := hide (HK.out.below hbel HK.out.lt); obtain ⟨x0, x1, x2, x3, x4, x5, x6, x7, x8⟩ := blk9 HKr.out; have HHk := hide (fun W => HHs.out k hk1 hlt W); have e1 : decide ((k : Int) ≤ 3) = true := decide_eq_true (by omega); have hwq : IntKind.i64.wrap ((k : Int) + 1) = (k : Int) + 1 := (by rw [IntKind.wrap_i64]; omega)
      clear hbel
      go_wp2_with fail
      refine (HHk.out _).mono ?_; rintro e w3 ⟨rfl, hb3⟩; have HB3 := hide (HBe.out.trans (hb3.mono hs1)); clear hb3 x0 x1 x2 x3 x4 x5 x6 x7 x8; go_wp2
      go_roundw
      case rel => exact ⟨k + 1, by omega, by omega, by go_num, HB3.out⟩
      case measure => simp [intOf]; omega
    · have HZr := hide (HZ.out.below hbel HZ.out.lt); have z0 : wr.cell? ⟨w.heap.size + 1, 0, none⟩ = some (.int .i64 0) := HZr.out.cell 0; have z1 : wr.cell? ⟨w.heap.size + 1, 1, none⟩ = some (.int .i64 0) := HZr.out.cell 1; have z2 : wr.cell? ⟨w.heap.size + 1, 2, none⟩ = some (.slice none 0 0) := HZr.out.cell 2; have zf := fun i => HZr.out.frozen i; have e1 : decide ((k : Int) ≤ 3) = false := decide_eq_false (by omega); clear hbel; go_wp2; change bodyPost _ _ _ _ _ (wr.setCells (w.heap.size + 1) 0 [.int .i64 0, .int .i64 0, .slice none 0 0]); obtain ⟨wF, hwF⟩ : ∃ x, wr.setCells (w.heap.size + 1) 0 [.int .i64 0, .int .i64 0, .slice none 0 0] = x := ⟨_, rfl⟩
      have HFk := hide (hwF ▸ blk_sets [.int .i64 0, .int .i64 0, .slice none 0 0] [] [.int .i64 0, .int .i64 0, .slice none 0 0] HZr.out rfl : Blk wF (w.heap.size + 1) 311 #[.int .i64 0, .int .i64 0, .slice none 0 0]); have HFb : Hid (Below w.heap.size w wF) := hide (hwF ▸ below_clear (Nat.le_succ _) _ _ (btr HB1.out HBe.out)); rw [hwF]; clear hwF z0 z1 z2 zf; have y0 : wF.cell? ⟨w.heap.size + 1, 0, none⟩ = some (.int .i64 0) := HFk.out.cell 0; have y1 : wF.cell? ⟨w.heap.size + 1, 1, none⟩ = some (.int .i64 0) := HFk.out.cell 1; have y2 : wF.cell? ⟨w.heap.size + 1, 2, none⟩ = some (.slice none 0 0) := HFk.out.cell 2; refine bodyPost_ret (v := .agg #[.int .i64 0, .int .i64 0, .slice none 0 0]) (by simp [results, Tryz.results274, go_sem, y0, y1, y2]) rfl ⟨rfl, HFb.out⟩
theorem low_chg {α : Type} {sz : Nat} {t : TypeId} {R : World → List Value → α → Prop} {w w' : World} {B B' n c : Nat} {A : Option Addr} {l : List α} {xs : List Value} {S : Nat → Prop} (h : LOw sz t R w B B' A n c l xs) (hB : B' ≤ B) (hc : ChgS S w w') (hS : ∀ k, B' ≤ k → k < w.heap.size → ¬ S k) : LOw sz t R w' B B' A n c l xs := by
 refine ⟨⟨h.1.1, ?_⟩, h.2.1, fun k x hk => (h.2.2 k x hk).ag ⟨hc.size, fun k o h0 h1 _ _ => (hc.block k (heap_lt h1) (hS k h0 (heap_lt h1))).trans h1⟩⟩; rcases h.1.2 with h3 | ⟨g, cap, cur, e1, e2, e3, rest⟩
 ·exact .inl h3
 ·exact .inr ⟨g, cap, cur, e1, e2, (hc.block g (heap_lt e3) (hS g (by omega) (heap_lt e3))).trans e3, rest⟩
theorem frb_chg {R : World → Prop} {w w' : World} {B : Nat} {S : Nat → Prop} (h : FrB B none R w) (hc : ChgS S w w') (hS : ∀ k, B ≤ k → k < w.heap.size → ¬ S k) : FrB B none R w' :=
 h.ag ⟨hc.size, fun k o h0 h1 _ _ => (hc.block k (heap_lt h1) (hS k h0 (heap_lt h1))).trans h1⟩
theorem ato_chg {b : Nat} {w w' : World} {x : AT} {v : Value} {S : Nat → Prop} (h : AtO b w x v) (hc : ChgS S w w') (hS : ∀ k, b ≤ k → k < w.heap.size → ¬ S k) : AtO b w' x v := by
 obtain ⟨A, n, c, xs, B, m, d, e, h1, h2⟩ := h; exact ⟨A, n, c, xs, B, m, d, e, low_chg h1 (Nat.le_refl _) hc hS, frb_chg h2 hc hS⟩
def clrP (Y : AT) : AT := ⟨bits .andNot .i64 Y.has 32, Y.org, Y.path, Y.hop, Y.med, 0, Y.aas, Y.aid, Y.comms⟩
set_option maxRecDepth 100000 in
set_option maxHeartbeats 8000000 in
theorem Acc_of (own ax : Nat) (X Z : AT) (b : Bool) (v : Value) (w : World) (hv : AtR w X v) (hA : ∀ W, Below w.heap.size w W → Calls Tryz.prog 168 #[.int .u32 (own : Int), .int .u32 (ax : Int), v] W fun e w' => ∃ v', e = .returned (.tuple #[v', .bool b]) ∧ AtO W.heap.size w' Z v' ∧ Below W.heap.size W w') :
  Calls Tryz.prog 80 #[.int .u32 (own : Int), .int .u32 (ax : Int), v] w fun e w' => ∃ v', e = .returned (.tuple #[v', .bool b]) ∧ AtO w.heap.size w' Z v' ∧ Below w.heap.size w w' := by
 have HA := hide hA; obtain ⟨A, n, c, B, m, d, rfl, hP, hC⟩ := hv; obtain ⟨w0, hw0⟩ : ∃ w0, (w.alloc (.cells (aC X A n c B m d) 28)).alloc (.cells zeroA 28) = w0 := ⟨_, rfl⟩
 have hb0 : Below w.heap.size w w0 := hw0 ▸ blkBelow2 w _ _; have hs0 : w0.heap.size = w.heap.size + 2 := (by rw [← hw0]; simp)
 have HK : Hid (Blk w0 (w.heap.size) 28 (aC X A n c B m d)) := hide (hw0 ▸ (Blk.new w _ _).alloc _); have HZ : Hid (Blk w0 (w.heap.size + 1) 28 zeroA) := hide (hw0 ▸ blk_new' _ _ (by simp)); have HAc := hide (HA.out w0 hb0); have HB0 := hide hb0; have HS0 := hide hs0; have HW0 := hide hw0; clear hw0 hb0 hP hC hA HA hs0; obtain ⟨x0, x1, x2, x3, x4, x5, x6, x7, x8⟩ := blk9 HK.out
 go_enter Tryz.func80, Tryz.ntmps80
 go_wp2_with fail
 rw [HW0.out]; refine HAc.out.mono ?_; rintro e w1 ⟨v6, rfl, ⟨A6, n6, c6, xs6, B6, m6, d6, rfl, hl6, hu6⟩, hb1⟩; have HB1 := hide (btr HB0.out hb1); have HZ1 := hide (HZ.out.below hb1 HZ.out.lt); have HAt : Hid (AtO w0.heap.size w1 Z (.agg #[.int .i64 Z.has, .int .i64 Z.org, .slice A6 n6 c6, .int .u32 Z.hop, .int .u32 Z.med, .int .u32 Z.pref, .int .u32 Z.aas, .int .u32 Z.aid, .slice B6 m6 d6])) := hide ⟨A6, n6, c6, xs6, B6, m6, d6, rfl, hl6, hu6⟩; clear hb1 hl6 hu6 x0 x1 x2 x3 x4 x5 x6 x7 x8; obtain ⟨z0, z1, z2, z3, z4, z5, z6, z7, z8⟩ := blk9 HZ1.out; have zf := fun i => HZ1.out.frozen i; go_wp2; change bodyPost _ _ _ _ _ (w1.setCells (w.heap.size + 1) 0 (aL Z A6 n6 c6 B6 m6 d6)); obtain ⟨wF, hwF⟩ : ∃ x, w1.setCells (w.heap.size + 1) 0 (aL Z A6 n6 c6 B6 m6 d6) = x := ⟨_, rfl⟩
 have HFk := hide (hwF ▸ blk_sets (aL Z A6 n6 c6 B6 m6 d6) [] zeroL HZ1.out rfl : Blk wF (w.heap.size + 1) 28 (aC Z A6 n6 c6 B6 m6 d6)); have HFc : Hid (ChgS (fun k => k = w.heap.size + 1) w1 wF) := hide (hwF ▸ chg_sets (S := fun k => k = w.heap.size + 1) rfl [.int .i64 Z.has, .int .i64 Z.org, .slice A6 n6 c6, .int .u32 Z.hop, .int .u32 Z.med, .int .u32 Z.pref, .int .u32 Z.aas, .int .u32 Z.aid, .slice B6 m6 d6] 0); have HFb : Hid (Below w.heap.size w wF) := hide (chg_to_below (chg_trans (chg_below (S := fun k => w.heap.size ≤ k) HB1.out) HFc.out (fun k h => .inl (by omega))) (Nat.le_refl _) (fun k h => h)); rw [hwF]; clear hwF zf z0 z1 z2 z3 z4 z5 z6 z7 z8; obtain ⟨q0, q1, q2, q3, q4, q5, q6, q7, q8⟩ := blk9 HFk.out; have hAF := ato_chg HAt.out HFc.out (fun k h1 h2 h3 => by have := HS0.out; omega); have hAC : AtO w.heap.size wF Z (.agg #[.int .i64 Z.has, .int .i64 Z.org, .slice A6 n6 c6, .int .u32 Z.hop, .int .u32 Z.med, .int .u32 Z.pref, .int .u32 Z.aas, .int .u32 Z.aid, .slice B6 m6 d6]) := hAF.less (by have := HS0.out; omega); refine bodyPost_ret (v := .tuple #[.agg #[.int .i64 Z.has, .int .i64 Z.org, .slice A6 n6 c6, .int .u32 Z.hop, .int .u32 Z.med, .int .u32 Z.pref, .int .u32 Z.aas, .int .u32 Z.aid, .slice B6 m6 d6], .bool b]) (by simp [results, Tryz.results80, go_sem, q0, q1, q2, q3, q4, q5, q6, q7, q8]) rfl ⟨_, rfl, hAC, HFb.out⟩
def pfirstF (l : List SG) : Option Nat := match l with
  | [] => none
  | z :: _ => if z.k = 2 then z.r.head? else none
set_option maxRecDepth 100000 in
set_option maxHeartbeats 4000000 in
theorem pfirst_none (A : Option Addr) (n c : Nat) (l : List SG) (w : World) (h : LstAt 2 sgR w A n c l) (hf : pfirstF l = none) :
    Calls Tryz.prog 276 #[.slice A n c] w fun e w' => e = .returned (.tuple #[.int .u32 0, .bool false]) ∧ w' = w := by
  have hln := h.1
  have HEnd : Hid (Calls Tryz.prog 355 #[.slice A n c, .bool false] w fun e w' => e = .returned (.tuple #[.int .u32 0, .bool false]) ∧ w' = w) := hide (by
    by_cases hn0 : n = 0
    · subst hn0; clear h hf hln
      go_enter Tryz.func355, Tryz.ntmps355
      go_wp2
      go_ret2
      exact ⟨rfl, rfl⟩
    · obtain ⟨g, o, b, B, m, d, r, rfl, hg, hx, hr, hc0, hc1⟩ := SGat h (show 0 < n by omega); have k0 : w.cell? ⟨g, o, none⟩ = some (.int .i64 b) := (by simpa using hc0)
      have k1 : w.cell? ⟨g, o + 1, none⟩ = some (.slice B m d) := (by simpa using hc1)
      have e1 : ((n : Int) == 0) = false := (by simp; omega)
      have n0 : (0 : Int) < (n : Int) := (by omega)
      by_cases hb : b = 2
      · subst hb
        have hm : m = 0 := by
          cases l with
          | nil => simp at hx
          | cons z l =>
            simp only [List.getElem?_cons_zero, Option.some.injEq] at hx; subst hx; unfold pfirstF at hf; simp only [if_pos] at hf
            cases r with
            | nil => exact hr.1.symm
            | cons y r => simp at hf
        subst hm; clear h hf hln hc0 hc1 hr hx
        go_enter Tryz.func355, Tryz.ntmps355
        go_wp2
        go_ret2
        exact ⟨rfl, rfl⟩
      · have e2 : (b == 2) = false := (by simpa using hb)
        clear h hf hln hc0 hc1 hr hx hb
        go_enter Tryz.func355, Tryz.ntmps355
        go_wp2
        go_ret2
        exact ⟨rfl, rfl⟩)
  clear h hf hln
  go_enter Tryz.func276, Tryz.ntmps276
  go_wp2_with fail
  refine HEnd.out.mono ?_; rintro e w1 ⟨rfl, rfl⟩; go_wp2
  go_ret2
  exact ⟨rfl, rfl⟩
theorem pfirst_any (A : Option Addr) (n c : Nat) (l : List SG) (w : World) (h : LstAt 2 sgR w A n c l) :
  Calls Tryz.prog 276 #[.slice A n c] w fun e w' => (∃ x, pfirstF l = some x ∧ e = .returned (.tuple #[.int .u32 ((x : Nat) : Int), .bool true]) ∨ pfirstF l = none ∧ e = .returned (.tuple #[.int .u32 0, .bool false])) ∧ w' = w := by
 cases hf : pfirstF l with
 | none => exact (pfirst_none A n c l w h hf).mono fun e w' ⟨h1, h2⟩ => ⟨⟨0, .inr ⟨rfl, h1⟩⟩, h2⟩
 | some x =>
  obtain ⟨r, l2, e⟩ : ∃ r l2, l = ⟨2, x :: r⟩ :: l2 := by
   cases l with
   | nil => simp [pfirstF] at hf
   | cons z l =>
    unfold pfirstF at hf; obtain ⟨k, r⟩ := z; by_cases hk : k = 2
    ·subst hk; simp only [if_pos] at hf
     cases r with
     | nil => simp at hf
     | cons y r =>
      simp only [List.head?_cons, Option.some.injEq] at hf; subst hf; exact ⟨r, l, rfl⟩
    ·simp only [hk, if_false] at hf
     cases hf
  subst e; exact (pfirst_seq A n c x r l2 w h).mono fun e w' ⟨h1, h2⟩ => ⟨⟨x, .inl ⟨rfl, h1⟩⟩, h2⟩
def pfirstR (l : List SG) (x : Nat) (b : Bool) : Prop := (b = true ∧ pfirstF l = some x) ∨ (b = false ∧ x = 0 ∧ pfirstF l = none)
theorem pfirstR_any (A : Option Addr) (n c : Nat) (l : List SG) (x : Nat) (b : Bool) (w : World) (h : LstAt 2 sgR w A n c l) (hr : pfirstR l x b) :
  Calls Tryz.prog 276 #[.slice A n c] w fun e w' => e = .returned (.tuple #[.int .u32 (x : Int), .bool b]) ∧ w' = w := by
 refine (pfirst_any A n c l w h).mono fun e w' hq => ?_; obtain ⟨⟨y, h1⟩, h2⟩ := hq; rcases hr with ⟨rfl, hr⟩ | ⟨rfl, rfl, hr⟩
 ·rcases h1 with ⟨hy, he⟩ | ⟨hy, he⟩
  ·rw [hr] at hy; injection hy with hy
   subst hy; exact ⟨he, h2⟩
  ·rw [hr] at hy
   cases hy
 ·rcases h1 with ⟨hy, he⟩ | ⟨hy, he⟩
  ·rw [hr] at hy
   cases hy
  ·exact ⟨he, h2⟩
def setP (Y : AT) : AT := ⟨bits .or .i64 Y.has 32, Y.org, Y.path, Y.hop, Y.med, 100, Y.aas, Y.aid, Y.comms⟩
set_option maxRecDepth 100000 in
set_option maxHeartbeats 8000000 in
theorem acc_hasg (own ax : Nat) (X Y : AT) (FX : Nat) (FB : Bool) (v : Value) (w : World) (hv : AtR w X v) (hn : numS X.path ≤ 10000) (hm : X.comms.length ≤ 10000) (hY : normA X = Y) (hf : pfirstR X.path FX FB) (hh : pathHas X.path own = true) :
  Calls Tryz.prog 168 #[.int .u32 (own : Int), .int .u32 (ax : Int), v] w fun e w' => ∃ v', e = .returned (.tuple #[v', .bool false]) ∧ AtO w.heap.size w' Y v' ∧ Below w.heap.size w w' := by
 obtain ⟨A, n, c, B, m, d, rfl, hP, hC⟩ := hv; obtain ⟨w0, hw0⟩ : ∃ w0, (w.alloc (.cells (aC X A n c B m d) 28)).alloc (.cells zeroA 28) = w0 := ⟨_, rfl⟩
 have hb0 : Below w.heap.size w w0 := hw0 ▸ blkBelow2 w _ _; have hs0 : w0.heap.size = w.heap.size + 2 := (by rw [← hw0]; simp)
 have HK : Hid (Blk w0 (w.heap.size) 28 (aC X A n c B m d)) := hide (hw0 ▸ (Blk.new w _ _).alloc _); have HZ : Hid (Blk w0 (w.heap.size + 1) 28 zeroA) := hide (hw0 ▸ blk_new' _ _ (by simp)); have HNm := hide (attrNormX_any X (atV X.has X.org A n c X.hop X.med X.pref X.aas X.aid B m d) w0 ⟨A, n, c, B, m, d, rfl, hP.below sgMono hb0, hC.below hb0⟩ hn hm); rw [hY] at HNm; have HFi : Hid (∀ W, Below w.heap.size w W → Calls Tryz.prog 276 #[.slice A n c] W fun e w' => e = .returned (.tuple #[.int .u32 (FX : Int), .bool FB]) ∧ w' = W) := hide (fun W hb => pfirstR_any A n c X.path FX FB W (hP.below sgMono hb) hf); have HHa := hide (fun W (hb : Below w.heap.size w W) => pathHas_any A n c X.path own W (hP.below sgMono hb)); rw [hh] at HHa; have HB0 := hide hb0; have HS0 := hide hs0; have HW0 := hide hw0
 clear hw0 hb0 hP hC hn hm hY hf hh hs0; obtain ⟨x0, x1, x2, x3, x4, x5, x6, x7, x8⟩ := blk9 HK.out
 go_enter Tryz.func168, Tryz.ntmps168
 go_wp2_with fail
 rw [HW0.out]; refine HNm.out.mono ?_; rintro e w1 ⟨v6, rfl, ⟨A6, n6, c6, xs6, B6, m6, d6, rfl, hl6, hu6⟩, hb1⟩; obtain ⟨w2, hw2⟩ : ∃ W, w1.alloc (.cells (aC Y A6 n6 c6 B6 m6 d6) 28) = W := ⟨_, rfl⟩
 have hb2 : Below w1.heap.size w1 w2 := hw2 ▸ blkBelow1 w1 _; have HY2 : Hid (Blk w2 w1.heap.size 28 (aC Y A6 n6 c6 B6 m6 d6)) := hide (hw2 ▸ Blk.new w1 _ _); have HB1 := hide (btr HB0.out hb1); have HB2 := hide (btr HB1.out hb2); have HK1 := hide (HK.out.below hb1 HK.out.lt); have HK2 := hide (HK1.out.below hb2 HK1.out.lt); have HZ1 := hide (HZ.out.below hb1 HZ.out.lt); have HZ2 := hide (HZ1.out.below hb2 HZ1.out.lt); have HAt : Hid (AtO w0.heap.size w1 Y (atV Y.has Y.org A6 n6 c6 Y.hop Y.med Y.pref Y.aas Y.aid B6 m6 d6)) := hide ⟨A6, n6, c6, xs6, B6, m6, d6, rfl, hl6, hu6⟩; have HW2 := hide hw2; have HS1 := hide hb1.size; have HBe2 := hide hb2; clear hw2 hb1 hb2 hl6 hu6 x0 x1 x2 x3 x4 x5 x6 x7 x8; obtain ⟨x0, x1, x2, x3, x4, x5, x6, x7, x8⟩ := blk9 HK2.out
 go_upto_region 2 with fail
 rw [HW2.out]
 go_wp2_with fail
 refine (HFi.out _ HB2.out).mono ?_; rintro e w3 ⟨rfl, rfl⟩
 go_wp2_with fail
 refine (HHa.out _ HB2.out).mono ?_; rintro e w4 ⟨rfl, hb4⟩; have HY4 := hide (HY2.out.below hb4 HY2.out.lt); have HZ4 := hide (HZ2.out.below hb4 HZ2.out.lt); have HC4 : Hid (ChgS (fun _ => False) w1 w4) := hide (chg_below (btr HBe2.out hb4)); have hso : w.heap.size + 1 < w1.heap.size := (by have := HS1.out; have := HS0.out; omega)
 clear hb4 x0 x1 x2 x3 x4 x5 x6 x7 x8; obtain ⟨y0, y1, y2, y3, y4, y5, y6, y7, y8⟩ := blk9 HY4.out; obtain ⟨z0, z1, z2, z3, z4, z5, z6, z7, z8⟩ := blk9 HZ4.out; have zf := fun i => HZ4.out.frozen i; go_wp2; change bodyPost _ _ _ _ _ (w4.setCells (w.heap.size + 1) 0 (aL Y A6 n6 c6 B6 m6 d6)); obtain ⟨wF, hwF⟩ : ∃ x, w4.setCells (w.heap.size + 1) 0 (aL Y A6 n6 c6 B6 m6 d6) = x := ⟨_, rfl⟩
 have HFk := hide (hwF ▸ blk_sets (aL Y A6 n6 c6 B6 m6 d6) [] zeroL HZ4.out rfl : Blk wF (w.heap.size + 1) 28 (aC Y A6 n6 c6 B6 m6 d6)); have HFc : Hid (ChgS (fun k => k = w.heap.size + 1) w1 wF) := hide (hwF ▸ chg_trans (chg_mono HC4.out (fun k h => h.elim)) (chg_sets (S := fun k => k = w.heap.size + 1) rfl [.int .i64 Y.has, .int .i64 Y.org, .slice A6 n6 c6, .int .u32 Y.hop, .int .u32 Y.med, .int .u32 Y.pref, .int .u32 Y.aas, .int .u32 Y.aid, .slice B6 m6 d6] 0) (fun k h => .inl h)); have HFb : Hid (Below w.heap.size w wF) := hide (chg_to_below (chg_trans (chg_below (S := fun k => w.heap.size ≤ k) HB1.out) HFc.out (fun k h => .inl (by omega))) (Nat.le_refl _) (fun k h => h)); rw [hwF]; clear hwF zf y0 y1 y2 y3 y4 y5 y6 y7 y8 z0 z1 z2 z3 z4 z5 z6 z7 z8; obtain ⟨q0, q1, q2, q3, q4, q5, q6, q7, q8⟩ := blk9 HFk.out; have hAF := ato_chg HAt.out HFc.out (fun k h1 h2 h3 => by have := HS0.out; omega); have hAC : AtO w.heap.size wF Y (.agg #[.int .i64 Y.has, .int .i64 Y.org, .slice A6 n6 c6, .int .u32 Y.hop, .int .u32 Y.med, .int .u32 Y.pref, .int .u32 Y.aas, .int .u32 Y.aid, .slice B6 m6 d6]) := hAF.less (by have := HS0.out; omega); refine bodyPost_ret (v := .tuple #[.agg #[.int .i64 Y.has, .int .i64 Y.org, .slice A6 n6 c6, .int .u32 Y.hop, .int .u32 Y.med, .int .u32 Y.pref, .int .u32 Y.aas, .int .u32 Y.aid, .slice B6 m6 d6], .bool false]) (by simp [results, Tryz.results168, go_sem, q0, q1, q2, q3, q4, q5, q6, q7, q8]) rfl ⟨_, rfl, hAC, HFb.out⟩
set_option maxRecDepth 100000 in
set_option maxHeartbeats 8000000 in
theorem acc_nof (own ax : Nat) (X Y : AT) (FX : Nat)  (v : Value) (w : World) (hv : AtR w X v) (hn : numS X.path ≤ 10000) (hm : X.comms.length ≤ 10000) (hY : normA X = Y) (hf : pfirstR X.path FX false) (hh : pathHas X.path own = false) (hne : own ≠ ax) :
  Calls Tryz.prog 168 #[.int .u32 (own : Int), .int .u32 (ax : Int), v] w fun e w' => ∃ v', e = .returned (.tuple #[v', .bool false]) ∧ AtO w.heap.size w' Y v' ∧ Below w.heap.size w w' := by
 obtain ⟨A, n, c, B, m, d, rfl, hP, hC⟩ := hv; obtain ⟨w0, hw0⟩ : ∃ w0, (w.alloc (.cells (aC X A n c B m d) 28)).alloc (.cells zeroA 28) = w0 := ⟨_, rfl⟩
 have hb0 : Below w.heap.size w w0 := hw0 ▸ blkBelow2 w _ _; have hs0 : w0.heap.size = w.heap.size + 2 := (by rw [← hw0]; simp)
 have HK : Hid (Blk w0 (w.heap.size) 28 (aC X A n c B m d)) := hide (hw0 ▸ (Blk.new w _ _).alloc _); have HZ : Hid (Blk w0 (w.heap.size + 1) 28 zeroA) := hide (hw0 ▸ blk_new' _ _ (by simp)); have HNm := hide (attrNormX_any X (atV X.has X.org A n c X.hop X.med X.pref X.aas X.aid B m d) w0 ⟨A, n, c, B, m, d, rfl, hP.below sgMono hb0, hC.below hb0⟩ hn hm); rw [hY] at HNm; have HFi : Hid (∀ W, Below w.heap.size w W → Calls Tryz.prog 276 #[.slice A n c] W fun e w' => e = .returned (.tuple #[.int .u32 (FX : Int), .bool false]) ∧ w' = W) := hide (fun W hb => pfirstR_any A n c X.path FX false W (hP.below sgMono hb) hf); have HHa := hide (fun W (hb : Below w.heap.size w W) => pathHas_any A n c X.path own W (hP.below sgMono hb)); rw [hh] at HHa; have HB0 := hide hb0; have HS0 := hide hs0; have HW0 := hide hw0; have e1 : ((own : Int) != (ax : Int)) = true := (by simp; omega)
 clear hw0 hb0 hP hC hn hm hY hf hh hs0 hne; obtain ⟨x0, x1, x2, x3, x4, x5, x6, x7, x8⟩ := blk9 HK.out
 go_enter Tryz.func168, Tryz.ntmps168
 go_wp2_with fail
 rw [HW0.out]; refine HNm.out.mono ?_; rintro e w1 ⟨v6, rfl, ⟨A6, n6, c6, xs6, B6, m6, d6, rfl, hl6, hu6⟩, hb1⟩; obtain ⟨w2, hw2⟩ : ∃ W, w1.alloc (.cells (aC Y A6 n6 c6 B6 m6 d6) 28) = W := ⟨_, rfl⟩
 have hb2 : Below w1.heap.size w1 w2 := hw2 ▸ blkBelow1 w1 _; have HY2 : Hid (Blk w2 w1.heap.size 28 (aC Y A6 n6 c6 B6 m6 d6)) := hide (hw2 ▸ Blk.new w1 _ _); have HB1 := hide (btr HB0.out hb1); have HB2 := hide (btr HB1.out hb2); have HK1 := hide (HK.out.below hb1 HK.out.lt); have HK2 := hide (HK1.out.below hb2 HK1.out.lt); have HZ1 := hide (HZ.out.below hb1 HZ.out.lt); have HZ2 := hide (HZ1.out.below hb2 HZ1.out.lt); have HAt : Hid (AtO w0.heap.size w1 Y (atV Y.has Y.org A6 n6 c6 Y.hop Y.med Y.pref Y.aas Y.aid B6 m6 d6)) := hide ⟨A6, n6, c6, xs6, B6, m6, d6, rfl, hl6, hu6⟩; have HW2 := hide hw2; have HS1 := hide hb1.size; have HBe2 := hide hb2; clear hw2 hb1 hb2 hl6 hu6 x0 x1 x2 x3 x4 x5 x6 x7 x8; obtain ⟨x0, x1, x2, x3, x4, x5, x6, x7, x8⟩ := blk9 HK2.out
 go_upto_region 2 with fail
 rw [HW2.out]
 go_wp2_with fail
 refine (HFi.out _ HB2.out).mono ?_; rintro e w3 ⟨rfl, rfl⟩
 go_wp2_with fail
 refine (HHa.out _ HB2.out).mono ?_; rintro e w4 ⟨rfl, hb4⟩; have HY4 := hide (HY2.out.below hb4 HY2.out.lt); have HZ4 := hide (HZ2.out.below hb4 HZ2.out.lt); have HC4 : Hid (ChgS (fun _ => False) w1 w4) := hide (chg_below (btr HBe2.out hb4)); have hso : w.heap.size + 1 < w1.heap.size := (by have := HS1.out; have := HS0.out; omega)
 clear hb4 x0 x1 x2 x3 x4 x5 x6 x7 x8; obtain ⟨y0, y1, y2, y3, y4, y5, y6, y7, y8⟩ := blk9 HY4.out; obtain ⟨z0, z1, z2, z3, z4, z5, z6, z7, z8⟩ := blk9 HZ4.out; have zf := fun i => HZ4.out.frozen i; go_wp2; change bodyPost _ _ _ _ _ (w4.setCells (w.heap.size + 1) 0 (aL Y A6 n6 c6 B6 m6 d6)); obtain ⟨wF, hwF⟩ : ∃ x, w4.setCells (w.heap.size + 1) 0 (aL Y A6 n6 c6 B6 m6 d6) = x := ⟨_, rfl⟩
 have HFk := hide (hwF ▸ blk_sets (aL Y A6 n6 c6 B6 m6 d6) [] zeroL HZ4.out rfl : Blk wF (w.heap.size + 1) 28 (aC Y A6 n6 c6 B6 m6 d6)); have HFc : Hid (ChgS (fun k => k = w.heap.size + 1) w1 wF) := hide (hwF ▸ chg_trans (chg_mono HC4.out (fun k h => h.elim)) (chg_sets (S := fun k => k = w.heap.size + 1) rfl [.int .i64 Y.has, .int .i64 Y.org, .slice A6 n6 c6, .int .u32 Y.hop, .int .u32 Y.med, .int .u32 Y.pref, .int .u32 Y.aas, .int .u32 Y.aid, .slice B6 m6 d6] 0) (fun k h => .inl h)); have HFb : Hid (Below w.heap.size w wF) := hide (chg_to_below (chg_trans (chg_below (S := fun k => w.heap.size ≤ k) HB1.out) HFc.out (fun k h => .inl (by omega))) (Nat.le_refl _) (fun k h => h)); rw [hwF]; clear hwF zf y0 y1 y2 y3 y4 y5 y6 y7 y8 z0 z1 z2 z3 z4 z5 z6 z7 z8; obtain ⟨q0, q1, q2, q3, q4, q5, q6, q7, q8⟩ := blk9 HFk.out; have hAF := ato_chg HAt.out HFc.out (fun k h1 h2 h3 => by have := HS0.out; omega); have hAC : AtO w.heap.size wF Y (.agg #[.int .i64 Y.has, .int .i64 Y.org, .slice A6 n6 c6, .int .u32 Y.hop, .int .u32 Y.med, .int .u32 Y.pref, .int .u32 Y.aas, .int .u32 Y.aid, .slice B6 m6 d6]) := hAF.less (by have := HS0.out; omega); refine bodyPost_ret (v := .tuple #[.agg #[.int .i64 Y.has, .int .i64 Y.org, .slice A6 n6 c6, .int .u32 Y.hop, .int .u32 Y.med, .int .u32 Y.pref, .int .u32 Y.aas, .int .u32 Y.aid, .slice B6 m6 d6], .bool false]) (by simp [results, Tryz.results168, go_sem, q0, q1, q2, q3, q4, q5, q6, q7, q8]) rfl ⟨_, rfl, hAC, HFb.out⟩
set_option maxRecDepth 100000 in
set_option maxHeartbeats 8000000 in
theorem acc_oth (own ax : Nat) (X Y : AT) (FX : Nat)  (v : Value) (w : World) (hv : AtR w X v) (hn : numS X.path ≤ 10000) (hm : X.comms.length ≤ 10000) (hY : normA X = Y) (hf : pfirstR X.path FX true) (hh : pathHas X.path own = false) (hne : own ≠ ax) (hfx : FX ≠ ax) :
  Calls Tryz.prog 168 #[.int .u32 (own : Int), .int .u32 (ax : Int), v] w fun e w' => ∃ v', e = .returned (.tuple #[v', .bool false]) ∧ AtO w.heap.size w' Y v' ∧ Below w.heap.size w w' := by
 obtain ⟨A, n, c, B, m, d, rfl, hP, hC⟩ := hv; obtain ⟨w0, hw0⟩ : ∃ w0, (w.alloc (.cells (aC X A n c B m d) 28)).alloc (.cells zeroA 28) = w0 := ⟨_, rfl⟩
 have hb0 : Below w.heap.size w w0 := hw0 ▸ blkBelow2 w _ _; have hs0 : w0.heap.size = w.heap.size + 2 := (by rw [← hw0]; simp)
 have HK : Hid (Blk w0 (w.heap.size) 28 (aC X A n c B m d)) := hide (hw0 ▸ (Blk.new w _ _).alloc _); have HZ : Hid (Blk w0 (w.heap.size + 1) 28 zeroA) := hide (hw0 ▸ blk_new' _ _ (by simp)); have HNm := hide (attrNormX_any X (atV X.has X.org A n c X.hop X.med X.pref X.aas X.aid B m d) w0 ⟨A, n, c, B, m, d, rfl, hP.below sgMono hb0, hC.below hb0⟩ hn hm); rw [hY] at HNm; have HFi : Hid (∀ W, Below w.heap.size w W → Calls Tryz.prog 276 #[.slice A n c] W fun e w' => e = .returned (.tuple #[.int .u32 (FX : Int), .bool true]) ∧ w' = W) := hide (fun W hb => pfirstR_any A n c X.path FX true W (hP.below sgMono hb) hf); have HHa := hide (fun W (hb : Below w.heap.size w W) => pathHas_any A n c X.path own W (hP.below sgMono hb)); rw [hh] at HHa; have HB0 := hide hb0; have HS0 := hide hs0; have HW0 := hide hw0; have e1 : ((own : Int) != (ax : Int)) = true := (by simp; omega)
 have e2 : ((FX : Int) != (ax : Int)) = true := (by simp; omega)
 clear hw0 hb0 hP hC hn hm hY hf hh hs0 hne hfx; obtain ⟨x0, x1, x2, x3, x4, x5, x6, x7, x8⟩ := blk9 HK.out
 go_enter Tryz.func168, Tryz.ntmps168
 go_wp2_with fail
 rw [HW0.out]; refine HNm.out.mono ?_; rintro e w1 ⟨v6, rfl, ⟨A6, n6, c6, xs6, B6, m6, d6, rfl, hl6, hu6⟩, hb1⟩; obtain ⟨w2, hw2⟩ : ∃ W, w1.alloc (.cells (aC Y A6 n6 c6 B6 m6 d6) 28) = W := ⟨_, rfl⟩
 have hb2 : Below w1.heap.size w1 w2 := hw2 ▸ blkBelow1 w1 _; have HY2 : Hid (Blk w2 w1.heap.size 28 (aC Y A6 n6 c6 B6 m6 d6)) := hide (hw2 ▸ Blk.new w1 _ _); have HB1 := hide (btr HB0.out hb1); have HB2 := hide (btr HB1.out hb2); have HK1 := hide (HK.out.below hb1 HK.out.lt); have HK2 := hide (HK1.out.below hb2 HK1.out.lt); have HZ1 := hide (HZ.out.below hb1 HZ.out.lt); have HZ2 := hide (HZ1.out.below hb2 HZ1.out.lt); have HAt : Hid (AtO w0.heap.size w1 Y (atV Y.has Y.org A6 n6 c6 Y.hop Y.med Y.pref Y.aas Y.aid B6 m6 d6)) := hide ⟨A6, n6, c6, xs6, B6, m6, d6, rfl, hl6, hu6⟩; have HW2 := hide hw2; have HS1 := hide hb1.size; have HBe2 := hide hb2; clear hw2 hb1 hb2 hl6 hu6 x0 x1 x2 x3 x4 x5 x6 x7 x8; obtain ⟨x0, x1, x2, x3, x4, x5, x6, x7, x8⟩ := blk9 HK2.out
 go_upto_region 2 with fail
 rw [HW2.out]
 go_wp2_with fail
 refine (HFi.out _ HB2.out).mono ?_; rintro e w3 ⟨rfl, rfl⟩
 go_wp2_with fail
 refine (HHa.out _ HB2.out).mono ?_; rintro e w4 ⟨rfl, hb4⟩; have HY4 := hide (HY2.out.below hb4 HY2.out.lt); have HZ4 := hide (HZ2.out.below hb4 HZ2.out.lt); have HC4 : Hid (ChgS (fun _ => False) w1 w4) := hide (chg_below (btr HBe2.out hb4)); have hso : w.heap.size + 1 < w1.heap.size := (by have := HS1.out; have := HS0.out; omega)
 clear hb4 x0 x1 x2 x3 x4 x5 x6 x7 x8; obtain ⟨y0, y1, y2, y3, y4, y5, y6, y7, y8⟩ := blk9 HY4.out; obtain ⟨z0, z1, z2, z3, z4, z5, z6, z7, z8⟩ := blk9 HZ4.out; have zf := fun i => HZ4.out.frozen i; go_wp2; change bodyPost _ _ _ _ _ (w4.setCells (w.heap.size + 1) 0 (aL Y A6 n6 c6 B6 m6 d6)); obtain ⟨wF, hwF⟩ : ∃ x, w4.setCells (w.heap.size + 1) 0 (aL Y A6 n6 c6 B6 m6 d6) = x := ⟨_, rfl⟩
 have HFk := hide (hwF ▸ blk_sets (aL Y A6 n6 c6 B6 m6 d6) [] zeroL HZ4.out rfl : Blk wF (w.heap.size + 1) 28 (aC Y A6 n6 c6 B6 m6 d6)); have HFc : Hid (ChgS (fun k => k = w.heap.size + 1) w1 wF) := hide (hwF ▸ chg_trans (chg_mono HC4.out (fun k h => h.elim)) (chg_sets (S := fun k => k = w.heap.size + 1) rfl [.int .i64 Y.has, .int .i64 Y.org, .slice A6 n6 c6, .int .u32 Y.hop, .int .u32 Y.med, .int .u32 Y.pref, .int .u32 Y.aas, .int .u32 Y.aid, .slice B6 m6 d6] 0) (fun k h => .inl h)); have HFb : Hid (Below w.heap.size w wF) := hide (chg_to_below (chg_trans (chg_below (S := fun k => w.heap.size ≤ k) HB1.out) HFc.out (fun k h => .inl (by omega))) (Nat.le_refl _) (fun k h => h)); rw [hwF]; clear hwF zf y0 y1 y2 y3 y4 y5 y6 y7 y8 z0 z1 z2 z3 z4 z5 z6 z7 z8; obtain ⟨q0, q1, q2, q3, q4, q5, q6, q7, q8⟩ := blk9 HFk.out; have hAF := ato_chg HAt.out HFc.out (fun k h1 h2 h3 => by have := HS0.out; omega); have hAC : AtO w.heap.size wF Y (.agg #[.int .i64 Y.has, .int .i64 Y.org, .slice A6 n6 c6, .int .u32 Y.hop, .int .u32 Y.med, .int .u32 Y.pref, .int .u32 Y.aas, .int .u32 Y.aid, .slice B6 m6 d6]) := hAF.less (by have := HS0.out; omega); refine bodyPost_ret (v := .tuple #[.agg #[.int .i64 Y.has, .int .i64 Y.org, .slice A6 n6 c6, .int .u32 Y.hop, .int .u32 Y.med, .int .u32 Y.pref, .int .u32 Y.aas, .int .u32 Y.aid, .slice B6 m6 d6], .bool false]) (by simp [results, Tryz.results168, go_sem, q0, q1, q2, q3, q4, q5, q6, q7, q8]) rfl ⟨_, rfl, hAC, HFb.out⟩
set_option maxRecDepth 100000 in
set_option maxHeartbeats 8000000 in
theorem acc_pre (own : Nat) (X Y : AT) (FX : Nat) (FB : Bool) (v : Value) (w : World) (hv : AtR w X v) (hn : numS X.path ≤ 10000) (hm : X.comms.length ≤ 10000) (hY : normA X = Y) (hf : pfirstR X.path FX FB) (hh : pathHas X.path own = false) (hp : bits .and .i64 Y.has 32 ≠ 0) :
  Calls Tryz.prog 168 #[.int .u32 (own : Int), .int .u32 (own : Int), v] w fun e w' => ∃ v', e = .returned (.tuple #[v', .bool true]) ∧ AtO w.heap.size w' Y v' ∧ Below w.heap.size w w' := by
 obtain ⟨A, n, c, B, m, d, rfl, hP, hC⟩ := hv; obtain ⟨w0, hw0⟩ : ∃ w0, (w.alloc (.cells (aC X A n c B m d) 28)).alloc (.cells zeroA 28) = w0 := ⟨_, rfl⟩
 have hb0 : Below w.heap.size w w0 := hw0 ▸ blkBelow2 w _ _; have hs0 : w0.heap.size = w.heap.size + 2 := (by rw [← hw0]; simp)
 have HK : Hid (Blk w0 (w.heap.size) 28 (aC X A n c B m d)) := hide (hw0 ▸ (Blk.new w _ _).alloc _); have HZ : Hid (Blk w0 (w.heap.size + 1) 28 zeroA) := hide (hw0 ▸ blk_new' _ _ (by simp)); have HNm := hide (attrNormX_any X (atV X.has X.org A n c X.hop X.med X.pref X.aas X.aid B m d) w0 ⟨A, n, c, B, m, d, rfl, hP.below sgMono hb0, hC.below hb0⟩ hn hm); rw [hY] at HNm; have HFi : Hid (∀ W, Below w.heap.size w W → Calls Tryz.prog 276 #[.slice A n c] W fun e w' => e = .returned (.tuple #[.int .u32 (FX : Int), .bool FB]) ∧ w' = W) := hide (fun W hb => pfirstR_any A n c X.path FX FB W (hP.below sgMono hb) hf); have HHa := hide (fun W (hb : Below w.heap.size w W) => pathHas_any A n c X.path own W (hP.below sgMono hb)); rw [hh] at HHa; have HB0 := hide hb0; have HS0 := hide hs0; have HW0 := hide hw0; have e1 : ((own : Int) != (own : Int)) = false := (by simp)
 have e3 : (bits .and .i64 Y.has 32 == 0) = false := (by simpa using hp)
 have e4 : decide (bits .and .i64 Y.has 32 = 0) = false := decide_eq_false hp; clear hw0 hb0 hP hC hn hm hY hf hh hs0 hp; obtain ⟨x0, x1, x2, x3, x4, x5, x6, x7, x8⟩ := blk9 HK.out
 go_enter Tryz.func168, Tryz.ntmps168
 go_wp2_with fail
 rw [HW0.out]; refine HNm.out.mono ?_; rintro e w1 ⟨v6, rfl, ⟨A6, n6, c6, xs6, B6, m6, d6, rfl, hl6, hu6⟩, hb1⟩; obtain ⟨w2, hw2⟩ : ∃ W, w1.alloc (.cells (aC Y A6 n6 c6 B6 m6 d6) 28) = W := ⟨_, rfl⟩
 have hb2 : Below w1.heap.size w1 w2 := hw2 ▸ blkBelow1 w1 _; have HY2 : Hid (Blk w2 w1.heap.size 28 (aC Y A6 n6 c6 B6 m6 d6)) := hide (hw2 ▸ Blk.new w1 _ _); have HB1 := hide (btr HB0.out hb1); have HB2 := hide (btr HB1.out hb2); have HK1 := hide (HK.out.below hb1 HK.out.lt); have HK2 := hide (HK1.out.below hb2 HK1.out.lt); have HZ1 := hide (HZ.out.below hb1 HZ.out.lt); have HZ2 := hide (HZ1.out.below hb2 HZ1.out.lt); have HAt : Hid (AtO w0.heap.size w1 Y (atV Y.has Y.org A6 n6 c6 Y.hop Y.med Y.pref Y.aas Y.aid B6 m6 d6)) := hide ⟨A6, n6, c6, xs6, B6, m6, d6, rfl, hl6, hu6⟩; have HW2 := hide hw2; have HS1 := hide hb1.size; have HBe2 := hide hb2; clear hw2 hb1 hb2 hl6 hu6 x0 x1 x2 x3 x4 x5 x6 x7 x8; obtain ⟨x0, x1, x2, x3, x4, x5, x6, x7, x8⟩ := blk9 HK2.out
 go_upto_region 2 with fail
 rw [HW2.out]
 go_wp2_with fail
 refine (HFi.out _ HB2.out).mono ?_; rintro e w3 ⟨rfl, rfl⟩
 go_wp2_with fail
 refine (HHa.out _ HB2.out).mono ?_; rintro e w4 ⟨rfl, hb4⟩; have HY4 := hide (HY2.out.below hb4 HY2.out.lt); have HZ4 := hide (HZ2.out.below hb4 HZ2.out.lt); have HC4 : Hid (ChgS (fun _ => False) w1 w4) := hide (chg_below (btr HBe2.out hb4)); have hso : w.heap.size + 1 < w1.heap.size := (by have := HS1.out; have := HS0.out; omega)
 clear hb4 x0 x1 x2 x3 x4 x5 x6 x7 x8; obtain ⟨y0, y1, y2, y3, y4, y5, y6, y7, y8⟩ := blk9 HY4.out; obtain ⟨z0, z1, z2, z3, z4, z5, z6, z7, z8⟩ := blk9 HZ4.out; have zf := fun i => HZ4.out.frozen i; go_wp2; change bodyPost _ _ _ _ _ (w4.setCells (w.heap.size + 1) 0 (aL Y A6 n6 c6 B6 m6 d6)); obtain ⟨wF, hwF⟩ : ∃ x, w4.setCells (w.heap.size + 1) 0 (aL Y A6 n6 c6 B6 m6 d6) = x := ⟨_, rfl⟩
 have HFk := hide (hwF ▸ blk_sets (aL Y A6 n6 c6 B6 m6 d6) [] zeroL HZ4.out rfl : Blk wF (w.heap.size + 1) 28 (aC Y A6 n6 c6 B6 m6 d6)); have HFc : Hid (ChgS (fun k => k = w.heap.size + 1) w1 wF) := hide (hwF ▸ chg_trans (chg_mono HC4.out (fun k h => h.elim)) (chg_sets (S := fun k => k = w.heap.size + 1) rfl [.int .i64 Y.has, .int .i64 Y.org, .slice A6 n6 c6, .int .u32 Y.hop, .int .u32 Y.med, .int .u32 Y.pref, .int .u32 Y.aas, .int .u32 Y.aid, .slice B6 m6 d6] 0) (fun k h => .inl h)); have HFb : Hid (Below w.heap.size w wF) := hide (chg_to_below (chg_trans (chg_below (S := fun k => w.heap.size ≤ k) HB1.out) HFc.out (fun k h => .inl (by omega))) (Nat.le_refl _) (fun k h => h)); rw [hwF]; clear hwF zf y0 y1 y2 y3 y4 y5 y6 y7 y8 z0 z1 z2 z3 z4 z5 z6 z7 z8; obtain ⟨q0, q1, q2, q3, q4, q5, q6, q7, q8⟩ := blk9 HFk.out; have hAF := ato_chg HAt.out HFc.out (fun k h1 h2 h3 => by have := HS0.out; omega); have hAC : AtO w.heap.size wF Y (.agg #[.int .i64 Y.has, .int .i64 Y.org, .slice A6 n6 c6, .int .u32 Y.hop, .int .u32 Y.med, .int .u32 Y.pref, .int .u32 Y.aas, .int .u32 Y.aid, .slice B6 m6 d6]) := hAF.less (by have := HS0.out; omega); refine bodyPost_ret (v := .tuple #[.agg #[.int .i64 Y.has, .int .i64 Y.org, .slice A6 n6 c6, .int .u32 Y.hop, .int .u32 Y.med, .int .u32 Y.pref, .int .u32 Y.aas, .int .u32 Y.aid, .slice B6 m6 d6], .bool true]) (by simp [results, Tryz.results168, go_sem, q0, q1, q2, q3, q4, q5, q6, q7, q8]) rfl ⟨_, rfl, hAC, HFb.out⟩
set_option maxRecDepth 100000 in
set_option maxHeartbeats 8000000 in
theorem acc_extg (own ax : Nat) (X Y : AT) (FX : Nat)  (v : Value) (w : World) (hv : AtR w X v) (hn : numS X.path ≤ 10000) (hm : X.comms.length ≤ 10000) (hY : normA X = Y) (hf : pfirstR X.path FX true) (hh : pathHas X.path own = false) (hne : own ≠ ax) (hfx : FX = ax) :
  Calls Tryz.prog 168 #[.int .u32 (own : Int), .int .u32 (ax : Int), v] w fun e w' => ∃ v', e = .returned (.tuple #[v', .bool true]) ∧ AtO w.heap.size w' (clrP Y) v' ∧ Below w.heap.size w w' := by
 obtain ⟨A, n, c, B, m, d, rfl, hP, hC⟩ := hv; obtain ⟨w0, hw0⟩ : ∃ w0, (w.alloc (.cells (aC X A n c B m d) 28)).alloc (.cells zeroA 28) = w0 := ⟨_, rfl⟩
 have hb0 : Below w.heap.size w w0 := hw0 ▸ blkBelow2 w _ _; have hs0 : w0.heap.size = w.heap.size + 2 := (by rw [← hw0]; simp)
 have HK : Hid (Blk w0 (w.heap.size) 28 (aC X A n c B m d)) := hide (hw0 ▸ (Blk.new w _ _).alloc _); have HZ : Hid (Blk w0 (w.heap.size + 1) 28 zeroA) := hide (hw0 ▸ blk_new' _ _ (by simp)); have HNm := hide (attrNormX_any X (atV X.has X.org A n c X.hop X.med X.pref X.aas X.aid B m d) w0 ⟨A, n, c, B, m, d, rfl, hP.below sgMono hb0, hC.below hb0⟩ hn hm); rw [hY] at HNm; have HFi : Hid (∀ W, Below w.heap.size w W → Calls Tryz.prog 276 #[.slice A n c] W fun e w' => e = .returned (.tuple #[.int .u32 (FX : Int), .bool true]) ∧ w' = W) := hide (fun W hb => pfirstR_any A n c X.path FX true W (hP.below sgMono hb) hf); have HHa := hide (fun W (hb : Below w.heap.size w W) => pathHas_any A n c X.path own W (hP.below sgMono hb)); rw [hh] at HHa; have HB0 := hide hb0; have HS0 := hide hs0; have HW0 := hide hw0; have e1 : ((own : Int) != (ax : Int)) = true := (by simp; omega)
 have e2 : ((FX : Int) != (ax : Int)) = false := (by simp; omega)
 clear hw0 hb0 hP hC hn hm hY hf hh hs0 hne hfx; obtain ⟨x0, x1, x2, x3, x4, x5, x6, x7, x8⟩ := blk9 HK.out
 go_enter Tryz.func168, Tryz.ntmps168
 go_wp2_with fail
 rw [HW0.out]; refine HNm.out.mono ?_; rintro e w1 ⟨v6, rfl, ⟨A6, n6, c6, xs6, B6, m6, d6, rfl, hl6, hu6⟩, hb1⟩; obtain ⟨w2, hw2⟩ : ∃ W, w1.alloc (.cells (aC Y A6 n6 c6 B6 m6 d6) 28) = W := ⟨_, rfl⟩
 have hb2 : Below w1.heap.size w1 w2 := hw2 ▸ blkBelow1 w1 _; have HY2 : Hid (Blk w2 w1.heap.size 28 (aC Y A6 n6 c6 B6 m6 d6)) := hide (hw2 ▸ Blk.new w1 _ _); have HB1 := hide (btr HB0.out hb1); have HB2 := hide (btr HB1.out hb2); have HK1 := hide (HK.out.below hb1 HK.out.lt); have HK2 := hide (HK1.out.below hb2 HK1.out.lt); have HZ1 := hide (HZ.out.below hb1 HZ.out.lt); have HZ2 := hide (HZ1.out.below hb2 HZ1.out.lt); have HAt : Hid (AtO w0.heap.size w1 Y (atV Y.has Y.org A6 n6 c6 Y.hop Y.med Y.pref Y.aas Y.aid B6 m6 d6)) := hide ⟨A6, n6, c6, xs6, B6, m6, d6, rfl, hl6, hu6⟩; have HW2 := hide hw2; have HS1 := hide hb1.size; have HBe2 := hide hb2; clear hw2 hb1 hb2 hl6 hu6 x0 x1 x2 x3 x4 x5 x6 x7 x8; obtain ⟨x0, x1, x2, x3, x4, x5, x6, x7, x8⟩ := blk9 HK2.out
 go_upto_region 2 with fail
 rw [HW2.out]
 go_wp2_with fail
 refine (HFi.out _ HB2.out).mono ?_; rintro e w3 ⟨rfl, rfl⟩
 go_wp2_with fail
 refine (HHa.out _ HB2.out).mono ?_; rintro e w4 ⟨rfl, hb4⟩; have HY4 := hide (HY2.out.below hb4 HY2.out.lt); have HZ4 := hide (HZ2.out.below hb4 HZ2.out.lt); have HC4 : Hid (ChgS (fun _ => False) w1 w4) := hide (chg_below (btr HBe2.out hb4)); have HB4 := hide (btr HB2.out hb4); clear hb4 x0 x1 x2 x3 x4 x5 x6 x7 x8; obtain ⟨y0, y1, y2, y3, y4, y5, y6, y7, y8⟩ := blk9 HY4.out; have yf := fun i => HY4.out.frozen i
 go_upto_region 13 with fail
 obtain ⟨w5, hw5⟩ : ∃ W, (w4.setCell ⟨w1.heap.size, 5, none⟩ (.int .u32 0)).setCell ⟨w1.heap.size, 0, none⟩ (.int .i64 (bits .andNot .i64 Y.has 32)) = W := ⟨_, rfl⟩
 have hso : w.heap.size + 1 < w1.heap.size := (by have := HS1.out; have := HS0.out; omega)
 have HY5 : Hid (Blk w5 w1.heap.size 28 #[.int .i64 (bits .andNot .i64 Y.has 32), .int .i64 Y.org, .slice A6 n6 c6, .int .u32 Y.hop, .int .u32 Y.med, .int .u32 0, .int .u32 Y.aas, .int .u32 Y.aid, .slice B6 m6 d6]) := hide (hw5 ▸ (HY4.out.set_ 5 _).set_ 0 _); have HZ5 : Hid (Blk w5 (w.heap.size + 1) 28 zeroA) := hide (hw5 ▸ (HZ4.out.far (p := ⟨w1.heap.size, 5, none⟩) (by show w.heap.size + 1 ≠ w1.heap.size; omega) _).far (p := ⟨w1.heap.size, 0, none⟩) (by show w.heap.size + 1 ≠ w1.heap.size; omega) _); have HC5 : Hid (ChgS (fun k => k = w1.heap.size) w4 w5) := hide (hw5 ▸ chg_trans (chg_set (S := fun k => k = w1.heap.size) (p := ⟨w1.heap.size, 5, none⟩) rfl _) (chg_set (S := fun k => k = w1.heap.size) (p := ⟨w1.heap.size, 0, none⟩) rfl _) (fun k h => .inl h)); rw [hw5]; clear hw5 yf y0 y1 y2 y3 y4 y5 y6 y7 y8; obtain ⟨y0, y1, y2, y3, y4, y5, y6, y7, y8⟩ := blk9 HY5.out; obtain ⟨z0, z1, z2, z3, z4, z5, z6, z7, z8⟩ := blk9 HZ5.out; have zf := fun i => HZ5.out.frozen i; go_wp2; change bodyPost _ _ _ _ _ (w5.setCells (w.heap.size + 1) 0 [.int .i64 (bits .andNot .i64 Y.has 32), .int .i64 Y.org, .slice A6 n6 c6, .int .u32 Y.hop, .int .u32 Y.med, .int .u32 0, .int .u32 Y.aas, .int .u32 Y.aid, .slice B6 m6 d6]); obtain ⟨wF, hwF⟩ : ∃ x, w5.setCells (w.heap.size + 1) 0 [.int .i64 (bits .andNot .i64 Y.has 32), .int .i64 Y.org, .slice A6 n6 c6, .int .u32 Y.hop, .int .u32 Y.med, .int .u32 0, .int .u32 Y.aas, .int .u32 Y.aid, .slice B6 m6 d6] = x := ⟨_, rfl⟩
 have HFk := hide (hwF ▸ blk_sets [.int .i64 (bits .andNot .i64 Y.has 32), .int .i64 Y.org, .slice A6 n6 c6, .int .u32 Y.hop, .int .u32 Y.med, .int .u32 0, .int .u32 Y.aas, .int .u32 Y.aid, .slice B6 m6 d6] [] zeroL HZ5.out rfl : Blk wF (w.heap.size + 1) 28 #[.int .i64 (bits .andNot .i64 Y.has 32), .int .i64 Y.org, .slice A6 n6 c6, .int .u32 Y.hop, .int .u32 Y.med, .int .u32 0, .int .u32 Y.aas, .int .u32 Y.aid, .slice B6 m6 d6]); have HFc : Hid (ChgS (fun k => k = w1.heap.size ∨ k = w.heap.size + 1) w1 wF) := hide (hwF ▸ chg_trans (chg_trans (chg_mono HC4.out (fun k h => h.elim)) HC5.out (fun k h => .inl (.inl h))) (chg_sets (S := fun k => k = w.heap.size + 1) rfl [.int .i64 (bits .andNot .i64 Y.has 32), .int .i64 Y.org, .slice A6 n6 c6, .int .u32 Y.hop, .int .u32 Y.med, .int .u32 0, .int .u32 Y.aas, .int .u32 Y.aid, .slice B6 m6 d6] 0) (fun k h => .inl (.inr h))); have HFb : Hid (Below w.heap.size w wF) := hide (chg_to_below (chg_trans (chg_below (S := fun k => w.heap.size ≤ k) HB1.out) HFc.out (fun k h => .inl (by rcases h with h | h <;> omega))) (Nat.le_refl _) (fun k h => h)); rw [hwF]; clear hwF zf y0 y1 y2 y3 y4 y5 y6 y7 y8 z0 z1 z2 z3 z4 z5 z6 z7 z8; obtain ⟨q0, q1, q2, q3, q4, q5, q6, q7, q8⟩ := blk9 HFk.out; have hAF := ato_chg HAt.out HFc.out (fun k h1 h2 h3 => by have := HS0.out; rcases h3 with h3 | h3 <;> omega)
 have hAC : AtO w.heap.size wF (clrP Y) (.agg #[.int .i64 (bits .andNot .i64 Y.has 32), .int .i64 Y.org, .slice A6 n6 c6, .int .u32 Y.hop, .int .u32 Y.med, .int .u32 0, .int .u32 Y.aas, .int .u32 Y.aid, .slice B6 m6 d6]) := by
  obtain ⟨A7, n7, c7, xs7, B7, m7, d7, e, h1, h2⟩ := hAF; simp only [atV, Value.agg.injEq, Array.mk.injEq, List.cons.injEq, and_true, true_and] at e; obtain ⟨e3, e9⟩ := e; injection e3 with q1 q2 q3
  injection e9 with q4 q5 q6
  subst q1 q2 q3 q4 q5 q6; have hle : w.heap.size ≤ w0.heap.size := (by have := HS0.out; omega)
  exact ⟨_, _, _, xs7, _, _, _, rfl, h1.less hle hle, h2.less hle⟩
 refine bodyPost_ret (v := .tuple #[.agg #[.int .i64 (bits .andNot .i64 Y.has 32), .int .i64 Y.org, .slice A6 n6 c6, .int .u32 Y.hop, .int .u32 Y.med, .int .u32 0, .int .u32 Y.aas, .int .u32 Y.aid, .slice B6 m6 d6], .bool true]) (by simp [results, Tryz.results168, go_sem, q0, q1, q2, q3, q4, q5, q6, q7, q8]) rfl ⟨_, rfl, hAC, HFb.out⟩
set_option maxRecDepth 100000 in
set_option maxHeartbeats 8000000 in
theorem acc_set (own : Nat) (X Y : AT) (FX : Nat) (FB : Bool) (v : Value) (w : World) (hv : AtR w X v) (hn : numS X.path ≤ 10000) (hm : X.comms.length ≤ 10000) (hY : normA X = Y) (hf : pfirstR X.path FX FB) (hh : pathHas X.path own = false) (hp : bits .and .i64 Y.has 32 = 0) :
  Calls Tryz.prog 168 #[.int .u32 (own : Int), .int .u32 (own : Int), v] w fun e w' => ∃ v', e = .returned (.tuple #[v', .bool true]) ∧ AtO w.heap.size w' (setP Y) v' ∧ Below w.heap.size w w' := by
 obtain ⟨A, n, c, B, m, d, rfl, hP, hC⟩ := hv; obtain ⟨w0, hw0⟩ : ∃ w0, (w.alloc (.cells (aC X A n c B m d) 28)).alloc (.cells zeroA 28) = w0 := ⟨_, rfl⟩
 have hb0 : Below w.heap.size w w0 := hw0 ▸ blkBelow2 w _ _; have hs0 : w0.heap.size = w.heap.size + 2 := (by rw [← hw0]; simp)
 have HK : Hid (Blk w0 (w.heap.size) 28 (aC X A n c B m d)) := hide (hw0 ▸ (Blk.new w _ _).alloc _); have HZ : Hid (Blk w0 (w.heap.size + 1) 28 zeroA) := hide (hw0 ▸ blk_new' _ _ (by simp)); have HNm := hide (attrNormX_any X (atV X.has X.org A n c X.hop X.med X.pref X.aas X.aid B m d) w0 ⟨A, n, c, B, m, d, rfl, hP.below sgMono hb0, hC.below hb0⟩ hn hm); rw [hY] at HNm; have HFi : Hid (∀ W, Below w.heap.size w W → Calls Tryz.prog 276 #[.slice A n c] W fun e w' => e = .returned (.tuple #[.int .u32 (FX : Int), .bool FB]) ∧ w' = W) := hide (fun W hb => pfirstR_any A n c X.path FX FB W (hP.below sgMono hb) hf); have HHa := hide (fun W (hb : Below w.heap.size w W) => pathHas_any A n c X.path own W (hP.below sgMono hb)); rw [hh] at HHa; have HB0 := hide hb0; have HS0 := hide hs0; have HW0 := hide hw0; have e1 : ((own : Int) != (own : Int)) = false := (by simp)
 have e3 : (bits .and .i64 Y.has 32 == 0) = true := (by simpa using hp)
 have e4 : decide (bits .and .i64 Y.has 32 = 0) = true := decide_eq_true hp; clear hw0 hb0 hP hC hn hm hY hf hh hs0 hp; obtain ⟨x0, x1, x2, x3, x4, x5, x6, x7, x8⟩ := blk9 HK.out
 go_enter Tryz.func168, Tryz.ntmps168
 go_wp2_with fail
 rw [HW0.out]; refine HNm.out.mono ?_; rintro e w1 ⟨v6, rfl, ⟨A6, n6, c6, xs6, B6, m6, d6, rfl, hl6, hu6⟩, hb1⟩; obtain ⟨w2, hw2⟩ : ∃ W, w1.alloc (.cells (aC Y A6 n6 c6 B6 m6 d6) 28) = W := ⟨_, rfl⟩
 have hb2 : Below w1.heap.size w1 w2 := hw2 ▸ blkBelow1 w1 _; have HY2 : Hid (Blk w2 w1.heap.size 28 (aC Y A6 n6 c6 B6 m6 d6)) := hide (hw2 ▸ Blk.new w1 _ _); have HB1 := hide (btr HB0.out hb1); have HB2 := hide (btr HB1.out hb2); have HK1 := hide (HK.out.below hb1 HK.out.lt); have HK2 := hide (HK1.out.below hb2 HK1.out.lt); have HZ1 := hide (HZ.out.below hb1 HZ.out.lt); have HZ2 := hide (HZ1.out.below hb2 HZ1.out.lt); have HAt : Hid (AtO w0.heap.size w1 Y (atV Y.has Y.org A6 n6 c6 Y.hop Y.med Y.pref Y.aas Y.aid B6 m6 d6)) := hide ⟨A6, n6, c6, xs6, B6, m6, d6, rfl, hl6, hu6⟩; have HW2 := hide hw2; have HS1 := hide hb1.size; have HBe2 := hide hb2; clear hw2 hb1 hb2 hl6 hu6 x0 x1 x2 x3 x4 x5 x6 x7 x8; obtain ⟨x0, x1, x2, x3, x4, x5, x6, x7, x8⟩ := blk9 HK2.out
 go_upto_region 2 with fail
 rw [HW2.out]
 go_wp2_with fail
 refine (HFi.out _ HB2.out).mono ?_; rintro e w3 ⟨rfl, rfl⟩
 go_wp2_with fail
 refine (HHa.out _ HB2.out).mono ?_; rintro e w4 ⟨rfl, hb4⟩; have HY4 := hide (HY2.out.below hb4 HY2.out.lt); have HZ4 := hide (HZ2.out.below hb4 HZ2.out.lt); have HC4 : Hid (ChgS (fun _ => False) w1 w4) := hide (chg_below (btr HBe2.out hb4)); have HB4 := hide (btr HB2.out hb4); clear hb4 x0 x1 x2 x3 x4 x5 x6 x7 x8; obtain ⟨y0, y1, y2, y3, y4, y5, y6, y7, y8⟩ := blk9 HY4.out; have yf := fun i => HY4.out.frozen i
 go_upto_region 13 with fail
 obtain ⟨w5, hw5⟩ : ∃ W, (w4.setCell ⟨w1.heap.size, 5, none⟩ (.int .u32 100)).setCell ⟨w1.heap.size, 0, none⟩ (.int .i64 (bits .or .i64 Y.has 32)) = W := ⟨_, rfl⟩
 have hso : w.heap.size + 1 < w1.heap.size := (by have := HS1.out; have := HS0.out; omega)
 have HY5 : Hid (Blk w5 w1.heap.size 28 #[.int .i64 (bits .or .i64 Y.has 32), .int .i64 Y.org, .slice A6 n6 c6, .int .u32 Y.hop, .int .u32 Y.med, .int .u32 100, .int .u32 Y.aas, .int .u32 Y.aid, .slice B6 m6 d6]) := hide (hw5 ▸ (HY4.out.set_ 5 _).set_ 0 _); have HZ5 : Hid (Blk w5 (w.heap.size + 1) 28 zeroA) := hide (hw5 ▸ (HZ4.out.far (p := ⟨w1.heap.size, 5, none⟩) (by show w.heap.size + 1 ≠ w1.heap.size; omega) _).far (p := ⟨w1.heap.size, 0, none⟩) (by show w.heap.size + 1 ≠ w1.heap.size; omega) _); have HC5 : Hid (ChgS (fun k => k = w1.heap.size) w4 w5) := hide (hw5 ▸ chg_trans (chg_set (S := fun k => k = w1.heap.size) (p := ⟨w1.heap.size, 5, none⟩) rfl _) (chg_set (S := fun k => k = w1.heap.size) (p := ⟨w1.heap.size, 0, none⟩) rfl _) (fun k h => .inl h)); rw [hw5]; clear hw5 yf y0 y1 y2 y3 y4 y5 y6 y7 y8; obtain ⟨y0, y1, y2, y3, y4, y5, y6, y7, y8⟩ := blk9 HY5.out; obtain ⟨z0, z1, z2, z3, z4, z5, z6, z7, z8⟩ := blk9 HZ5.out; have zf := fun i => HZ5.out.frozen i; go_wp2; change bodyPost _ _ _ _ _ (w5.setCells (w.heap.size + 1) 0 [.int .i64 (bits .or .i64 Y.has 32), .int .i64 Y.org, .slice A6 n6 c6, .int .u32 Y.hop, .int .u32 Y.med, .int .u32 100, .int .u32 Y.aas, .int .u32 Y.aid, .slice B6 m6 d6]); obtain ⟨wF, hwF⟩ : ∃ x, w5.setCells (w.heap.size + 1) 0 [.int .i64 (bits .or .i64 Y.has 32), .int .i64 Y.org, .slice A6 n6 c6, .int .u32 Y.hop, .int .u32 Y.med, .int .u32 100, .int .u32 Y.aas, .int .u32 Y.aid, .slice B6 m6 d6] = x := ⟨_, rfl⟩
 have HFk := hide (hwF ▸ blk_sets [.int .i64 (bits .or .i64 Y.has 32), .int .i64 Y.org, .slice A6 n6 c6, .int .u32 Y.hop, .int .u32 Y.med, .int .u32 100, .int .u32 Y.aas, .int .u32 Y.aid, .slice B6 m6 d6] [] zeroL HZ5.out rfl : Blk wF (w.heap.size + 1) 28 #[.int .i64 (bits .or .i64 Y.has 32), .int .i64 Y.org, .slice A6 n6 c6, .int .u32 Y.hop, .int .u32 Y.med, .int .u32 100, .int .u32 Y.aas, .int .u32 Y.aid, .slice B6 m6 d6]); have HFc : Hid (ChgS (fun k => k = w1.heap.size ∨ k = w.heap.size + 1) w1 wF) := hide (hwF ▸ chg_trans (chg_trans (chg_mono HC4.out (fun k h => h.elim)) HC5.out (fun k h => .inl (.inl h))) (chg_sets (S := fun k => k = w.heap.size + 1) rfl [.int .i64 (bits .or .i64 Y.has 32), .int .i64 Y.org, .slice A6 n6 c6, .int .u32 Y.hop, .int .u32 Y.med, .int .u32 100, .int .u32 Y.aas, .int .u32 Y.aid, .slice B6 m6 d6] 0) (fun k h => .inl (.inr h))); have HFb : Hid (Below w.heap.size w wF) := hide (chg_to_below (chg_trans (chg_below (S := fun k => w.heap.size ≤ k) HB1.out) HFc.out (fun k h => .inl (by rcases h with h | h <;> omega))) (Nat.le_refl _) (fun k h => h)); rw [hwF]; clear hwF zf y0 y1 y2 y3 y4 y5 y6 y7 y8 z0 z1 z2 z3 z4 z5 z6 z7 z8; obtain ⟨q0, q1, q2, q3, q4, q5, q6, q7, q8⟩ := blk9 HFk.out; have hAF := ato_chg HAt.out HFc.out (fun k h1 h2 h3 => by have := HS0.out; rcases h3 with h3 | h3 <;> omega)
 have hAC : AtO w.heap.size wF (setP Y) (.agg #[.int .i64 (bits .or .i64 Y.has 32), .int .i64 Y.org, .slice A6 n6 c6, .int .u32 Y.hop, .int .u32 Y.med, .int .u32 100, .int .u32 Y.aas, .int .u32 Y.aid, .slice B6 m6 d6]) := by
  obtain ⟨A7, n7, c7, xs7, B7, m7, d7, e, h1, h2⟩ := hAF; simp only [atV, Value.agg.injEq, Array.mk.injEq, List.cons.injEq, and_true, true_and] at e; obtain ⟨e3, e9⟩ := e; injection e3 with q1 q2 q3
  injection e9 with q4 q5 q6
  subst q1 q2 q3 q4 q5 q6; have hle : w.heap.size ≤ w0.heap.size := (by have := HS0.out; omega)
  exact ⟨_, _, _, xs7, _, _, _, rfl, h1.less hle hle, h2.less hle⟩
 refine bodyPost_ret (v := .tuple #[.agg #[.int .i64 (bits .or .i64 Y.has 32), .int .i64 Y.org, .slice A6 n6 c6, .int .u32 Y.hop, .int .u32 Y.med, .int .u32 100, .int .u32 Y.aas, .int .u32 Y.aid, .slice B6 m6 d6], .bool true]) (by simp [results, Tryz.results168, go_sem, q0, q1, q2, q3, q4, q5, q6, q7, q8]) rfl ⟨_, rfl, hAC, HFb.out⟩
def accF (own ax : Nat) (X : AT) : AT × Bool :=
  if pathHas X.path own = true then (normA X, false)
  else if own = ax then (if bits .and .i64 (normA X).has 32 = 0 then (setP (normA X), true) else (normA X, true))
  else if pfirstF X.path = some ax then (clrP (normA X), true) else (normA X, false)
theorem pfirstR_ex (l : List SG) : ∃ x b, pfirstR l x b := by
 cases h : pfirstF l with
 | none => exact ⟨0, false, .inr ⟨rfl, rfl, h⟩⟩
 | some x => exact ⟨x, true, .inl ⟨rfl, h⟩⟩
theorem acc_any (own ax : Nat) (X : AT) (v : Value) (w : World) (hv : AtR w X v) (hn : numS X.path ≤ 10000) (hm : X.comms.length ≤ 10000) :
  Calls Tryz.prog 168 #[.int .u32 (own : Int), .int .u32 (ax : Int), v] w fun e w' => ∃ v', e = .returned (.tuple #[v', .bool (accF own ax X).2]) ∧ AtO w.heap.size w' (accF own ax X).1 v' ∧ Below w.heap.size w w' := by
 obtain ⟨x, b, hr⟩ := pfirstR_ex X.path
 cases hh : pathHas X.path own with
 | true =>
  have e : accF own ax X = (normA X, false) := (by unfold accF; rw [if_pos hh])
  rw [e]; exact acc_hasg own ax X _ x b v w hv hn hm rfl hr hh
 | false =>
  have hh' : ¬ pathHas X.path own = true := (by rw [hh]; decide)
  by_cases hne : own = ax
  ·subst hne; by_cases hp : bits .and .i64 (normA X).has 32 = 0
   ·have e : accF own own X = (setP (normA X), true) := (by unfold accF; rw [if_neg hh', if_pos rfl, if_pos hp])
    rw [e]; exact acc_set own X _ x b v w hv hn hm rfl hr hh hp
   ·have e : accF own own X = (normA X, true) := (by unfold accF; rw [if_neg hh', if_pos rfl, if_neg hp])
    rw [e]; exact acc_pre own X _ x b v w hv hn hm rfl hr hh hp
  ·cases b with
   | false =>
    have hf : pfirstF X.path = none := hr.elim (fun h => nomatch h.1) (fun h => h.2.2); have e : accF own ax X = (normA X, false) := (by unfold accF; rw [if_neg hh', if_neg hne, hf, if_neg (by simp)])
    rw [e]; exact acc_nof own ax X _ x v w hv hn hm rfl hr hh hne
   | true =>
    have hf : pfirstF X.path = some x := hr.elim (fun h => h.2) (fun h => nomatch h.1); by_cases hx : x = ax
    ·have e : accF own ax X = (clrP (normA X), true) := (by unfold accF; rw [if_neg hh', if_neg hne, hf, hx, if_pos rfl])
     rw [e]; exact acc_extg own ax X _ x v w hv hn hm rfl hr hh hne hx
    ·have e : accF own ax X = (normA X, false) := (by unfold accF; rw [if_neg hh', if_neg hne, hf, if_neg (by simpa using hx)])
     rw [e]; exact acc_oth own ax X _ x v w hv hn hm rfl hr hh hne hx
def flatS (l : List SG) : List Nat := l.flatMap SG.r
theorem flatS_snoc (l : List SG) (q : Nat) (x : SG) (h : l[q]? = some x) : flatS (l.take (q + 1)) = flatS (l.take q) ++ x.r := by
 rw [List.take_add_one, h]; simp [flatS]
theorem flatS_len (l : List SG) : (flatS l).length = numS l := by
 induction l with
 | nil => rfl
 | cons x l ih =>
  have e1 : flatS (x :: l) = x.r ++ flatS l := (by simp [flatS])
  have e2 : numS (x :: l) = x.r.length + numS l := (by simp [numS])
  rw [e1, e2, List.length_append, ih]
theorem flatS_has (l : List SG) (x : Nat) : decide (x ∈ setOf (flatS l)) = pathHas l x := by
 unfold pathHas flatS; rw [Bool.eq_iff_iff]; simp only [decide_eq_true_eq, setOf_mem, List.mem_flatMap, List.any_eq_true, List.contains_iff_mem]
set_option maxRecDepth 100000 in
set_option maxHeartbeats 8000000 in
theorem refAll04_any (A : Option Addr) (n c : Nat) (l : List SG) (w : World) (h : LstAt 2 sgR w A n c l) (hn : numS l ≤ 10000) :
  Calls Tryz.prog 76 #[.slice A n c] w fun e w' => ∃ A' n' c', e = .returned (.slice A' n' c') ∧ U32s w' A' n' c' (setOf (flatS l)) ∧ Below w.heap.size w w' := by
 obtain ⟨j0, hj, hy0, hy1, hy2⟩ := info_parts info32; have hln : l.length = n := h.1; have hnc := h.2.1; have hmx := h.2.2.1; unfold maxLen at hmx; have HL := hide h; have HLn := hide hln; have HSet := hide (fun A n c l w => refSetB_any A n c l w); obtain ⟨w0, hw0⟩ : ∃ W, w.alloc (.cells #[] 22) = W := ⟨_, rfl⟩
 have hb0 : Below w.heap.size w w0 := hw0 ▸ blkBelow1 w _; have HO0 : Hid (w0.ownsRow w.heap.size 22 1 (.slice (some ⟨w.heap.size, 0, none⟩) 0 0) 0 []) := hide (hw0 ▸ World.ownsRow_lit w #[] 0 (Nat.le_refl _) (by unfold maxLen; omega) rfl); have HB0 := hide hb0; have HW0 := hide hw0; clear h hln hw0 hb0
 go_enter Tryz.func76, Tryz.ntmps76
 go_wp2; rw [HW0.out]
 go_loopw [3, 4] (fun vo iv wr => ∃ (q : Nat) (A1 : Option Addr) (k c1 : Nat), q ≤ n ∧ iv = .int .i64 (q : Nat) ∧ vo = .slice A1 k c1 ∧ k = (flatS (l.take q)).length ∧ wr.ownsRow w.heap.size 22 1 (.slice A1 k c1) k (u32c (flatS (l.take q))) ∧ (∀ y ∈ flatS (l.take q), y < 4294967296) ∧ Below w.heap.size w wr) (fun _ iv _ => n - (intOf iv).toNat)
 case atStart => exact ⟨0, some ⟨w.heap.size, 0, none⟩, 0, 0, Nat.zero_le _, rfl, rfl, rfl, HO0.out, by simp [flatS], HB0.out⟩
 case round =>
  obtain ⟨q, A1, k, c1, hq, rfl, rfl, hk, hown, hbd, hbel⟩ := hrel; have HO := hide hown; have HBd := hide hbd; have HBe := hide hbel; have HK := hide hk; have hsr := hbel.size; have hk1 : k ≤ 10000 := (by rw [hk, flatS_len]; exact Nat.le_trans (numS_take_le l q) hn)
  by_cases hlt : q < n
  ·obtain ⟨g, o, b, B, m, d, r, rfl, hg, hx, hr, hc0, hc1⟩ := SGat (HL.out.below sgMono hbel) hlt; have HSn := hide (flatS_snoc l q _ hx); have htk1 := numS_take_le l (q + 1); have hrl : r.length = m := hr.1
   have hkm : k + m ≤ 10000 := by
    have h1 := congrArg List.length HSn.out; rw [List.length_append, flatS_len, ← hk] at h1; have h1 : _ = k + r.length := h1; omega
   have HRd := hide (hr.reads); have HRb := hide hr.2.2.2.1; have q1 : (q : Int) < (n : Int) := (by omega)
   have q0 : (0 : Int) ≤ (q : Int) := (by omega)
   have hwq : IntKind.i64.wrap ((q : Int) + 1) = (q : Int) + 1 := (by rw [IntKind.wrap_i64]; omega)
   clear hown hbel hx hr hk hbd hc0
   go_wp2_with (at_builtin; refine wpList_append_any _ rfl (.tmp 12) (.tmp 17) 26 rfl w.heap.size 22 j0 _ 1 4 Tryz.underlying26 hj hy0 hy1 hy2 rfl (by decide) (.slice A1 k c1) k _ rfl HO.out _ B m d (u32c r) rfl HRd.out (u32c_one _) (by unfold maxLen; omega) (by omega) hsr ?_; intro v' w9 h5 h6 h7; obtain ⟨A4, c4, rfl⟩ := own_slice h5; have HO9 := hide h5; have HB9 := hide (HBe.out.grown h6 hsr (fun k hk => own_low_block HO.out k hk)); clear h5 h6 h7)
   go_roundw
   case rel =>
    refine ⟨q + 1, A4, k + m, c4, by omega, by go_num, rfl, ?_, ?_, ?_, HB9.out⟩
    ·rw [HSn.out, List.length_append, ← HK.out]; exact congrArg (k + ·) hrl.symm
    ·rw [HSn.out]; have e : u32c (flatS (l.take q) ++ r) = u32c (flatS (l.take q)) ++ u32c r := (by simp [u32c])
     rw [e]; exact HO9.out
    ·rw [HSn.out]; exact fun y hy => (List.mem_append.1 hy).elim (HBd.out y) (HRb.out y)
   case measure => simp [intOf]; omega
  ·obtain rfl : q = n := (by omega)
   have e1 : decide ((q : Int) < (q : Int)) = false := (by simp)
   have hall : l.take q = l := List.take_of_length_le (by rw [HLn.out]; exact Nat.le_refl _); rw [hall] at hown hbd; have HSt := hide (HSet.out A1 k c1 (flatS l) wr (U32s.of_own hown hbd) hk1); clear hown hbel hlt hbd hk hall
   go_wp2_with fail
   refine HSt.out.mono ?_; rintro e w9 ⟨g', o', n', c', rfl, hu, hb9, _⟩; have HB9 := hide (HBe.out.trans (hb9.mono hsr)); have HU9 := hide hu; clear hu hb9; go_wp2; go_ret; exact ⟨_, _, _, rfl, HU9.out, HB9.out⟩
theorem h5_and : ∀ m : Nat, m < 512 → (attB (m : Int) 5 = true ↔ ¬ bits .and .i64 (m : Int) 32 = 0) := by decide +kernel
theorem h5_or : ∀ m : Nat, m < 512 → attB (m : Int) 5 = false → IntKind.i64.wrap ((m : Int) + 32) = bits .or .i64 (m : Int) 32 := by decide +kernel
theorem h5_not : ∀ m : Nat, m < 512 → attB (m : Int) 5 = true → IntKind.i64.wrap ((m : Int) - 32) = bits .andNot .i64 (m : Int) 32 := by decide +kernel
theorem h5_notN : ∀ m : Nat, m < 512 → attB (m : Int) 5 = false → bits .andNot .i64 (m : Int) 32 = (m : Int) := by decide +kernel
theorem h5_notB : ∀ m : Nat, m < 512 → ∀ k ∈ [1, 2, 3, 4, 6, 7, 8], attB (bits .andNot .i64 (m : Int) 32) k = attB (m : Int) k := by decide +kernel
theorem h5_orB : ∀ m : Nat, m < 512 → ∀ k ∈ [1, 2, 3, 4, 6, 7, 8], attB (bits .or .i64 (m : Int) 32) k = attB (m : Int) k := by decide +kernel
theorem nm_nm (h : Int) : nmH (nmH h : Int) = nmH h := by
 have := congrArg AT.has (normA_eq ⟨h, 0, [], 0, 0, 0, 0, 0, []⟩); unfold normA at this; exact Int.ofNat.inj this
theorem nm_not : ∀ m : Nat, m < 512 → (nmH (bits .andNot .i64 (nmH (m : Int) : Int) 32) : Int) = bits .andNot .i64 (nmH (m : Int) : Int) 32 := by decide +kernel
theorem norm_not (X : AT) : normA (clrP (normA X)) = clrP (normA X) := by
  have hm := nmH_lt X.has
  have e : ∀ k ∈ [1, 2, 3, 4, 6, 7, 8], attB (bits .andNot .i64 (nmH X.has : Int) 32) k = attB X.has k := fun k hk => (h5_notB _ hm k hk).trans (hb_nm X.has k (by
    simp only [List.mem_cons, List.not_mem_nil, or_false] at hk; constructor <;> omega))
  have e0 : (nmH (bits .andNot .i64 (nmH X.has : Int) 32) : Int) = bits .andNot .i64 (nmH X.has : Int) 32 := (by have := nm_not (nmH X.has) hm; rwa [nm_nm] at this)
  unfold clrP normA; simp only [e 1 (by decide), e 2 (by decide), e 3 (by decide), e 4 (by decide), e 7 (by decide), e 8 (by decide), e0]
  congr 1 <;> (first | rfl | (split <;> simp [*, normS_idem, setOf_idem]))
theorem h5_orT : ∀ m : Nat, m < 512 → attB (bits .or .i64 (m : Int) 32) 5 = true := by decide +kernel
theorem nm_or : ∀ m : Nat, m < 512 → (nmH (bits .or .i64 (nmH (m : Int) : Int) 32) : Int) = bits .or .i64 (nmH (m : Int) : Int) 32 := by decide +kernel
theorem norm_or (X : AT) : normA (setP (normA X)) = setP (normA X) := by
  have hm := nmH_lt X.has
  have e : ∀ k ∈ [1, 2, 3, 4, 6, 7, 8], attB (bits .or .i64 (nmH X.has : Int) 32) k = attB X.has k := fun k hk => (h5_orB _ hm k hk).trans (hb_nm X.has k (by
    simp only [List.mem_cons, List.not_mem_nil, or_false] at hk; constructor <;> omega))
  have e0 : (nmH (bits .or .i64 (nmH X.has : Int) 32) : Int) = bits .or .i64 (nmH X.has : Int) 32 := (by have := nm_or (nmH X.has) hm; rwa [nm_nm] at this)
  have e5 := h5_orT _ hm; unfold setP normA; simp only [e 1 (by decide), e 2 (by decide), e 3 (by decide), e 4 (by decide), e 7 (by decide), e 8 (by decide), e0, e5]
  congr 1 <;> (first | rfl | (split <;> simp [*, normS_idem, setOf_idem]))
theorem clr_none (X : AT) (h : attB (normA X).has 5 = false) : clrP (normA X) = normA X := by
 have hm := nmH_lt X.has; have h' : attB (nmH X.has : Int) 5 = false := h; have e1 := h5_notN _ hm h'; have e2 : attB X.has 5 = false := (by rw [← hb_nm X.has 5 ⟨by decide, by decide⟩]; exact h')
 unfold clrP normA; simp only [e1, e2]
 rfl
end Go.Proofs.YtmffmkjgdjgmeaaGreat
