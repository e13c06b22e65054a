import Derived.Test.YtmffmkjgdjgmeaaGreatRl9
import Derived.Lib.SlTrimSet
import Derived.Shelf.Strings.BuilderK
import Derived.Laws.BytesString
import Derived.Laws.IdiomStrings
set_option linter.unusedSimpArgs false
set_option linter.unusedVariables false
namespace Go.Proofs.YtmffmkjgdjgmeaaGreat
open Go.RowKit Go.WideShapes Go.ChangeShapes
attribute [local go_sem] Oper.semAt_some
theorem ato_frb {b : Nat} {w : World} {Y : AT} {v : Value} (h : AtO b w Y v) : ∃ A n c B m d, v = .agg #[.int .i64 Y.has, .int .i64 Y.org, .slice A n c, .int .u32 Y.hop, .int .u32 Y.med, .int .u32 Y.pref, .int .u32 Y.aas, .int .u32 Y.aid, .slice B m d] ∧ FrB b none (fun W => AtR W Y (.agg #[.int .i64 Y.has, .int .i64 Y.org, .slice A n c, .int .u32 Y.hop, .int .u32 Y.med, .int .u32 Y.pref, .int .u32 Y.aas, .int .u32 Y.aid, .slice B m d])) w := by
 obtain ⟨A, n, c, xs, B, m, d, rfl, h1, h2⟩ := h; exact ⟨A, n, c, B, m, d, rfl, ((h1.fr (by decide) (Nat.le_refl _)).and h2).imp fun w h => ⟨A, n, c, B, m, d, rfl, h.1, h.2⟩⟩
theorem pz_frb {b n c : Nat} {w : World} {A : Option Addr} {l : List (Nat × Int)} (h : LstAt 2 pzR w A n c l) (hk : ∀ k, (Value.slice A n c).ownBlock = some k → b ≤ k) : FrB b none (fun W => LstAt 2 pzR W A n c l) w := by
 intro w2 ha; refine ⟨h.1, h.2.1, h.2.2.1, fun hn => ?_⟩; obtain ⟨g, o, e, hg, hc⟩ := h.2.2.2 hn; have hbg : b ≤ g := hk g (by rw [e]; rfl); refine ⟨g, o, e, Nat.lt_of_lt_of_le hg ha.1, fun i x hx => ?_⟩; obtain ⟨vs, hl, hr, hcs⟩ := hc i x hx; exact ⟨vs, hl, hr, fun j v hj => cell_kept_ag (a := ⟨g, o + i * 2 + j, none⟩) (hcs j v hj) (fun ob e1 e2 => ha.2 g ob hbg e1 e2 (by simp))⟩
def UpM (l1 l2 : List (Nat × Int)) (Y : AT) (A1 : Option Addr) (n1 c1 : Nat) (A : Option Addr) (n c : Nat) (B : Option Addr) (m d : Nat) (A2 : Option Addr) (n2 c2 : Nat) (W : World) : Prop := LstAt 2 pzR W A1 n1 c1 l1 ∧ LstAt 2 pzR W A2 n2 c2 l2 ∧ AtR W Y (.agg #[.int .i64 Y.has, .int .i64 Y.org, .slice A n c, .int .u32 Y.hop, .int .u32 Y.med, .int .u32 Y.pref, .int .u32 Y.aas, .int .u32 Y.aid, .slice B m d])
set_option maxRecDepth 100000 in
set_option maxHeartbeats 8000000 in
theorem few10G_any (A1 A2 : Option Addr) (n1 c1 n2 c2 : Nat) (l1 l2 : List (Nat × Int)) (X : AT) (A : Option Addr) (k c : Nat) (B : Option Addr) (m d : Nat) (w : World) (hU : UpM l1 l2 X A1 n1 c1 A k c B m d A2 n2 c2 w) :
  Calls Tryz.prog 26 #[.agg #[.slice A1 n1 c1, .int .i64 X.has, .int .i64 X.org, .slice A k c, .int .u32 X.hop, .int .u32 X.med, .int .u32 X.pref, .int .u32 X.aas, .int .u32 X.aid, .slice B m d, .slice A2 n2 c2]] w fun e w' => ∃ A1 n1 c1 A n c B m d A2 n2 c2, e = .returned (.agg #[.slice A1 n1 c1, .int .i64 (cutA X).has, .int .i64 (cutA X).org, .slice A n c, .int .u32 (cutA X).hop, .int .u32 (cutA X).med, .int .u32 (cutA X).pref, .int .u32 (cutA X).aas, .int .u32 (cutA X).aid, .slice B m d, .slice A2 n2 c2]) ∧ FrB w.heap.size none (UpM (l1.take 30) (l2.take 30) (cutA X) A1 n1 c1 A n c B m d A2 n2 c2) w' ∧ Below w.heap.size w w' := by
 obtain ⟨h1, h2, hX⟩ := hU; obtain ⟨w1, hw1⟩ : ∃ w1, (w.alloc (.cells #[.slice A1 n1 c1, .int .i64 X.has, .int .i64 X.org, .slice A k c, .int .u32 X.hop, .int .u32 X.med, .int .u32 X.pref, .int .u32 X.aas, .int .u32 X.aid, .slice B m d, .slice A2 n2 c2] 60)).alloc (.cells #[.slice none 0 0, .int .i64 0, .int .i64 0, .slice none 0 0, .int .u32 0, .int .u32 0, .int .u32 0, .int .u32 0, .int .u32 0, .slice none 0 0, .slice none 0 0] 60) = w1 := ⟨_, rfl⟩
 have hb1 : Below w.heap.size w w1 := hw1 ▸ blkBelow2 w _ _; have hs1 : w1.heap.size = w.heap.size + 2 := (by rw [← hw1]; simp)
 have HX : Hid (Blk w1 w.heap.size 60 #[.slice A1 n1 c1, .int .i64 X.has, .int .i64 X.org, .slice A k c, .int .u32 X.hop, .int .u32 X.med, .int .u32 X.pref, .int .u32 X.aas, .int .u32 X.aid, .slice B m d, .slice A2 n2 c2]) := hide (hw1 ▸ (Blk.new w _ _).alloc _); have HZ : Hid (Blk w1 (w.heap.size + 1) 60 #[.slice none 0 0, .int .i64 0, .int .i64 0, .slice none 0 0, .int .u32 0, .int .u32 0, .int .u32 0, .int .u32 0, .int .u32 0, .slice none 0 0, .slice none 0 0]) := hide (hw1 ▸ blk_new' _ _ (by simp)); have HF1 := hide (fun W (hb : Below w1.heap.size w1 W) => pxFew_any A1 n1 c1 l1 W ((h1.below pzMono hb1).below pzMono hb)); have HF3 := hide (fun W (hb : Below w1.heap.size w1 W) => pxFew_any A2 n2 c2 l2 W ((h2.below pzMono hb1).below pzMono hb)); obtain ⟨Y, hY⟩ : ∃ Y, cutA X = Y := ⟨_, rfl⟩
 obtain ⟨L1, hL1⟩ : ∃ L, l1.take 30 = L := ⟨_, rfl⟩
 obtain ⟨L2, hL2⟩ : ∃ L, l2.take 30 = L := ⟨_, rfl⟩
 have HF2 := hide (fun W (hb : Below w1.heap.size w1 W) => attrsFew_any X (.agg #[.int .i64 X.has, .int .i64 X.org, .slice A k c, .int .u32 X.hop, .int .u32 X.med, .int .u32 X.pref, .int .u32 X.aas, .int .u32 X.aid, .slice B m d]) W ((hX.below hb1).below hb)); rw [hY] at HF2 ⊢; rw [hL1] at HF1 ⊢; rw [hL2] at HF3 ⊢; have HB1 := hide hb1; have HW1 := hide hw1; clear hw1 hb1 h1 h2 hX hY hL1 hL2
 go_enter Tryz.func26, Tryz.ntmps26
 go_upto_region 1 with fail
 rw [HW1.out]; have Hmn := hide (show AllMono [(isV (ptv w.heap.size 0)), (isV (.slice A1 n1 c1)), (fun v W => ∃ A n c, v = .slice A n c ∧ FrB w1.heap.size none (fun W => LstAt 2 pzR W A n c L1) W), (isV (ptv w.heap.size 1)), (isV (.agg #[.int .i64 X.has, .int .i64 X.org, .slice A k c, .int .u32 X.hop, .int .u32 X.med, .int .u32 X.pref, .int .u32 X.aas, .int .u32 X.aid, .slice B m d])), (fun v W => ∃ A n c B m d, v = .agg #[.int .i64 Y.has, .int .i64 Y.org, .slice A n c, .int .u32 Y.hop, .int .u32 Y.med, .int .u32 Y.pref, .int .u32 Y.aas, .int .u32 Y.aid, .slice B m d] ∧ FrB w1.heap.size none (fun W => AtR W Y (.agg #[.int .i64 Y.has, .int .i64 Y.org, .slice A n c, .int .u32 Y.hop, .int .u32 Y.med, .int .u32 Y.pref, .int .u32 Y.aas, .int .u32 Y.aid, .slice B m d])) W), (isV (ptv w.heap.size 10)), (isV (.slice A2 n2 c2)), (fun v W => ∃ A n c, v = .slice A n c ∧ FrB w1.heap.size none (fun W => LstAt 2 pzR W A n c L2) W), (fun v W => ∃ A1 n1 c1 A n c B m d A2 n2 c2, v = .agg #[.slice A1 n1 c1, .int .i64 Y.has, .int .i64 Y.org, .slice A n c, .int .u32 Y.hop, .int .u32 Y.med, .int .u32 Y.pref, .int .u32 Y.aas, .int .u32 Y.aid, .slice B m d, .slice A2 n2 c2] ∧ FrB w1.heap.size none (UpM L1 L2 Y A1 n1 c1 A n c B m d A2 n2 c2) W)] from ⟨fun _ _ _ _ h => h, fun _ _ _ _ h => h, fun v wa wb hb ⟨A, n, c, e, h⟩ => ⟨A, n, c, e, h.below hb⟩, fun _ _ _ _ h => h, fun _ _ _ _ h => h, fun v wa wb hb ⟨A, n, c, B, m, d, e, h⟩ => ⟨A, n, c, B, m, d, e, h.below hb⟩, fun _ _ _ _ h => h, fun _ _ _ _ h => h, fun v wa wb hb ⟨A, n, c, e, h⟩ => ⟨A, n, c, e, h.below hb⟩, fun v wa wb hb ⟨A1, n1, c1, A, n, c, B, m, d, A2, n2, c2, e, h⟩ => ⟨A1, n1, c1, A, n, c, B, m, d, A2, n2, c2, e, h.below hb⟩, trivial⟩); refine wp_region_relT 10 _ (by kernel_rfl) (by kernel_rfl) (by kernel_rfl) (by kernel_rfl) (by kernel_rfl) (relMono _ Hmn.out) ⟨?_, ?_, ?_, ?_, ?_, ?_, ?_, ?_, ?_, ?_, trivial⟩ ?_
 ·exact relStep_plain rfl fun Ac w5 hp => pureM (ptv w.heap.size 0) 1 (hp.out 1 (by rfl))
 ·refine relStep_plain rfl ?_; intro Ac w5 hp; have hb := hp.bel; have hx5 := HX.out.below hb HX.out.lt; have x0 : w5.cell? ⟨w.heap.size, 0, none⟩ = some (.slice A1 n1 c1) := hx5.cell 0; exact pure1 (.slice A1 n1 c1) 3 (ptv w.heap.size 0) (hp.d 0)
 ·refine relStep_plain rfl ?_; intro Ac w5 hp; have hb := hp.bel; have a4 : Ac.eval (.tmp 4) = .slice A1 n1 c1 := hp.d 1; obtain ⟨ρ, hρ, hc, hf, hgl⟩ := evalX Ac; rw [hρ] at a4; refine relCall hρ 70 #[.slice A1 n1 c1, .int .i64 30] (by simp [go_sem, ↓IntWalk.iteOmega, *]) ?_; refine (HF1.out w5 hb).mono ?_; rintro e w6 ⟨A6, n6, c6, rfl, hl6, hk6, hb6⟩; exact ⟨_, rfl, ⟨A6, n6, c6, rfl, pz_frb hl6 (fun k hk => Nat.le_trans hb.size (hk6 k hk))⟩, hb6⟩
 ·exact relStep_plain rfl fun Ac w5 hp => pure1 (ptv w.heap.size 1) 1 (ptv w.heap.size 0) (hp.out 1 (by rfl))
 ·refine relStep_plain rfl ?_; intro Ac w5 hp; have hb := hp.bel; have hx5 := HX.out.below hb HX.out.lt; have x0 : w5.cell? ⟨w.heap.size, 0, none⟩ = some (.slice A1 n1 c1) := hx5.cell 0; have x1 : w5.cell? ⟨w.heap.size, 1, none⟩ = some (.int .i64 X.has) := hx5.cell 1; have x2 : w5.cell? ⟨w.heap.size, 2, none⟩ = some (.int .i64 X.org) := hx5.cell 2; have x3 : w5.cell? ⟨w.heap.size, 3, none⟩ = some (.slice A k c) := hx5.cell 3; have x4 : w5.cell? ⟨w.heap.size, 4, none⟩ = some (.int .u32 X.hop) := hx5.cell 4; have x5 : w5.cell? ⟨w.heap.size, 5, none⟩ = some (.int .u32 X.med) := hx5.cell 5; have x6 : w5.cell? ⟨w.heap.size, 6, none⟩ = some (.int .u32 X.pref) := hx5.cell 6; have x7 : w5.cell? ⟨w.heap.size, 7, none⟩ = some (.int .u32 X.aas) := hx5.cell 7; have x8 : w5.cell? ⟨w.heap.size, 8, none⟩ = some (.int .u32 X.aid) := hx5.cell 8; have x9 : w5.cell? ⟨w.heap.size, 9, none⟩ = some (.slice B m d) := hx5.cell 9; have x10 : w5.cell? ⟨w.heap.size, 10, none⟩ = some (.slice A2 n2 c2) := hx5.cell 10; exact pure1 (.agg #[.int .i64 X.has, .int .i64 X.org, .slice A k c, .int .u32 X.hop, .int .u32 X.med, .int .u32 X.pref, .int .u32 X.aas, .int .u32 X.aid, .slice B m d]) 6 (ptv w.heap.size 1) (hp.d 3)
 ·refine relStep_plain rfl ?_; intro Ac w5 hp; have hb := hp.bel; have a7 : Ac.eval (.tmp 7) = .agg #[.int .i64 X.has, .int .i64 X.org, .slice A k c, .int .u32 X.hop, .int .u32 X.med, .int .u32 X.pref, .int .u32 X.aas, .int .u32 X.aid, .slice B m d] := hp.d 4; obtain ⟨ρ, hρ, hc, hf, hgl⟩ := evalX Ac; rw [hρ] at a7; refine relCall hρ 56 #[.agg #[.int .i64 X.has, .int .i64 X.org, .slice A k c, .int .u32 X.hop, .int .u32 X.med, .int .u32 X.pref, .int .u32 X.aas, .int .u32 X.aid, .slice B m d]] (by simp [go_sem, ↓IntWalk.iteOmega, *]) ?_; refine (HF2.out w5 hb).mono ?_; rintro e w6 ⟨v6, rfl, ho6, hb6⟩; obtain ⟨A6, n6, c6, B6, m6, d6, rfl, hf6⟩ := ato_frb (ho6.less hb.size); exact ⟨_, rfl, ⟨A6, n6, c6, B6, m6, d6, rfl, hf6⟩, hb6⟩
 ·exact relStep_plain rfl fun Ac w5 hp => pure1 (ptv w.heap.size 10) 1 (ptv w.heap.size 0) (hp.out 1 (by rfl))
 ·refine relStep_plain rfl ?_; intro Ac w5 hp; have hb := hp.bel; have hx5 := HX.out.below hb HX.out.lt; have x10 : w5.cell? ⟨w.heap.size, 10, none⟩ = some (.slice A2 n2 c2) := hx5.cell 10; exact pure1 (.slice A2 n2 c2) 9 (ptv w.heap.size 10) (hp.d 6)
 ·refine relStep_plain rfl ?_; intro Ac w5 hp; have hb := hp.bel; have a10 : Ac.eval (.tmp 10) = .slice A2 n2 c2 := hp.d 7; obtain ⟨ρ, hρ, hc, hf, hgl⟩ := evalX Ac; rw [hρ] at a10; refine relCall hρ 70 #[.slice A2 n2 c2, .int .i64 30] (by simp [go_sem, ↓IntWalk.iteOmega, *]) ?_; refine (HF3.out w5 hb).mono ?_; rintro e w6 ⟨A6, n6, c6, rfl, hl6, hk6, hb6⟩; exact ⟨_, rfl, ⟨A6, n6, c6, rfl, pz_frb hl6 (fun k hk => Nat.le_trans hb.size (hk6 k hk))⟩, hb6⟩
 ·refine relStep_plain rfl ?_; intro Ac w5 hp; obtain ⟨A5, n5, c5, a5, hf5⟩ := hp.d 2; change Ac.eval (.tmp 5) = _ at a5; obtain ⟨A8, n8, c8, B8, m8, d8, a8, hf8⟩ := hp.d 5; change Ac.eval (.tmp 8) = _ at a8; obtain ⟨A11, n11, c11, a11, hf11⟩ := hp.d 8; change Ac.eval (.tmp 11) = _ at a11; exact relPureX (.agg #[.slice A5 n5 c5, .int .i64 Y.has, .int .i64 Y.org, .slice A8 n8 c8, .int .u32 Y.hop, .int .u32 Y.med, .int .u32 Y.pref, .int .u32 Y.aas, .int .u32 Y.aid, .slice B8 m8 d8, .slice A11 n11 c11]) (fun ρ hρ h1 h2 h3 => by rw [hρ] at a5 a8 a11; simp [go_sem, ↓IntWalk.iteOmega, *]) ⟨A5, n5, c5, A8, n8, c8, B8, m8, d8, A11, n11, c11, rfl, hf5.and (hf11.and hf8)⟩
 intro u w2 hb7 hall; obtain ⟨A12, n12, c12, A13, n13, c13, B13, m13, d13, A14, n14, c14, e12, hfr⟩ := relAll_at hall (i := 9) (by decide +kernel); change u 9 = _ at e12; clear hall; simp only [List.drop_succ_cons, List.drop_zero, List.take_succ_cons, List.take_zero, putAll, Act.put, List.setIfInBounds_toArray, List.set_cons_zero, List.set_cons_succ, Nat.zero_add, Nat.reduceAdd, e12]; have HB2 := hide (btr HB1.out hb7); have HZ2 := hide (HZ.out.below hb7 HZ.out.lt); have HFr := hide hfr; clear hb7 hfr; obtain ⟨z0, z1, z2, z3, z4, z5, z6, z7, z8, z9, z10⟩ := blk11 HZ2.out; have zf := fun i => HZ2.out.frozen i; go_wp2; change bodyPost _ _ _ _ _ (w2.setCells (w.heap.size + 1) 0 [.slice A12 n12 c12, .int .i64 Y.has, .int .i64 Y.org, .slice A13 n13 c13, .int .u32 Y.hop, .int .u32 Y.med, .int .u32 Y.pref, .int .u32 Y.aas, .int .u32 Y.aid, .slice B13 m13 d13, .slice A14 n14 c14]); obtain ⟨wF, hwF⟩ : ∃ x, w2.setCells (w.heap.size + 1) 0 [.slice A12 n12 c12, .int .i64 Y.has, .int .i64 Y.org, .slice A13 n13 c13, .int .u32 Y.hop, .int .u32 Y.med, .int .u32 Y.pref, .int .u32 Y.aas, .int .u32 Y.aid, .slice B13 m13 d13, .slice A14 n14 c14] = x := ⟨_, rfl⟩
 have HFk := hide (hwF ▸ blk_sets [.slice A12 n12 c12, .int .i64 Y.has, .int .i64 Y.org, .slice A13 n13 c13, .int .u32 Y.hop, .int .u32 Y.med, .int .u32 Y.pref, .int .u32 Y.aas, .int .u32 Y.aid, .slice B13 m13 d13, .slice A14 n14 c14] [] [.slice none 0 0, .int .i64 0, .int .i64 0, .slice none 0 0, .int .u32 0, .int .u32 0, .int .u32 0, .int .u32 0, .int .u32 0, .slice none 0 0, .slice none 0 0] HZ2.out rfl : Blk wF (w.heap.size + 1) 60 #[.slice A12 n12 c12, .int .i64 Y.has, .int .i64 Y.org, .slice A13 n13 c13, .int .u32 Y.hop, .int .u32 Y.med, .int .u32 Y.pref, .int .u32 Y.aas, .int .u32 Y.aid, .slice B13 m13 d13, .slice A14 n14 c14]); have HFb : Hid (Below w.heap.size w wF) := hide (hwF ▸ below_clear (Nat.le_succ _) _ _ HB2.out); have HFf : Hid (FrB w.heap.size none (UpM L1 L2 Y A12 n12 c12 A13 n13 c13 B13 m13 d13 A14 n14 c14) wF) := hide (hwF ▸ (fr_setsB [.slice A12 n12 c12, .int .i64 Y.has, .int .i64 Y.org, .slice A13 n13 c13, .int .u32 Y.hop, .int .u32 Y.med, .int .u32 Y.pref, .int .u32 Y.aas, .int .u32 Y.aid, .slice B13 m13 d13, .slice A14 n14 c14] 0 HFr.out (by omega)).less (by omega)); rw [hwF]; clear hwF zf z0 z1 z2 z3 z4 z5 z6 z7 z8 z9 z10; obtain ⟨q0, q1, q2, q3, q4, q5, q6, q7, q8, q9, q10⟩ := blk11 HFk.out; refine bodyPost_ret (v := .agg #[.slice A12 n12 c12, .int .i64 Y.has, .int .i64 Y.org, .slice A13 n13 c13, .int .u32 Y.hop, .int .u32 Y.med, .int .u32 Y.pref, .int .u32 Y.aas, .int .u32 Y.aid, .slice B13 m13 d13, .slice A14 n14 c14]) (by simp [results, Tryz.results26, go_sem, q0, q1, q2, q3, q4, q5, q6, q7, q8, q9, q10]) rfl ⟨A12, n12, c12, A13, n13, c13, B13, m13, d13, A14, n14, c14, rfl, HFf.out, HFb.out⟩
end Go.Proofs.YtmffmkjgdjgmeaaGreat
namespace Go.Proofs.YtmffmkjgdjgmeaaGreat
open Go.RowKit Go.WideShapes Go.ChangeShapes
def OkM2 (B0 : Nat) (X : AT) (b : Bool) (v : Value) (ob : Option Nat) (w : World) : Prop := ∃ A n c xs B m d, v = .tuple #[atV X.has X.org A n c X.hop X.med X.pref X.aas X.aid B m d, .bool b] ∧
  w.ownsRow B0 99 2 (.slice A n c) n xs ∧ Chunks 2 (fun w vs x => FrB B0 ob (fun w => sgR w vs x) w) w xs X.path ∧ FrB B0 ob (fun w => U32s w B m d X.comms) w
section
variable {X : AT} {b : Bool} {v : Value} {ob : Option Nat} {w w' : World} {R B0 : Nat}
theorem OkM2.below (h : OkM2 B0 X b v ob w) (hb : Below w.heap.size w w') : OkM2 B0 X b v ob w' := by
 obtain ⟨A, n, c, xs, B, m, d, e, h1, h2, h3⟩ := h; exact ⟨A, n, c, xs, B, m, d, e, own_kept h1 hb, chunks_fr_below h2 hb, h3.below hb⟩
theorem fr_any2 {b0 : Nat} {S : World → Prop} (h : FrB b0 none S w) (hB : B0 ≤ b0) (hob : ∀ k, ob = some k → k < b0) : FrB B0 ob S w := by
 intro w' ha; exact h w' ⟨ha.1, fun k o hk ho hc _ => ha.2 k o (Nat.le_trans hB hk) ho hc (fun e => by have := hob k e.symm; omega)⟩
theorem OkM2.of_low {b0 : Nat} (h : AtO b0 w X v) (hB : B0 ≤ b0) (hob : ∀ k, ob = some k → k < b0) : OkM2 B0 X b (.tuple #[v, .bool b]) ob w := by
 obtain ⟨A, n, c, xs, B, m, d, rfl, h1, h2⟩ := h; exact ⟨A, n, c, xs, B, m, d, rfl, own_baseLe h1.1 hB, ⟨h1.2.1, fun k x hx => fr_any2 (FrB.none_ (h1.2.2 k x hx)) hB hob⟩, fr_any2 h2 hB hob⟩
theorem fr_newer2 {S : World → Prop} (h : FrB B0 none S w) (hb : Below w.heap.size w w') (hob : w.heap.size ≤ R) : FrB B0 (some R) S w' := fr_new h hb (fun k e => by cases e; exact hob)
theorem OkM2.new (h : OkM2 B0 X b v none w) (hb : Below w.heap.size w w') (hR : w.heap.size ≤ R) : OkM2 B0 X b v (some R) w' := by
 obtain ⟨A, n, c, xs, B, m, d, e, h1, h2, h3⟩ := h; exact ⟨A, n, c, xs, B, m, d, e, own_kept h1 hb, ⟨h2.1, fun k x hx => fr_newer2 (h2.2 k x hx) hb hR⟩, fr_newer2 h3 hb hR⟩
theorem fr_sets2 {S : World → Prop} : ∀ (vs : List Value) (i : Nat) {w : World}, FrB B0 (some R) S w → FrB B0 (some R) S (w.setCells R i vs)
 | [], _, _, h => h
 | v :: vs, i, w, h => fr_sets2 vs (i + 1) (h.ag (AgB.grown (grownBy_set w R i v)))
theorem OkM2.sets {vs : List Value} {cs : Array Value} (h : OkM2 B0 X b v (some R) w) (hk : Blk w R 28 cs) : OkM2 B0 X b v (some R) (w.setCells R 0 vs) := by
 obtain ⟨A, n, c, xs, B, m, d, e, h1, h2, h3⟩ := h; exact ⟨A, n, c, xs, B, m, d, e, own_setsT (cs := cs) (by decide) vs 0 h1 hk, ⟨h2.1, fun k x hx => fr_sets2 vs 0 (h2.2 k x hx)⟩, fr_sets2 vs 0 h3⟩
theorem OkM2.rd (h : OkM2 B0 X b v ob w) : ∃ u, v = .tuple #[u, .bool b] ∧ AtR w X u := by
 obtain ⟨A, n, c, xs, B, m, d, e, h1, h2, h3⟩ := h; exact ⟨_, e, A, n, c, B, m, d, rfl, LstAt.of_own (by decide) h1 ⟨h2.1, fun k x hx => (h2.2 k x hx).here⟩, h3.here⟩
theorem okm2_frs {A : Option Addr} {n c : Nat} {B : Option Addr} {m d : Nat} {cs : Array Value} (hk : Blk w R 28 cs) (h : OkM2 B0 X b v (some R) w) (hv : v = .tuple #[atV X.has X.org A n c X.hop X.med X.pref X.aas X.aid B m d, .bool b]) :
  FrS (fun k => B0 ≤ k ∧ k < w.heap.size ∧ k ≠ R) none (fun w => atR w [.int .i64 X.has, .int .i64 X.org, .slice A n c, .int .u32 X.hop, .int .u32 X.med, .int .u32 X.pref, .int .u32 X.aas, .int .u32 X.aid, .slice B m d] X) w := by
 obtain ⟨A2, n2, c2, xs, B2, m2, d2, e, h1, h2, h3⟩ := h; rw [hv] at e; simp only [Value.tuple.injEq, Array.mk.injEq, List.cons.injEq, and_true, Value.agg.injEq, true_and, Value.slice.injEq] at e; obtain ⟨⟨rfl, rfl, rfl⟩, rfl, rfl, rfl⟩ := e; intro w2 ha; have hag : AgB B0 (some R) w w2 := ⟨ha.1, fun k o hk ho hc hne => ha.2 k o ⟨hk, heap_lt ho, fun e => hne (by rw [e])⟩ ho hc (by simp)⟩
 have hne := own_blk_ne h1 hk (by decide); refine ⟨_, _, _, _, _, _, rfl, LstAt.of_own (base := B0) (e := 99) (xs := xs) (by decide) ⟨h1.1, ?_⟩ ⟨h2.1, fun k x hx => h2.2 k x hx w2 hag⟩, h3 w2 hag⟩; rcases h1.2 with h4 | ⟨g, cap, cur, e1, e2, e3, rest⟩
 ·exact .inl h4
 ·refine .inr ⟨g, cap, cur, e1, e2, ha.2 g _ ⟨e2, heap_lt e3, fun e => ?_⟩ e3 rfl (by simp), rest⟩; subst e; exact hne (by rw [e1]; rfl)
end
structure OkX2 (k : Nat) (X : AT) (b : Bool) (B0 : Nat) (D : Nat → Bool) (u : Nat → Value) (w : World) : Prop where
  d1 : D (k + 1) = true → D k = true
  d2 : D (k + 2) = true → D k = true
  d3 : D (k + 3) = true → D k = true
  d5 : D (k + 5) = true → D k = true ∧ D (k + 4) = true
  c0 : D k = true → D (k + 4) = false → OkM2 B0 X b (u k) none w
  c1 : D (k + 1) = true → u (k + 1) = u k
  c2 : D (k + 2) = true → ∃ y z, u k = .tuple #[y, z] ∧ u (k + 2) = y
  c3 : D (k + 3) = true → ∃ y z, u k = .tuple #[y, z] ∧ u (k + 3) = z
  c4 : D (k + 4) = true → ∃ R, u (k + 4) = .pointer (some ⟨R, 0, none⟩) ∧ B0 ≤ R ∧ (∃ cs, Blk w R 28 cs ∧ (D (k + 5) = false → cs = zeroC)) ∧ (D k = true → OkM2 B0 X b (u k) (some R) w)
  c5 : D (k + 5) = true → ∃ R A n c B m d, u (k + 4) = .pointer (some ⟨R, 0, none⟩) ∧ u k = .tuple #[atV X.has X.org A n c X.hop X.med X.pref X.aas X.aid B m d, .bool b] ∧ Blk w R 28 (atC X.has X.org A n c X.hop X.med X.pref X.aas X.aid B m d)
section
variable {k : Nat} {X : AT} {b : Bool} {B0 : Nat} {D : Nat → Bool} {u : Nat → Value} {w w' : World}
theorem okx2_start (u : Nat → Value) (w : World) : OkX2 k X b B0 (fun _ => false) u w := by
 constructor <;> intro h <;> cases h
theorem okx2_below (h : OkX2 k X b B0 D u w) (hb : Below w.heap.size w w') : OkX2 k X b B0 D u w' :=
  ⟨h.d1, h.d2, h.d3, h.d5, fun a c => (h.c0 a c).below hb, h.c1, h.c2, h.c3, fun a => by
    obtain ⟨R, e, hR, ⟨cs, hk, hz⟩, hm⟩ := h.c4 a; exact ⟨R, e, hR, ⟨cs, hk.below hb hk.lt, hz⟩, fun c => (hm c).below hb⟩, fun a => by
    obtain ⟨R, A, n, c, B, m, d, e, e2, hk⟩ := h.c5 a; exact ⟨R, A, n, c, B, m, d, e, e2, hk.below hb hk.lt⟩⟩
theorem okx2_other {i : Nat} (hi : i < k ∨ k + 5 < i) (v : Value) (hb : Below w.heap.size w w') (h : OkX2 k X b B0 D u w) : OkX2 k X b B0 (updD D i) (updU u i v) w' := by
 have h' := okx2_below h hb
 have e : ∀ j, k ≤ j → j ≤ k + 5 → updD D i j = D j ∧ updU u i v j = u j := fun j h1 h2 => by
  unfold updD updU; rw [if_neg (by omega), if_neg (by omega)]; exact ⟨rfl, rfl⟩
 obtain ⟨a0, b0⟩ := e k (by omega) (by omega); obtain ⟨a1, b1⟩ := e (k + 1) (by omega) (by omega); obtain ⟨a2, b2⟩ := e (k + 2) (by omega) (by omega); obtain ⟨a3, b3⟩ := e (k + 3) (by omega) (by omega); obtain ⟨a4, b4⟩ := e (k + 4) (by omega) (by omega); obtain ⟨a5, b5⟩ := e (k + 5) (by omega) (by omega); constructor <;> simp only [a0, a1, a2, a3, a4, a5, b0, b1, b2, b3, b4, b5]
 ·exact h'.d1
 ·exact h'.d2
 ·exact h'.d3
 ·exact h'.d5
 ·exact h'.c0
 ·exact h'.c1
 ·exact h'.c2
 ·exact h'.c3
 ·exact h'.c4
 ·exact h'.c5
theorem okx2_call {y : Value} (hB0 : B0 ≤ w.heap.size) (h : OkX2 k X b B0 D u w) (hn : D k = false) (hb : Below w.heap.size w w') (hy : AtO w.heap.size w' X y) : OkX2 k X b B0 (updD D k) (updU u k (.tuple #[y, .bool b])) w' := by
 constructor <;> simp only [updD_self, updU_self, updD_ne D (show k + 1 ≠ k by omega), updD_ne D (show k + 2 ≠ k by omega), updD_ne D (show k + 3 ≠ k by omega), updD_ne D (show k + 4 ≠ k by omega), updD_ne D (show k + 5 ≠ k by omega), updU_ne u _ (show k + 1 ≠ k by omega), updU_ne u _ (show k + 2 ≠ k by omega), updU_ne u _ (show k + 3 ≠ k by omega), updU_ne u _ (show k + 4 ≠ k by omega)]
 ·exact fun _ => trivial
 ·exact fun _ => trivial
 ·exact fun _ => trivial
 ·exact fun e => ⟨trivial, (h.d5 e).2⟩
 ·exact fun _ _ => OkM2.of_low hy hB0 (fun k e => by cases e)
 ·exact fun e => b_no hn (h.d1 e)
 ·exact fun e => b_no hn (h.d2 e)
 ·exact fun e => b_no hn (h.d3 e)
 ·intro e; obtain ⟨R, e1, hR, ⟨cs, hk, hz⟩, hm⟩ := h.c4 e; exact ⟨R, e1, hR, ⟨cs, hk.below hb hk.lt, hz⟩, fun _ => OkM2.of_low hy hB0 (fun k e => by cases e; exact hk.lt)⟩
 ·exact fun e => b_no hn (h.d5 e).1
theorem okx2_move (h : OkX2 k X b B0 D u w) (hd : D k = true) : OkX2 k X b B0 (updD D (k + 1)) (updU u (k + 1) (u k)) w := by
 constructor <;> simp only [updD_self, updU_self, updD_ne D (show k ≠ k + 1 by omega), updD_ne D (show k + 2 ≠ k + 1 by omega), updD_ne D (show k + 3 ≠ k + 1 by omega), updD_ne D (show k + 4 ≠ k + 1 by omega), updD_ne D (show k + 5 ≠ k + 1 by omega), updU_ne u _ (show k ≠ k + 1 by omega), updU_ne u _ (show k + 2 ≠ k + 1 by omega), updU_ne u _ (show k + 3 ≠ k + 1 by omega), updU_ne u _ (show k + 4 ≠ k + 1 by omega)]
 ·exact fun _ => hd
 ·exact h.d2
 ·exact h.d3
 ·exact h.d5
 ·exact h.c0
 ·exact fun _ => trivial
 ·exact h.c2
 ·exact h.c3
 ·exact h.c4
 ·exact h.c5
theorem okx2_ext0 {y z : Value} (h : OkX2 k X b B0 D u w) (hd : D k = true) (hu : u k = .tuple #[y, z]) : OkX2 k X b B0 (updD D (k + 2)) (updU u (k + 2) y) w := by
 constructor <;> simp only [updD_self, updU_self, updD_ne D (show k ≠ k + 2 by omega), updD_ne D (show k + 1 ≠ k + 2 by omega), updD_ne D (show k + 3 ≠ k + 2 by omega), updD_ne D (show k + 4 ≠ k + 2 by omega), updD_ne D (show k + 5 ≠ k + 2 by omega), updU_ne u _ (show k ≠ k + 2 by omega), updU_ne u _ (show k + 1 ≠ k + 2 by omega), updU_ne u _ (show k + 3 ≠ k + 2 by omega), updU_ne u _ (show k + 4 ≠ k + 2 by omega)]
 ·exact h.d1
 ·exact fun _ => hd
 ·exact h.d3
 ·exact h.d5
 ·exact h.c0
 ·exact h.c1
 ·exact fun _ => ⟨y, z, hu, rfl⟩
 ·exact h.c3
 ·exact h.c4
 ·exact h.c5
theorem okx2_ext1 {y z : Value} (h : OkX2 k X b B0 D u w) (hd : D k = true) (hu : u k = .tuple #[y, z]) : OkX2 k X b B0 (updD D (k + 3)) (updU u (k + 3) z) w := by
 constructor <;> simp only [updD_self, updU_self, updD_ne D (show k ≠ k + 3 by omega), updD_ne D (show k + 1 ≠ k + 3 by omega), updD_ne D (show k + 2 ≠ k + 3 by omega), updD_ne D (show k + 4 ≠ k + 3 by omega), updD_ne D (show k + 5 ≠ k + 3 by omega), updU_ne u _ (show k ≠ k + 3 by omega), updU_ne u _ (show k + 1 ≠ k + 3 by omega), updU_ne u _ (show k + 2 ≠ k + 3 by omega), updU_ne u _ (show k + 4 ≠ k + 3 by omega)]
 ·exact h.d1
 ·exact h.d2
 ·exact fun _ => hd
 ·exact h.d5
 ·exact h.c0
 ·exact h.c1
 ·exact h.c2
 ·exact fun _ => ⟨y, z, hu, rfl⟩
 ·exact h.c4
 ·exact h.c5
theorem okx2_alloc (h : OkX2 k X b B0 D u w) (hn : D (k + 4) = false) (hB : B0 ≤ w.heap.size) : OkX2 k X b B0 (updD D (k + 4)) (updU u (k + 4) (.pointer (some ⟨w.heap.size, 0, none⟩))) (w.alloc (.cells zeroC 28)) := by
 have hb : Below w.heap.size w (w.alloc (.cells zeroC 28)) := (Below.refl _ w).alloc (Nat.le_refl _) _; constructor <;> simp only [updD_self, updU_self, updD_ne D (show k ≠ k + 4 by omega), updD_ne D (show k + 1 ≠ k + 4 by omega), updD_ne D (show k + 2 ≠ k + 4 by omega), updD_ne D (show k + 3 ≠ k + 4 by omega), updD_ne D (show k + 5 ≠ k + 4 by omega), updU_ne u _ (show k ≠ k + 4 by omega), updU_ne u _ (show k + 1 ≠ k + 4 by omega), updU_ne u _ (show k + 2 ≠ k + 4 by omega), updU_ne u _ (show k + 3 ≠ k + 4 by omega)]
 ·exact h.d1
 ·exact h.d2
 ·exact h.d3
 ·exact fun e => b_no hn (h.d5 e).2
 ·exact fun _ e => by cases e
 ·exact h.c1
 ·exact h.c2
 ·exact h.c3
 ·exact fun _ => ⟨_, rfl, hB, ⟨_, Blk.new w _ _, fun _ => rfl⟩, fun hc => (h.c0 hc hn).new hb (Nat.le_refl _)⟩
 ·exact fun e => b_no hn (h.d5 e).2
theorem okx2_store {R : Nat} {A : Option Addr} {n c : Nat} {B : Option Addr} {m d : Nat} (h : OkX2 k X b B0 D u w) (hd : D k = true) (hd4 : D (k + 4) = true) (hR : u (k + 4) = .pointer (some ⟨R, 0, none⟩)) (hn : D (k + 5) = false)
  (hu : u k = .tuple #[atV X.has X.org A n c X.hop X.med X.pref X.aas X.aid B m d, .bool b]) :
  OkX2 k X b B0 (updD D (k + 5)) (updU u (k + 5) undef) (w.setCells R 0 (aL X A n c B m d)) := by
 obtain ⟨R', e1, hB, ⟨cs, hk, hz⟩, hm⟩ := h.c4 hd4; rw [hR] at e1; simp only [Value.pointer.injEq, Option.some.injEq, Addr.mk.injEq, and_true] at e1; subst e1; obtain rfl := hz hn; have hk2 := blk9_set (v0 := .int .i64 X.has) (v1 := .int .i64 X.org) (v2 := .slice A n c) (v3 := .int .u32 X.hop) (v4 := .int .u32 X.med) (v5 := .int .u32 X.pref) (v6 := .int .u32 X.aas) (v7 := .int .u32 X.aid) (v8 := .slice B m d) hk; constructor <;> simp only [updD_self, updU_self, updD_ne D (show k ≠ k + 5 by omega), updD_ne D (show k + 1 ≠ k + 5 by omega), updD_ne D (show k + 2 ≠ k + 5 by omega), updD_ne D (show k + 3 ≠ k + 5 by omega), updD_ne D (show k + 4 ≠ k + 5 by omega), updU_ne u _ (show k ≠ k + 5 by omega), updU_ne u _ (show k + 1 ≠ k + 5 by omega), updU_ne u _ (show k + 2 ≠ k + 5 by omega), updU_ne u _ (show k + 3 ≠ k + 5 by omega), updU_ne u _ (show k + 4 ≠ k + 5 by omega)]
 ·exact h.d1
 ·exact h.d2
 ·exact h.d3
 ·exact fun _ => ⟨hd, hd4⟩
 ·exact fun _ e => b_no e hd4
 ·exact h.c1
 ·exact h.c2
 ·exact h.c3
 ·exact fun _ => ⟨R, hR, hB, ⟨_, hk2, fun e => by cases e⟩, fun _ => (hm hd).sets hk⟩
 ·exact fun _ => ⟨R, A, n, c, B, m, d, hR, hu, hk2⟩
theorem okx2_fin (h : OkX2 k X b B0 D u w) (hd : D k = true) (hd2 : D (k + 2) = true) (hd3 : D (k + 3) = true) (hd4 : D (k + 4) = true) (hd5 : D (k + 5) = true) :
  ∃ R A n c B m d, u (k + 4) = .pointer (some ⟨R, 0, none⟩) ∧ u (k + 3) = .bool b ∧ B0 ≤ R ∧ Blk w R 28 (atC X.has X.org A n c X.hop X.med X.pref X.aas X.aid B m d) ∧ LstAt 2 sgR w A n c X.path ∧ U32s w B m d X.comms ∧ FrS (fun k => B0 ≤ k ∧ k < w.heap.size ∧ k ≠ R) none (fun w => atR w [.int .i64 X.has, .int .i64 X.org, .slice A n c, .int .u32 X.hop, .int .u32 X.med, .int .u32 X.pref, .int .u32 X.aas, .int .u32 X.aid, .slice B m d] X) w := by
 obtain ⟨R, A, n, c, B, m, d, e1, e2, hk⟩ := h.c5 hd5; obtain ⟨R', e3, hB, _, hm⟩ := h.c4 hd4; rw [e1] at e3; simp only [Value.pointer.injEq, Option.some.injEq, Addr.mk.injEq, and_true] at e3; subst e3; have hfs := okm2_frs hk (hm hd) e2; obtain ⟨v, hv, ha⟩ := (hm hd).rd; obtain ⟨y, z, e4, e5⟩ := h.c3 hd3; rw [e2] at e4 hv; simp only [Value.tuple.injEq, Array.mk.injEq, List.cons.injEq, and_true] at e4 hv; obtain ⟨rfl, rfl⟩ := e4; subst hv; obtain ⟨A', n', c', B', m', d', e6, hl, hu⟩ := ha; simp only [Value.agg.injEq, Array.mk.injEq, List.cons.injEq, and_true, true_and, Value.slice.injEq] at e6; obtain ⟨⟨rfl, rfl, rfl⟩, rfl, rfl, rfl⟩ := e6; exact ⟨R, A, n, c, B, m, d, e1, e5, hB, hk, hl, hu, hfs⟩
end
theorem okx2_tup {k : Nat} {X : AT} {b : Bool} {B0 : Nat} {D : Nat → Bool} {u : Nat → Value} {w : World} (h : OkX2 k X b B0 D u w) (hd : D k = true) : ∃ A n c B m d, u k = .tuple #[atV X.has X.org A n c X.hop X.med X.pref X.aas X.aid B m d, .bool b] := by
 cases h4 : D (k + 4) with
 | false =>
  obtain ⟨A, n, c, xs, B, m, d, e, _⟩ := h.c0 hd h4; exact ⟨A, n, c, B, m, d, e⟩
 | true =>
  obtain ⟨R, _, _, _, hm⟩ := h.c4 h4; obtain ⟨A, n, c, xs, B, m, d, e, _⟩ := hm hd; exact ⟨A, n, c, B, m, d, e⟩
end Go.Proofs.YtmffmkjgdjgmeaaGreat
namespace Go.Proofs.YtmffmkjgdjgmeaaGreat
open Go.RowKit Go.WideShapes Go.ChangeShapes
attribute [local go_sem] Oper.semAt_some
theorem pxC_push (D : List (Nat × Nat)) (a n : Nat) : pxC D ++ [.int .u32 (a : Int), .int .i64 (n : Int)] = pxC (D ++ [(a, n)]) := by simp [pxC, List.flatMap_append]
set_option maxRecDepth 100000 in
set_option maxHeartbeats 16000000 in
theorem feedG_any (own ax r g n1 n2 c1 c2 : Nat) (F SL : Nat → Prop) (t : Tr AT) (l1 l2 : List (Nat × Nat)) (A1 A2 : Option Addr) (X : AT) (A : Option Addr) (k c : Nat) (B : Option Addr) (m d : Nat) (Y : AT) (OK : Bool) (w : World) (hY : accF own ax X = (Y, OK)) (hr : Blk w r 120 #[.int .u32 (own : Int), .int .u32 0, .int .u32 (ax : Int), .int .i64 0, .bool false, .string ⟨#[]⟩, .string ⟨#[]⟩, .string ⟨#[]⟩, .bool false, .string ⟨#[]⟩, .string ⟨#[]⟩, .string ⟨#[]⟩, .bool false, .pointer (some ⟨g, 0, none⟩)]) (hT : TrT F w g t) (hSl : ∀ j, SL j → j < w.heap.size ∧ j ≠ g ∧ j ∉ trB t) (hu : FrS SL none (fun W => LstAt 2 pxR W A1 n1 c1 l1 ∧ LstAt 2 pxR W A2 n2 c2 l2 ∧ AtR W X (.agg #[.int .i64 X.has, .int .i64 X.org, .slice A k c, .int .u32 X.hop, .int .u32 X.med, .int .u32 X.pref, .int .u32 X.aas, .int .u32 X.aid, .slice B m d])) w) (hg1 : ∀ x ∈ l1, PG x.1 x.2) (hg2 : ∀ x ∈ l2, PG x.1 x.2) (hX : AtOk X) (hn1 : n1 ≤ 1000) (hn2 : n2 ≤ 1000) (hct : trCnt t + n2 < 90000) :
    Calls Tryz.prog 72 #[.pointer (some ⟨r, 0, none⟩), .agg #[.slice A1 n1 c1, .int .i64 X.has, .int .i64 X.org, .slice A k c, .int .u32 X.hop, .int .u32 X.med, .int .u32 X.pref, .int .u32 X.aas, .int .u32 X.aid, .slice B m d, .slice A2 n2 c2]] w fun e w' => ∃ A3 n3 c3 F2 t2, e = .returned (.tuple #[.slice A3 n3 c3, .bool false]) ∧ LstAt 2 pxR w' A3 n3 c3 (fedF Y OK (trL t) l1 l2).2 ∧ trL t2 = (fedF Y OK (trL t) l1 l2).1 ∧ n3 ≤ n1 + n2 ∧ TrT F2 w' g t2 ∧ (∀ j ∈ trB t2, j ∈ trB t ∨ w.heap.size ≤ j) ∧ trCnt t2 ≤ trCnt t + n2 ∧ Blk w' r 120 #[.int .u32 (own : Int), .int .u32 0, .int .u32 (ax : Int), .int .i64 0, .bool false, .string ⟨#[]⟩, .string ⟨#[]⟩, .string ⟨#[]⟩, .bool false, .string ⟨#[]⟩, .string ⟨#[]⟩, .string ⟨#[]⟩, .bool false, .pointer (some ⟨g, 0, none⟩)] ∧ ChgS (fun j => j = g ∨ j ∈ trB t) w w' ∧ (∀ j, F2 j → F j ∨ w.heap.size ≤ j) := by
  obtain ⟨i0, hi, hz0, hz1, hz2⟩ := info_parts pxInfo; obtain ⟨w0, hw0⟩ : ∃ w0, w.alloc (.cells #[.slice A1 n1 c1, .int .i64 X.has, .int .i64 X.org, .slice A k c, .int .u32 X.hop, .int .u32 X.med, .int .u32 X.pref, .int .u32 X.aas, .int .u32 X.aid, .slice B m d, .slice A2 n2 c2] 60) = w0 := ⟨_, rfl⟩
  have hb0 : Below w.heap.size w w0 := hw0 ▸ blkBelow1 w _; have HX : Hid (Blk w0 w.heap.size 60 #[.slice A1 n1 c1, .int .i64 X.has, .int .i64 X.org, .slice A k c, .int .u32 X.hop, .int .u32 X.med, .int .u32 X.pref, .int .u32 X.aas, .int .u32 X.aid, .slice B m d, .slice A2 n2 c2]) := hide (hw0 ▸ Blk.new w _ _); have HR := hide (hr.below hb0 hr.lt); have HT := hide (hT.below hb0); have HU0 := hide (frs_chg hu (chg_below (S := fun _ => False) hb0) (fun _ _ h => h)); have HAcc := hide (fun W (hA : AtR W X (.agg #[.int .i64 X.has, .int .i64 X.org, .slice A k c, .int .u32 X.hop, .int .u32 X.med, .int .u32 X.pref, .int .u32 X.aas, .int .u32 X.aid, .slice B m d])) => accF_eq hY hA hX.1 hX.2); have HYo := hide (accF_ok hY hX); have HSl := hide hSl; have HG1 := hide hg1; have HG2 := hide hg2; have HCt0 := hide hct; have HBl : Hid (∀ j ∈ trB t, j < w.heap.size) := hide hT.tree.mem.lt; have HLF : Hid (∀ j, F j → j < w.heap.size) := hide hT.low; have hgl := hT.root.lt; have hrl := hr.lt; have HgB := hide hT.gB; have hl1 : l1.length = n1 := (frs_here hu).1.1; have hl2 : l2.length = n2 := (frs_here hu).2.1.1; have HL1 := hide hl1; have HL2 := hide hl2; have hs0 : w0.heap.size = w.heap.size + 1 := (by rw [← hw0]; simp)
  have hr0 : r < w0.heap.size := (by omega)
  have HB0 := hide hb0; have HW0 := hide hw0; clear hw0 hb0 hY hr hT hSl hu hg1 hg2 hX hct hl1 hl2; have x0 : w0.cell? ⟨w.heap.size, 0, none⟩ = some (.slice A1 n1 c1) := HX.out.cell 0
  go_enter Tryz.func72, Tryz.ntmps72
  go_wp2; rw [HW0.out]; clear x0
  go_loopw [4, 15] (fun vo iv wr => ∃ (q n3 : Nat) (A3 : Option Addr) (c3 : Nat) (t1 : Tr AT) (D : List (Nat × Nat)), q ≤ n1 ∧ n3 ≤ q ∧ iv = .int .i64 (q : Nat) ∧ vo = .slice A3 n3 c3 ∧ wr.ownsRow w0.heap.size 24 2 (.slice A3 n3 c3) n3 (pxC D) ∧ Blk wr r 120 #[.int .u32 (own : Int), .int .u32 0, .int .u32 (ax : Int), .int .i64 0, .bool false, .string ⟨#[]⟩, .string ⟨#[]⟩, .string ⟨#[]⟩, .bool false, .string ⟨#[]⟩, .string ⟨#[]⟩, .string ⟨#[]⟩, .bool false, .pointer (some ⟨g, 0, none⟩)] ∧ TrT F wr g t1 ∧ (∀ j ∈ trB t1, j ∈ trB t) ∧ (trL t1, D) = (l1.take q).foldl goneF (trL t, []) ∧ trCnt t1 ≤ trCnt t ∧ ChgS (fun j => j = g ∨ j ∈ trB t) w0 wr) (fun _ iv _ => n1 - (intOf iv).toNat)
  case atStart => exact ⟨0, 0, none, 0, t, [], Nat.zero_le _, Nat.le_refl _, rfl, rfl, ⟨by simp [pxC], .inl ⟨rfl, rfl⟩⟩, HR.out, HT.out, fun j hj => hj, rfl, Nat.le_refl _, chg_refl _ _⟩
  case round =>
    obtain ⟨q, n3, A3, c3, t1, D, hq, hnq, rfl, rfl, hown, hrr, htt, htl, hfo, hct, hc2⟩ := hrel; have HO := hide hown; have HRr2 := hide hrr; have HTt := hide htt; have HTl := hide htl; have HFo := hide hfo; have HCt := hide hct; have HC2 := hide hc2; have HUr := hide (frs_chg HU0.out hc2 (fun j hj hw => hw.elim (HSl.out j hj).2.1 (HSl.out j hj).2.2)); have hP1 := (frs_here HUr.out).1; have hsr := hc2.size; clear hown hrr htt htl hfo hct hc2; by_cases hlt : q < n1
    · obtain ⟨g3, o, a, n0, e3, hg3, hx, f0, f1⟩ := PXat hP1 hlt; have hPg := HG1.out (a, n0) (List.mem_of_getElem? hx); have HPg : Hid (PG a n0) := hide hPg; have HTk : Hid (l1.take (q + 1) = l1.take q ++ [(a, n0)]) := hide (by rw [List.take_add_one, hx]; rfl); have q1 : (q : Int) < (n1 : Int) := (by omega)
      have q0 : (0 : Int) ≤ (q : Int) := (by omega)
      have hwq : IntKind.i64.wrap ((q : Int) + 1) = (q : Int) + 1 := (by rw [IntKind.wrap_i64]; omega)
      obtain ⟨IS, hIS⟩ : ∃ b, (trGet a n0 t1).isSome = b := ⟨_, rfl⟩
      have HIS := hide hIS; obtain ⟨w4, hw4⟩ : ∃ W, wr.alloc (.cells #[.int .u32 (a : Int), .int .i64 (n0 : Int)] 24) = W := ⟨_, rfl⟩
      have hb4 : Below wr.heap.size wr w4 := hw4 ▸ blkBelow1 wr _; have HBx : Hid (Blk w4 wr.heap.size 24 #[.int .u32 (a : Int), .int .i64 (n0 : Int)]) := hide (hw4 ▸ Blk.new wr _ _); have HRr := hide (HRr2.out.below hb4 HRr2.out.lt); have HT4 := hide (HTt.out.below hb4); have HCu := hide (rcut_any own ax F r g a n0 t1 w4 hPg HRr.out HT4.out); rw [hIS] at HCu; have HB4 := hide hb4; have HW4 := hide hw4; have hs4 := hb4.size; clear hb4 hw4 hx hPg hIS hP1; subst e3
      go_upto_region 4 with fail
      rw [HW4.out]; clear f0 f1; have y2 : w4.cell? ⟨wr.heap.size, 0, none⟩ = some (.int .u32 (a : Int)) := HBx.out.cell 0; have y3 : w4.cell? ⟨wr.heap.size, 1, none⟩ = some (.int .i64 (n0 : Int)) := HBx.out.cell 1
      go_wp2_with fail
      refine HCu.out.mono ?_; rintro e w5 ⟨rfl, t5, hl5, hT5, hB5, hc5, hn5⟩; have HR5 := hide (trt_keepB HT4.out hc5 HRr.out (by decide) (by decide)); have HBx5 := hide (trt_keepB HT4.out hc5 HBx.out (by decide) (by decide)); have HO5 := hide (trt_keepO HT4.out hc5 (own_below HO.out HB4.out) (by decide) (by decide)); have HC5 : Hid (ChgS (fun j => j = g ∨ j ∈ trB t) w0 w5) := hide (chg_trans (chg_trans HC2.out (chg_below (S := fun _ => False) HB4.out) (fun k h => h.elim)) hc5 (fun k h => .inl (h.imp id (HTl.out k)))); have HTl5 : Hid (∀ j ∈ trB t5, j ∈ trB t) := hide (fun j hj => HTl.out j (hB5 j hj)); have HN5 : Hid (trCnt t5 ≤ trCnt t) := hide (Nat.le_trans hn5 HCt.out); have HT5 := hide hT5; have HF5 := hide (goneF_step HTt.out.tree.wf HIS.out hl5 HTk.out HFo.out); have hs5 := HC5.out.size; clear hl5 hT5 hB5 hc5 hn5 y2 y3
      cases IS with
      | false =>
        go_wp2
        go_roundw
        case rel => exact ⟨q + 1, n3, A3, c3, t5, D, by omega, by omega, by go_num, rfl, HO5.out, HR5.out, HT5.out, HTl5.out, HF5.out, HN5.out, HC5.out⟩
        case measure => simp [intOf]; omega
      | true =>
        have y2 : w5.cell? ⟨wr.heap.size, 0, none⟩ = some (.int .u32 (a : Int)) := HBx5.out.cell 0; have y3 : w5.cell? ⟨wr.heap.size, 1, none⟩ = some (.int .i64 (n0 : Int)) := HBx5.out.cell 1
        go_wp2_with (at_builtin; refine wpList_append_any _ rfl (.tmp 22) (.tmp 24) 36 rfl w0.heap.size 24 i0 _ 2 16 Tryz.underlying36 hi hz0 hz1 hz2 rfl (by decide) (.slice A3 n3 c3) n3 _ rfl (HO5.out.alloc _) (w5.heap.size + 1) (some ⟨w5.heap.size, 0, none⟩) 1 1 [.int .u32 (a : Int), .int .i64 (n0 : Int)] rfl (reads_blkN (Blk.new _ _ _) (by simp) rfl rfl) (by simp [Value.oneCell']) (by unfold maxLen; omega) (by omega) (by simp; omega) ?_; intro v' w6 h5 h6 h7; obtain ⟨AN, cN, rfl⟩ := own_slice h5; have HON := hide h5; have HGN := hide h6; have HVN := hide h7; clear h5 h6 h7)
        have HB6 : Hid (Below w0.heap.size w5 w6) := hide (((Below.refl w0.heap.size w5).alloc hs5 _).grown HGN.out (by simp; omega) (fun k hk => own_low_block HO5.out k hk)); have HCg : Hid (ChgS (fun j => w0.heap.size ≤ j) w5 w6) := hide (chg_trans (chg_below (S := fun j => w0.heap.size ≤ j) (blkBelow1 w5 _)) (chg_grown (S := fun j => w0.heap.size ≤ j) HGN.out (fun k hk => own_low_block HO5.out k hk)) (fun k h => .inl h)); have HR6 := hide (HR5.out.below HB6.out hr0); have HT6 := hide (HT5.out.chg HCg.out (fun j hj hw => by have := HBl.out j (HTl5.out j hj); omega) (fun j hj hw => by have := HLF.out j hj; omega) (by omega)); have HC6 := hide (chg_trans HC5.out HCg.out (fun k h => .inr h))
        go_roundw
        case rel => exact ⟨q + 1, n3 + 1, AN, cN, t5, D ++ [(a, n0)], by omega, by omega, by go_num, rfl, (pxC_push D a n0) ▸ HON.out, HR6.out, HT6.out, HTl5.out, HF5.out, HN5.out, HC6.out⟩
        case measure => simp [intOf]; omega
    · clear hP1; have hqn : n1 = q := (by omega)
      subst hqn; have e1 : decide ((n1 : Int) < (n1 : Int)) = false := (by simp)
      have HF1 : Hid ((trL t1, D) = l1.foldl goneF (trL t, [])) := hide (by have h := HFo.out; rwa [List.take_of_length_le (by rw [HL1.out]; exact Nat.le_refl _)] at h); obtain ⟨wA, hwA⟩ : ∃ x, x = wr := ⟨_, rfl⟩
      subst hwA; have HRA := hide HRr2.out; have HXA := hide (chg_blk HC2.out HX.out (fun h => h.elim (fun e => by omega) (fun h => by have := HBl.out _ h; omega))); have HAcc := hide (fun W (hb : Below wA.heap.size wA W) => HAcc.out W ((frs_here HUr.out).2.2.below hb)); clear hlt
      go_upto_region 7 with fail
      have Hmn := hide (show AllMono [(isV (ptv r 0)), (isV (ptv r 0)), (isV (ptv r 0)), (isV (.int .u32 (own : Int))), (isV (ptv r 0)), (isV (ptv r 0)), (isV (ptv r 1)), (isV (ptv r 2)), (isV (.int .u32 (ax : Int))), (isV (ptv w.heap.size 1)), (isV (.agg #[.int .i64 X.has, .int .i64 X.org, .slice A k c, .int .u32 X.hop, .int .u32 X.med, .int .u32 X.pref, .int .u32 X.aas, .int .u32 X.aid, .slice B m d])), (fun _ _ => True), (fun _ _ => True), (fun _ _ => True), (fun _ _ => True), (fun _ _ => True), (fun _ _ => True)] from ⟨fun _ _ _ _ h => h, fun _ _ _ _ h => h, fun _ _ _ _ h => h, fun _ _ _ _ h => h, fun _ _ _ _ h => h, fun _ _ _ _ h => h, fun _ _ _ _ h => h, fun _ _ _ _ h => h, fun _ _ _ _ h => h, fun _ _ _ _ h => h, fun _ _ _ _ h => h, fun _ _ _ _ _ => trivial, fun _ _ _ _ _ => trivial, fun _ _ _ _ _ => trivial, fun _ _ _ _ _ => trivial, fun _ _ _ _ _ => trivial, fun _ _ _ _ _ => trivial, trivial⟩); have Hfl := hide (show AllFlat [(isV (ptv r 0)), (isV (ptv r 0)), (isV (ptv r 0)), (isV (.int .u32 (own : Int))), (isV (ptv r 0)), (isV (ptv r 0)), (isV (ptv r 1)), (isV (ptv r 2)), (isV (.int .u32 (ax : Int))), (isV (ptv w.heap.size 1)), (isV (.agg #[.int .i64 X.has, .int .i64 X.org, .slice A k c, .int .u32 X.hop, .int .u32 X.med, .int .u32 X.pref, .int .u32 X.aas, .int .u32 X.aid, .slice B m d])), (fun _ _ => True), (fun _ _ => True), (fun _ _ => True), (fun _ _ => True), (fun _ _ => True), (fun _ _ => True)] from by repeat (first | exact trivial | refine ⟨fun _ _ _ h => h, ?_⟩)); refine wp_region_relX 17 wA.heap.size (Nat.le_refl _) [(isV (ptv r 0)), (isV (ptv r 0)), (isV (ptv r 0)), (isV (.int .u32 (own : Int))), (isV (ptv r 0)), (isV (ptv r 0)), (isV (ptv r 1)), (isV (ptv r 2)), (isV (.int .u32 (ax : Int))), (isV (ptv w.heap.size 1)), (isV (.agg #[.int .i64 X.has, .int .i64 X.org, .slice A k c, .int .u32 X.hop, .int .u32 X.med, .int .u32 X.pref, .int .u32 X.aas, .int .u32 X.aid, .slice B m d])), (fun _ _ => True), (fun _ _ => True), (fun _ _ => True), (fun _ _ => True), (fun _ _ => True), (fun _ _ => True)] (OkX2 11 Y OK wA.heap.size) (by kernel_rfl) (by kernel_rfl) (by kernel_rfl) (by kernel_rfl) (by kernel_rfl) (okx2_start _ _) ⟨?_, ?_, ?_, ?_, ?_, ?_, ?_, ?_, ?_, ?_, ?_, ?_, ?_, ?_, ?_, ?_, ?_, trivial⟩ ?_
      · refine relX_plain rfl rfl Hmn.out (Nat.le_refl _) (fun D u v w w2 hb h => okx2_other (by omega) v hb h) ?_; intro Dn Ac w5 hp; have a0 : Ac.eval (.tmp 0) = .pointer (some ⟨r, 0, none⟩) := hp.out 0 (by rfl); exact relPureX (.pointer (some ⟨r, 0, none⟩)) (fun ρ hρ h1 h2 h3 => by rw [hρ] at a0; simp [go_sem, ↓IntWalk.iteOmega, *]) rfl
      · refine relX_plain rfl rfl Hmn.out (Nat.le_refl _) (fun D u v w w2 hb h => okx2_other (by omega) v hb h) ?_; intro Dn Ac w5 hp; have a28 : Ac.eval (.tmp 28) = .pointer (some ⟨r, 0, none⟩) := hp.d 0; exact relPureX (.pointer (some ⟨r, 0, none⟩)) (fun ρ hρ h1 h2 h3 => by rw [hρ] at a28; simp [go_sem, ↓IntWalk.iteOmega, *]) rfl
      · refine relX_plain rfl rfl Hmn.out (Nat.le_refl _) (fun D u v w w2 hb h => okx2_other (by omega) v hb h) ?_; intro Dn Ac w5 hp; have a29 : Ac.eval (.tmp 29) = .pointer (some ⟨r, 0, none⟩) := hp.d 1; exact relPureX (.pointer (some ⟨r, 0, none⟩)) (fun ρ hρ h1 h2 h3 => by rw [hρ] at a29; simp [go_sem, ↓IntWalk.iteOmega, *]) rfl
      · refine relX_plain rfl rfl Hmn.out (Nat.le_refl _) (fun D u v w w2 hb h => okx2_other (by omega) v hb h) ?_; intro Dn Ac w5 hp; have hb := hp.bel; have a30 : Ac.eval (.tmp 30) = .pointer (some ⟨r, 0, none⟩) := hp.d 2; have hr5 := HRA.out.below hb HRA.out.lt; have r0 : w5.cell? ⟨r, 0, none⟩ = some (.int .u32 (own : Int)) := hr5.cell 0; have r2 : w5.cell? ⟨r, 2, none⟩ = some (.int .u32 (ax : Int)) := hr5.cell 2; exact relPureX (.int .u32 (own : Int)) (fun ρ hρ h1 h2 h3 => by rw [hρ] at a30; simp [go_sem, ↓IntWalk.iteOmega, *]) rfl
      · refine relX_plain rfl rfl Hmn.out (Nat.le_refl _) (fun D u v w w2 hb h => okx2_other (by omega) v hb h) ?_; intro Dn Ac w5 hp; have a0 : Ac.eval (.tmp 0) = .pointer (some ⟨r, 0, none⟩) := hp.out 0 (by rfl); exact relPureX (.pointer (some ⟨r, 0, none⟩)) (fun ρ hρ h1 h2 h3 => by rw [hρ] at a0; simp [go_sem, ↓IntWalk.iteOmega, *]) rfl
      · refine relX_plain rfl rfl Hmn.out (Nat.le_refl _) (fun D u v w w2 hb h => okx2_other (by omega) v hb h) ?_; intro Dn Ac w5 hp; have a32 : Ac.eval (.tmp 32) = .pointer (some ⟨r, 0, none⟩) := hp.d 4; exact relPureX (.pointer (some ⟨r, 0, none⟩)) (fun ρ hρ h1 h2 h3 => by rw [hρ] at a32; simp [go_sem, ↓IntWalk.iteOmega, *]) rfl
      · refine relX_plain rfl rfl Hmn.out (Nat.le_refl _) (fun D u v w w2 hb h => okx2_other (by omega) v hb h) ?_; intro Dn Ac w5 hp; have a33 : Ac.eval (.tmp 33) = .pointer (some ⟨r, 0, none⟩) := hp.d 5; exact relPureX (.pointer (some ⟨r, 1, none⟩)) (fun ρ hρ h1 h2 h3 => by rw [hρ] at a33; simp [go_sem, ↓IntWalk.iteOmega, *]) rfl
      · refine relX_plain rfl rfl Hmn.out (Nat.le_refl _) (fun D u v w w2 hb h => okx2_other (by omega) v hb h) ?_; intro Dn Ac w5 hp; have a34 : Ac.eval (.tmp 34) = .pointer (some ⟨r, 1, none⟩) := hp.d 6; exact relPureX (.pointer (some ⟨r, 2, none⟩)) (fun ρ hρ h1 h2 h3 => by rw [hρ] at a34; simp [go_sem, ↓IntWalk.iteOmega, *]) rfl
      · refine relX_plain rfl rfl Hmn.out (Nat.le_refl _) (fun D u v w w2 hb h => okx2_other (by omega) v hb h) ?_; intro Dn Ac w5 hp; have hb := hp.bel; have a35 : Ac.eval (.tmp 35) = .pointer (some ⟨r, 2, none⟩) := hp.d 7; have hr5 := HRA.out.below hb HRA.out.lt; have r0 : w5.cell? ⟨r, 0, none⟩ = some (.int .u32 (own : Int)) := hr5.cell 0; have r2 : w5.cell? ⟨r, 2, none⟩ = some (.int .u32 (ax : Int)) := hr5.cell 2; exact relPureX (.int .u32 (ax : Int)) (fun ρ hρ h1 h2 h3 => by rw [hρ] at a35; simp [go_sem, ↓IntWalk.iteOmega, *]) rfl
      · refine relX_plain rfl rfl Hmn.out (Nat.le_refl _) (fun D u v w w2 hb h => okx2_other (by omega) v hb h) ?_; intro Dn Ac w5 hp; have a3 : Ac.eval (.tmp 3) = .pointer (some ⟨w.heap.size, 0, none⟩) := hp.out 3 (by rfl); exact relPureX (.pointer (some ⟨w.heap.size, 1, none⟩)) (fun ρ hρ h1 h2 h3 => by rw [hρ] at a3; simp [go_sem, ↓IntWalk.iteOmega, *]) rfl
      · refine relX_plain rfl rfl Hmn.out (Nat.le_refl _) (fun D u v w w2 hb h => okx2_other (by omega) v hb h) ?_; intro Dn Ac w5 hp; have hb := hp.bel; have a37 : Ac.eval (.tmp 37) = .pointer (some ⟨w.heap.size, 1, none⟩) := hp.d 9; have hx5 := HXA.out.below hb HXA.out.lt; have x0 : w5.cell? ⟨w.heap.size, 0, none⟩ = some (.slice A1 n1 c1) := hx5.cell 0; have x1 : w5.cell? ⟨w.heap.size, 1, none⟩ = some (.int .i64 X.has) := hx5.cell 1; have x2 : w5.cell? ⟨w.heap.size, 2, none⟩ = some (.int .i64 X.org) := hx5.cell 2; have x3 : w5.cell? ⟨w.heap.size, 3, none⟩ = some (.slice A k c) := hx5.cell 3; have x4 : w5.cell? ⟨w.heap.size, 4, none⟩ = some (.int .u32 X.hop) := hx5.cell 4; have x5 : w5.cell? ⟨w.heap.size, 5, none⟩ = some (.int .u32 X.med) := hx5.cell 5; have x6 : w5.cell? ⟨w.heap.size, 6, none⟩ = some (.int .u32 X.pref) := hx5.cell 6; have x7 : w5.cell? ⟨w.heap.size, 7, none⟩ = some (.int .u32 X.aas) := hx5.cell 7; have x8 : w5.cell? ⟨w.heap.size, 8, none⟩ = some (.int .u32 X.aid) := hx5.cell 8; have x9 : w5.cell? ⟨w.heap.size, 9, none⟩ = some (.slice B m d) := hx5.cell 9; have x10 : w5.cell? ⟨w.heap.size, 10, none⟩ = some (.slice A2 n2 c2) := hx5.cell 10; exact relPureX (.agg #[.int .i64 X.has, .int .i64 X.org, .slice A k c, .int .u32 X.hop, .int .u32 X.med, .int .u32 X.pref, .int .u32 X.aas, .int .u32 X.aid, .slice B m d]) (fun ρ hρ h1 h2 h3 => by rw [hρ] at a37; simp [go_sem, ↓IntWalk.iteOmega, *]) rfl
      · refine relX_op rfl rfl Hmn.out (Nat.le_refl _) ?_; intro D Ac w5 hp; have hb := hp.bel; have a31 : Ac.eval (.tmp 31) = .int .u32 (own : Int) := hp.d 3; have a36 : Ac.eval (.tmp 36) = .int .u32 (ax : Int) := hp.d 8; have a38 : Ac.eval (.tmp 38) = .agg #[.int .i64 X.has, .int .i64 X.org, .slice A k c, .int .u32 X.hop, .int .u32 X.med, .int .u32 X.pref, .int .u32 X.aas, .int .u32 X.aid, .slice B m d] := hp.d 10; have hx := hp.ext; have hno := hp.no; obtain ⟨ρ, hρ, hc, hf, hgl⟩ := evalX Ac; rw [hρ] at a31 a36 a38; refine relCallS hρ 168 #[.int .u32 (own : Int), .int .u32 (ax : Int), .agg #[.int .i64 X.has, .int .i64 X.org, .slice A k c, .int .u32 X.hop, .int .u32 X.med, .int .u32 X.pref, .int .u32 X.aas, .int .u32 X.aid, .slice B m d]] (by simp [go_sem, ↓IntWalk.iteOmega, *]) ?_; refine (HAcc.out w5 hb).mono ?_; rintro e w6 ⟨v6, rfl, ho6, hb6⟩; exact ⟨_, rfl, trivial, hb6, okx2_call hb.size hx hno hb6 ho6⟩
      · refine relX_op rfl rfl Hmn.out (Nat.le_refl _) ?_; intro D Ac w5 hp; have hd : D 11 = true := hp.dn 11 (by kernel_rfl); obtain ⟨ρ, hρ⟩ : ∃ ρ, Ac.eval = ρ := ⟨_, rfl⟩
        refine relPureS hρ (Ac.eval (.tmp 39)) (by rw [hρ]; simp [go_sem]) ⟨trivial, Below.refl _ _, ?_⟩; exact okx2_move hp.ext hd
      · refine relX_op rfl rfl Hmn.out (Nat.le_refl _) ?_; intro D Ac w5 hp; have hd1 : D 12 = true := hp.dn 12 (by kernel_rfl); have hd := hp.ext.d1 hd1; obtain ⟨A6, n6, c6, B6, m6, d6, hu6⟩ := okx2_tup hp.ext hd; have hu7 := (hp.ext.c1 hd1).trans hu6; change Ac.eval (.tmp 27) = _ at hu7; have hx := hp.ext; obtain ⟨ρ, hρ⟩ : ∃ ρ, Ac.eval = ρ := ⟨_, rfl⟩
        rw [hρ] at hu7; refine relPureS hρ _ (by simp [go_sem, hu7]) ⟨trivial, Below.refl _ _, okx2_ext0 hx hd hu6⟩
      · refine relX_op rfl rfl Hmn.out (Nat.le_refl _) ?_; intro D Ac w5 hp; have hd1 : D 12 = true := hp.dn 12 (by kernel_rfl); have hd := hp.ext.d1 hd1; obtain ⟨A6, n6, c6, B6, m6, d6, hu6⟩ := okx2_tup hp.ext hd; have hu7 := (hp.ext.c1 hd1).trans hu6; change Ac.eval (.tmp 27) = _ at hu7; have hx := hp.ext; obtain ⟨ρ, hρ⟩ : ∃ ρ, Ac.eval = ρ := ⟨_, rfl⟩
        rw [hρ] at hu7; refine relPureS hρ _ (by simp [go_sem, hu7]) ⟨trivial, Below.refl _ _, okx2_ext1 hx hd hu6⟩
      · refine relX_op rfl rfl Hmn.out (Nat.le_refl _) ?_; intro D Ac w5 hp; obtain ⟨ρ, hρ⟩ : ∃ ρ, Ac.eval = ρ := ⟨_, rfl⟩
        refine relValS hρ (.pointer (some ⟨w5.heap.size, 0, none⟩)) (w5.alloc (.cells zeroC 28)) (by simp [go_sem]) ⟨trivial, (Below.refl _ _).alloc (Nat.le_refl _) _, okx2_alloc hp.ext hp.no hp.bel.size⟩
      · refine relX_store rfl ?_; intro D Ac w5 hp; have hd4 : D 15 = true := hp.dn 15 (by kernel_rfl); have hd2 : D 13 = true := hp.dn 13 (by kernel_rfl); have hd := hp.ext.d2 hd2; obtain ⟨A6, n6, c6, B6, m6, d6, hu6⟩ := okx2_tup hp.ext hd; obtain ⟨y6, z6, hy, hv⟩ := hp.ext.c2 hd2; rw [hu6] at hy; simp only [Value.tuple.injEq, Array.mk.injEq, List.cons.injEq, and_true] at hy; obtain ⟨rfl, rfl⟩ := hy; obtain ⟨R6, hR6, hB6, ⟨cs6, hk6, hz6⟩, _⟩ := hp.ext.c4 hd4; obtain rfl := hz6 hp.no; have hpt := hR6; change Ac.eval (.tmp 8) = _ at hpt; change Ac.eval (.tmp 40) = _ at hv; exact ⟨_, .inl (exec_store rfl hpt hv (storeA hk6)), trivial, below_sets _ 0 (Below.refl _ _) hB6, fun j _ hj => relFlat _ Hfl.out _ _ _ _ (hp.has j hj), okx2_store hp.ext hd hd4 hR6 hp.no hu6⟩
      intro u w7 hb7 hall hox; obtain ⟨R9, A9, n9, c9, B9, m9, d9, hp9, hb9, hB9, hk9, hl9, hu9, hf9⟩ := okx2_fin hox (by decide) (by decide) (by decide) (by decide) (by decide); change u 15 = _ at hp9; change u 14 = _ at hb9; clear hall; simp only [List.drop_succ_cons, List.drop_zero, List.take_succ_cons, List.take_zero, putAll, Act.put, List.setIfInBounds_toArray, List.set_cons_zero, List.set_cons_succ, Nat.zero_add, Nat.reduceAdd, hp9, hb9]; have HR7 := hide (HRA.out.below hb7 HRA.out.lt); have HX7 := hide (HXA.out.below hb7 HXA.out.lt); have HT7 := hide (HTt.out.below hb7); have HO7 := hide (own_below HO.out hb7); have HC7 : Hid (ChgS (fun j => j = g ∨ j ∈ trB t) w0 w7) := hide (chg_trans HC2.out (chg_below (S := fun _ => False) hb7) (fun k h => h.elim)); have HA7 : Hid (Blk w7 R9 28 (aC Y A9 n9 c9 B9 m9 d9)) := hide hk9; have HF9 := hide hf9; have HU7 := hide (frs_chg HUr.out (chg_below (S := fun _ => False) hb7) (fun _ _ h => h)); have hs7 := hb7.size; have HOb : Hid (∀ j, (Value.slice A3 n3 c3).ownBlock = some j → j < wA.heap.size) := hide (own_block_lt HO.out); clear hb7 hk9 hl9 hu9 hf9; have x10 : w7.cell? ⟨w.heap.size, 10, none⟩ = some (.slice A2 n2 c2) := HX7.out.cell 10; go_wp2; clear x10
      cases OK with
      | false =>
        go_loopw [4, 45] (fun vo iv wr => ∃ (q n3 : Nat) (A3 : Option Addr) (c3 : Nat) (t2 : Tr AT) (D2 : List (Nat × Nat)), q ≤ n2 ∧ n3 ≤ n1 + q ∧ iv = .int .i64 (q : Nat) ∧ vo = .slice A3 n3 c3 ∧ wr.ownsRow w0.heap.size 24 2 (.slice A3 n3 c3) n3 (pxC D2) ∧ Blk wr r 120 #[.int .u32 (own : Int), .int .u32 0, .int .u32 (ax : Int), .int .i64 0, .bool false, .string ⟨#[]⟩, .string ⟨#[]⟩, .string ⟨#[]⟩, .bool false, .string ⟨#[]⟩, .string ⟨#[]⟩, .string ⟨#[]⟩, .bool false, .pointer (some ⟨g, 0, none⟩)] ∧ TrT F wr g t2 ∧ (∀ j ∈ trB t2, j ∈ trB t) ∧ (trL t2, D2) = (l2.take q).foldl goneF (trL t1, D) ∧ trCnt t2 ≤ trCnt t ∧ ChgS (fun j => j = g ∨ j ∈ trB t) w0 wr) (fun _ iv _ => n2 - (intOf iv).toNat)
        case atStart => exact ⟨0, n3, A3, c3, t1, D, Nat.zero_le _, by omega, rfl, rfl, HO7.out, HR7.out, HT7.out, HTl.out, rfl, HCt.out, HC7.out⟩
        case round =>
          clear HO HRr2 HTt HC2 HUr HT7 HO7 HR7 HA7 HF9 HU7 HX7 HXA HRA HAcc HCt HFo HTl; obtain ⟨q2, n5, A5, c5, t2, D2, hq, hnq, rfl, rfl, hown, hrr, htt, htl, hfo, hct, hc2⟩ := hrel; have HO := hide hown; have HRr2 := hide hrr; have HTt := hide htt; have HTl := hide htl; have HFo := hide hfo; have HCt := hide hct; have HC2 := hide hc2; have HUr := hide (frs_chg HU0.out hc2 (fun j hj hw => hw.elim (HSl.out j hj).2.1 (HSl.out j hj).2.2)); have hP1 := (frs_here HUr.out).2.1; have hsr := hc2.size; clear hown hrr htt htl hfo hct hc2; by_cases hlt : q2 < n2
          · obtain ⟨g3, o, a, n0, e3, hg3, hx, f0, f1⟩ := PXat hP1 hlt; have hPg := HG2.out (a, n0) (List.mem_of_getElem? hx); have HPg : Hid (PG a n0) := hide hPg; have HTk : Hid (l2.take (q2 + 1) = l2.take q2 ++ [(a, n0)]) := hide (by rw [List.take_add_one, hx]; rfl); have q1 : (q2 : Int) < (n2 : Int) := (by omega)
            have q0 : (0 : Int) ≤ (q2 : Int) := (by omega)
            have hwq : IntKind.i64.wrap ((q2 : Int) + 1) = (q2 : Int) + 1 := (by rw [IntKind.wrap_i64]; omega)
            obtain ⟨IS, hIS⟩ : ∃ b, (trGet a n0 t2).isSome = b := ⟨_, rfl⟩
            have HIS := hide hIS; obtain ⟨w4, hw4⟩ : ∃ W, wr.alloc (.cells #[.int .u32 (a : Int), .int .i64 (n0 : Int)] 24) = W := ⟨_, rfl⟩
            have hb4 : Below wr.heap.size wr w4 := hw4 ▸ blkBelow1 wr _; have HBx : Hid (Blk w4 wr.heap.size 24 #[.int .u32 (a : Int), .int .i64 (n0 : Int)]) := hide (hw4 ▸ Blk.new wr _ _); have HRr := hide (HRr2.out.below hb4 HRr2.out.lt); have HT4 := hide (HTt.out.below hb4); have HCu := hide (rcut_any own ax F r g a n0 t2 w4 hPg HRr.out HT4.out); rw [hIS] at HCu; have HB4 := hide hb4; have HW4 := hide hw4; have hs4 := hb4.size; clear hb4 hw4 hx hPg hIS hP1; subst e3
            go_upto_region 11 with fail
            rw [HW4.out]; clear f0 f1; have y2 : w4.cell? ⟨wr.heap.size, 0, none⟩ = some (.int .u32 (a : Int)) := HBx.out.cell 0; have y3 : w4.cell? ⟨wr.heap.size, 1, none⟩ = some (.int .i64 (n0 : Int)) := HBx.out.cell 1
            go_wp2_with fail
            refine HCu.out.mono ?_; rintro e w5 ⟨rfl, t5, hl5, hT5, hB5, hc5, hn5⟩; have HR5 := hide (trt_keepB HT4.out hc5 HRr.out (by decide) (by decide)); have HBx5 := hide (trt_keepB HT4.out hc5 HBx.out (by decide) (by decide)); have HO5 := hide (trt_keepO HT4.out hc5 (own_below HO.out HB4.out) (by decide) (by decide)); have HC5 : Hid (ChgS (fun j => j = g ∨ j ∈ trB t) w0 w5) := hide (chg_trans (chg_trans HC2.out (chg_below (S := fun _ => False) HB4.out) (fun k h => h.elim)) hc5 (fun k h => .inl (h.imp id (HTl.out k)))); have HTl5 : Hid (∀ j ∈ trB t5, j ∈ trB t) := hide (fun j hj => HTl.out j (hB5 j hj)); have HN5 : Hid (trCnt t5 ≤ trCnt t) := hide (Nat.le_trans hn5 HCt.out); have HT5 := hide hT5; have HF5 := hide (goneF_step HTt.out.tree.wf HIS.out hl5 HTk.out HFo.out); have hs5 := HC5.out.size; clear hl5 hT5 hB5 hc5 hn5 y2 y3
            cases IS with
            | false =>
              go_wp2
              go_roundw
              case rel => exact ⟨q2 + 1, n5, A5, c5, t5, D2, by omega, by omega, by go_num, rfl, HO5.out, HR5.out, HT5.out, HTl5.out, HF5.out, HN5.out, HC5.out⟩
              case measure => simp [intOf]; omega
            | true =>
              have y2 : w5.cell? ⟨wr.heap.size, 0, none⟩ = some (.int .u32 (a : Int)) := HBx5.out.cell 0; have y3 : w5.cell? ⟨wr.heap.size, 1, none⟩ = some (.int .i64 (n0 : Int)) := HBx5.out.cell 1
              go_wp2_with (at_builtin; refine wpList_append_any _ rfl (.tmp 75) (.tmp 77) 36 rfl w0.heap.size 24 i0 _ 2 16 Tryz.underlying36 hi hz0 hz1 hz2 rfl (by decide) (.slice A5 n5 c5) n5 _ rfl (HO5.out.alloc _) (w5.heap.size + 1) (some ⟨w5.heap.size, 0, none⟩) 1 1 [.int .u32 (a : Int), .int .i64 (n0 : Int)] rfl (reads_blkN (Blk.new _ _ _) (by simp) rfl rfl) (by simp [Value.oneCell']) (by unfold maxLen; omega) (by omega) (by simp; omega) ?_; intro v' w6 h5 h6 h7; obtain ⟨AN, cN, rfl⟩ := own_slice h5; have HON := hide h5; have HGN := hide h6; have HVN := hide h7; clear h5 h6 h7)
              have HB6 : Hid (Below w0.heap.size w5 w6) := hide (((Below.refl w0.heap.size w5).alloc hs5 _).grown HGN.out (by simp; omega) (fun k hk => own_low_block HO5.out k hk)); have HCg : Hid (ChgS (fun j => w0.heap.size ≤ j) w5 w6) := hide (chg_trans (chg_below (S := fun j => w0.heap.size ≤ j) (blkBelow1 w5 _)) (chg_grown (S := fun j => w0.heap.size ≤ j) HGN.out (fun k hk => own_low_block HO5.out k hk)) (fun k h => .inl h)); have HR6 := hide (HR5.out.below HB6.out hr0); have HT6 := hide (HT5.out.chg HCg.out (fun j hj hw => by have := HBl.out j (HTl5.out j hj); omega) (fun j hj hw => by have := HLF.out j hj; omega) (by omega)); have HC6 := hide (chg_trans HC5.out HCg.out (fun k h => .inr h))
              go_roundw
              case rel => exact ⟨q2 + 1, n5 + 1, AN, cN, t5, D2 ++ [(a, n0)], by omega, by omega, by go_num, rfl, (pxC_push D2 a n0) ▸ HON.out, HR6.out, HT6.out, HTl5.out, HF5.out, HN5.out, HC6.out⟩
              case measure => simp [intOf]; omega
          · clear hP1; have hqn : n2 = q2 := (by omega)
            subst hqn; have e1 : decide ((n2 : Int) < (n2 : Int)) = false := (by simp)
            have HE : Hid (fedF Y false (trL t) l1 l2 = (trL t2, D2)) := hide (by
              have h := HFo.out; rw [List.take_of_length_le (by rw [HL2.out]; exact Nat.le_refl _)] at h; unfold fedF; rw [if_neg (by decide), ← HF1.out, ← h])
            clear hlt; go_wp2; refine bodyPost_ret (v := .tuple #[.slice A5 n5 c5, .bool false]) (by simp [results, Tryz.results72, go_sem]) rfl ⟨A5, n5, c5, F, t2, rfl, (by rw [HE.out]; exact own_pxs HO.out), (by rw [HE.out]), hnq, HTt.out, fun j hj => .inl (HTl.out j hj), Nat.le_trans HCt.out (Nat.le_add_right _ _), HRr2.out, chg_trans (chg_below HB0.out) HC2.out (fun k h => .inl h), fun j h => .inl h⟩
      | true =>
        go_loopw [4, 45] (fun vo iv wr => ∃ (q n5 : Nat) (A5 : Option Addr) (c5 : Nat) (t2 : Tr AT) (D2 : List (Nat × Nat)) (Fq : Nat → Prop), q ≤ n2 ∧ n5 ≤ n1 + q ∧ iv = .int .i64 (q : Nat) ∧ vo = .slice A5 n5 c5 ∧ wr.ownsRow w0.heap.size 24 2 (.slice A5 n5 c5) n5 (pxC D2) ∧ Blk wr r 120 #[.int .u32 (own : Int), .int .u32 0, .int .u32 (ax : Int), .int .i64 0, .bool false, .string ⟨#[]⟩, .string ⟨#[]⟩, .string ⟨#[]⟩, .bool false, .string ⟨#[]⟩, .string ⟨#[]⟩, .string ⟨#[]⟩, .bool false, .pointer (some ⟨g, 0, none⟩)] ∧ TrT Fq wr g t2 ∧ (∀ j ∈ trB t2, j ∈ trB t ∨ w7.heap.size ≤ j) ∧ (trL t2, D2) = (l2.take q).foldl (putF Y) (trL t1, D) ∧ trCnt t2 ≤ trCnt t + q ∧ ChgS (fun j => j = g ∨ j ∈ trB t) w0 wr ∧ (∀ j, Fq j → F j ∨ (wA.heap.size ≤ j ∧ j < w7.heap.size ∧ j ≠ R9)) ∧ (∀ j, (Value.slice A5 n5 c5).ownBlock = some j → ¬ (wA.heap.size ≤ j ∧ j < w7.heap.size ∧ j ≠ R9)) ∧ Blk wr R9 28 (aC Y A9 n9 c9 B9 m9 d9) ∧ FrS (fun k => wA.heap.size ≤ k ∧ k < w7.heap.size ∧ k ≠ R9) none (fun w => atR w [.int .i64 Y.has, .int .i64 Y.org, .slice A9 n9 c9, .int .u32 Y.hop, .int .u32 Y.med, .int .u32 Y.pref, .int .u32 Y.aas, .int .u32 Y.aid, .slice B9 m9 d9] Y) wr ∧ w7.heap.size ≤ wr.heap.size) (fun _ iv _ => n2 - (intOf iv).toNat)
        case atStart => exact ⟨0, n3, A3, c3, t1, D, F, Nat.zero_le _, by omega, rfl, rfl, HO7.out, HR7.out, HT7.out, fun j hj => .inl (HTl.out j hj), rfl, HCt.out, HC7.out, fun j hj => .inl hj, fun j hj h => by have := HOb.out j hj; exact absurd h.1 (by omega), HA7.out, HF9.out, Nat.le_refl _⟩
        case round =>
          have hsA := HC2.out.size; clear HO HRr2 HTt HC2 HUr HT7 HO7 HR7 HA7 HF9 HU7 HX7 HXA HRA HAcc HCt HFo HTl; obtain ⟨q2, n5, A5, c5, t2, D2, Fq, hq, hnq, rfl, rfl, hown, hrr, htt, htl, hfo, hct, hc2, hfq, hof, ha9, hf9, hs9⟩ := hrel; have HO := hide hown; have HRr2 := hide hrr; have HTt := hide htt; have HTl := hide htl; have HFo := hide hfo; have HCt := hide hct; have HC2 := hide hc2; have HFq := hide hfq; have HOf := hide hof; have HA9 := hide ha9; have HF9 := hide hf9; have HUr := hide (frs_chg HU0.out hc2 (fun j hj hw => hw.elim (HSl.out j hj).2.1 (HSl.out j hj).2.2)); have hP1 := (frs_here HUr.out).2.1; have hsr := hc2.size; clear hown hrr htt htl hfo hct hc2 hfq hof ha9 hf9; by_cases hlt : q2 < n2
          · obtain ⟨g3, o, a, n0, e3, hg3, hx, f0, f1⟩ := PXat hP1 hlt; have hPg := HG2.out (a, n0) (List.mem_of_getElem? hx); have HPg : Hid (PG a n0) := hide hPg; have HTk : Hid (l2.take (q2 + 1) = l2.take q2 ++ [(a, n0)]) := hide (by rw [List.take_add_one, hx]; rfl); have q1 : (q2 : Int) < (n2 : Int) := (by omega)
            have q0 : (0 : Int) ≤ (q2 : Int) := (by omega)
            have hwq : IntKind.i64.wrap ((q2 : Int) + 1) = (q2 : Int) + 1 := (by rw [IntKind.wrap_i64]; omega)
            obtain ⟨w4, hw4⟩ : ∃ W, wr.alloc (.cells #[.int .u32 (a : Int), .int .i64 (n0 : Int)] 24) = W := ⟨_, rfl⟩
            have hb4 : Below wr.heap.size wr w4 := hw4 ▸ blkBelow1 wr _; have HBx : Hid (Blk w4 wr.heap.size 24 #[.int .u32 (a : Int), .int .i64 (n0 : Int)]) := hide (hw4 ▸ Blk.new wr _ _); have HRr := hide (HRr2.out.below hb4 HRr2.out.lt); have HT4 := hide (HTt.out.below hb4); have HFl := hide (full_any own ax Fq r g a n0 t2 w4 hPg HRr.out HT4.out); have HB4 := hide hb4; have HW4 := hide hw4; clear hb4 hw4 hx hPg hP1; subst e3
            go_upto_region 11 with fail
            rw [HW4.out]; clear f0 f1; have y2 : w4.cell? ⟨wr.heap.size, 0, none⟩ = some (.int .u32 (a : Int)) := HBx.out.cell 0; have y3 : w4.cell? ⟨wr.heap.size, 1, none⟩ = some (.int .i64 (n0 : Int)) := HBx.out.cell 1
            go_wp2_with fail
            refine HFl.out.mono ?_; rintro e w9 ⟨rfl, hb9⟩; have HB9 := hide (btr HB4.out hb9); have HRp := hide (HRr.out.below hb9 HRr.out.lt); have HPp := hide (HBx.out.below hb9 HBx.out.lt); have HAp := hide (HA9.out.below HB9.out HA9.out.lt); clear hb9 y2 y3
            go_upto_region 15 with fail
            have Hmn := hide (show AllMono [(isV (ptv r 0)), (isV (ptv r 0)), (isV (ptv r 13)), (isV (ptv g 0)), (isV (.agg #[.int .u32 (a : Int), .int .i64 (n0 : Int)])), (isV (.agg #[.int .i64 Y.has, .int .i64 Y.org, .slice A9 n9 c9, .int .u32 Y.hop, .int .u32 Y.med, .int .u32 Y.pref, .int .u32 Y.aas, .int .u32 Y.aid, .slice B9 m9 d9]))] from by repeat (first | exact trivial | refine ⟨fun _ _ _ _ h => h, ?_⟩)); refine wp_region_relT 6 _ (by kernel_rfl) (by kernel_rfl) (by kernel_rfl) (by kernel_rfl) (by kernel_rfl) (relMono _ Hmn.out) ⟨?_, ?_, ?_, ?_, ?_, ?_, trivial⟩ ?_
            · exact relStep_plain rfl fun Ac w5 hp => pureM (ptv r 0) 0 (hp.out 0 (by rfl))
            · exact relStep_plain rfl fun Ac w5 hp => pureM (ptv r 0) 68 (hp.d 0)
            · exact relStep_plain rfl fun Ac w5 hp => pure1 (ptv r 13) 69 (ptv r 0) (hp.d 1)
            · refine relStep_plain rfl ?_; intro Ac w5 hp; have hb := hp.bel; have hr5 := HRp.out.below hb HRp.out.lt; have r13 : w5.cell? ⟨r, 13, none⟩ = some (ptv g 0) := hr5.cell 13; exact pure1 (ptv g 0) 70 (ptv r 13) (hp.d 2)
            · refine relStep_plain rfl ?_; intro Ac w5 hp; have hb := hp.bel; have hx5 := HPp.out.below hb HPp.out.lt; have x0 : w5.cell? ⟨wr.heap.size, 0, none⟩ = some (.int .u32 (a : Int)) := hx5.cell 0; have x1 : w5.cell? ⟨wr.heap.size, 1, none⟩ = some (.int .i64 (n0 : Int)) := hx5.cell 1; exact pure1 (.agg #[.int .u32 (a : Int), .int .i64 (n0 : Int)]) 11 (ptv wr.heap.size 0) (hp.out 11 (by rfl))
            · refine relStep_plain rfl ?_; intro Ac w5 hp; have hb := hp.bel; have ha5 := HAp.out.below hb HAp.out.lt; have y0 : w5.cell? ⟨R9, 0, none⟩ = some (.int .i64 Y.has) := ha5.cell 0; have y1 : w5.cell? ⟨R9, 1, none⟩ = some (.int .i64 Y.org) := ha5.cell 1; have y2 : w5.cell? ⟨R9, 2, none⟩ = some (.slice A9 n9 c9) := ha5.cell 2; have y3 : w5.cell? ⟨R9, 3, none⟩ = some (.int .u32 Y.hop) := ha5.cell 3; have y4 : w5.cell? ⟨R9, 4, none⟩ = some (.int .u32 Y.med) := ha5.cell 4; have y5 : w5.cell? ⟨R9, 5, none⟩ = some (.int .u32 Y.pref) := ha5.cell 5; have y6 : w5.cell? ⟨R9, 6, none⟩ = some (.int .u32 Y.aas) := ha5.cell 6; have y7 : w5.cell? ⟨R9, 7, none⟩ = some (.int .u32 Y.aid) := ha5.cell 7; have y8 : w5.cell? ⟨R9, 8, none⟩ = some (.slice B9 m9 d9) := ha5.cell 8; exact pure1 (.agg #[.int .i64 Y.has, .int .i64 Y.org, .slice A9 n9 c9, .int .u32 Y.hop, .int .u32 Y.med, .int .u32 Y.pref, .int .u32 Y.aas, .int .u32 Y.aid, .slice B9 m9 d9]) 8 (ptv R9 0) (hp.out 8 (by rfl))
            intro u w10 hb7 hall; have e71 : u 3 = .pointer (some ⟨g, 0, none⟩) := relAll_at hall (i := 3) (by decide +kernel); have e72 : u 4 = .agg #[.int .u32 (a : Int), .int .i64 (n0 : Int)] := relAll_at hall (i := 4) (by decide +kernel); have e73 : u 5 = .agg #[.int .i64 Y.has, .int .i64 Y.org, .slice A9 n9 c9, .int .u32 Y.hop, .int .u32 Y.med, .int .u32 Y.pref, .int .u32 Y.aas, .int .u32 Y.aid, .slice B9 m9 d9] := relAll_at hall (i := 5) (by decide +kernel); clear hall; simp only [List.drop_succ_cons, List.drop_zero, List.take_succ_cons, List.take_zero, putAll, Act.put, List.setIfInBounds_toArray, List.set_cons_zero, List.set_cons_succ, Nat.zero_add, Nat.reduceAdd, e71, e72, e73]; have HB10 := hide (btr HB9.out hb7); have hs10 := HB10.out.size; have HT10 := hide (HTt.out.below HB10.out); have HR10 := hide (HRr2.out.below HB10.out HRr2.out.lt); have HA10 := hide (HA9.out.below HB10.out HA9.out.lt); have HP10 := hide (HPp.out.below hb7 HPp.out.lt); have HO10 := hide (own_below HO.out HB10.out); have HF10 := hide (frs_chg HF9.out (chg_below (S := fun _ => False) HB10.out) (fun _ _ h => h)); have hct0 := HCt0.out; have hct2 := HCt.out; have HtS : Hid (∀ j ∈ trB t2, ¬ (wA.heap.size ≤ j ∧ j < w7.heap.size ∧ j ≠ R9)) := hide (fun j hj h => (HTl.out j hj).elim (fun hm => by have := HBl.out j hm; omega) (fun hm => by omega)); have HgS : Hid (¬ (wA.heap.size ≤ g ∧ g < w7.heap.size ∧ g ≠ R9)) := hide (fun h => by omega); have HPt := hide (trputS_any Fq (fun k => wA.heap.size ≤ k ∧ k < w7.heap.size ∧ k ≠ R9) g t2 a n0 Y A9 n9 c9 B9 m9 d9 w10 HT10.out HPg.out HYo.out HF10.out (fun j hj => by omega) HgS.out HtS.out (by omega)); clear hb7 e71 e72 e73
            go_wp2_with fail
            refine HPt.out.mono ?_; rintro e w11 ⟨⟨v11, q11, rfl⟩, t5, hl5, hn5, hT5, hj5, hc5⟩; have HR11 := hide (trt_keepB HT10.out hc5 HR10.out (by decide) (by decide)); have HA11 := hide (trt_keepB HT10.out hc5 HA10.out (by decide) (by decide)); have HP11 := hide (trt_keepB HT10.out hc5 HP10.out (by decide) (by decide)); have HO11 := hide (trt_keepO HT10.out hc5 HO10.out (by decide) (by decide)); have HF11 := hide (frs_chg HF10.out hc5 (fun j hj hw => hw.elim (fun e => HgS.out (e ▸ hj)) (fun h => HtS.out j h hj))); have HC11 : Hid (ChgS (fun j => j = g ∨ j ∈ trB t) w0 w11) := hide (chg_trans (chg_trans HC2.out (chg_below (S := fun _ => False) HB10.out) (fun k h => h.elim)) hc5 (fun k h => h.elim (fun e => .inl (.inl e)) (fun h => (HTl.out k h).elim (fun h => .inl (.inr h)) (fun h => .inr (by omega))))); have HT11 := hide hT5; have HJ11 : Hid (∀ j ∈ trB t5, j ∈ trB t ∨ w7.heap.size ≤ j) := hide (fun j hj => (hj5 j hj).elim (HTl.out j) (fun h => .inr (by omega))); have HN11 : Hid (trCnt t5 ≤ trCnt t + (q2 + 1)) := hide (by omega); have HF5 := hide (putF_step hl5 HTk.out HFo.out); have hs11 := hc5.size; have hs0a : w0.heap.size ≤ w11.heap.size := (by omega)
            clear hl5 hn5 hT5 hj5 hc5; have y2 : w11.cell? ⟨wr.heap.size, 0, none⟩ = some (.int .u32 (a : Int)) := HP11.out.cell 0; have y3 : w11.cell? ⟨wr.heap.size, 1, none⟩ = some (.int .i64 (n0 : Int)) := HP11.out.cell 1
            go_wp2_with (at_builtin; refine wpList_append_any _ rfl (.tmp 75) (.tmp 77) 36 rfl w0.heap.size 24 i0 _ 2 16 Tryz.underlying36 hi hz0 hz1 hz2 rfl (by decide) (.slice A5 n5 c5) n5 _ rfl (HO11.out.alloc _) (w11.heap.size + 1) (some ⟨w11.heap.size, 0, none⟩) 1 1 [.int .u32 (a : Int), .int .i64 (n0 : Int)] rfl (reads_blkN (Blk.new _ _ _) (by simp) rfl rfl) (by simp [Value.oneCell']) (by unfold maxLen; omega) (by omega) (by simp; omega) ?_; intro v' w12 h5 h6 h7; obtain ⟨AN, cN, rfl⟩ := own_slice h5; have HON := hide h5; have HGN := hide h6; have HVN := hide h7; clear h5 h6 h7)
            have HCg : Hid (ChgS (fun j => (Value.slice A5 n5 c5).ownBlock = some j) w11 w12) := hide (chg_trans (chg_below (S := fun j => (Value.slice A5 n5 c5).ownBlock = some j) (blkBelow1 w11 _)) (chg_grown (S := fun j => (Value.slice A5 n5 c5).ownBlock = some j) HGN.out (fun k hk => hk)) (fun k h => .inl h)); have HR12 := hide (chg_blk HCg.out HR11.out (fun e => own_blk_ne HO11.out HR11.out (by decide) e)); have HA12 := hide (chg_blk HCg.out HA11.out (fun e => own_blk_ne HO11.out HA11.out (by decide) e)); have HT12 := hide (HT11.out.chg HCg.out (fun j hj hw => by obtain ⟨cs2, hb2⟩ := trw_blkA HT11.out.tree.mem j hj; exact own_blk_ne HO11.out hb2 (by decide) hw) (fun j hj hw => hj.elim (fun h => (HFq.out j h).elim (fun h => by have := HLF.out j h; have := own_low_block HO11.out j hw; omega) (fun h => HOf.out j hw h)) (fun h => HOf.out j hw h)) (fun hw => by have := own_low_block HO11.out g hw; omega)); have HF12 := hide (frs_chg HF11.out HCg.out (fun j hj hw => HOf.out j hw hj)); have HC12 := hide (chg_trans HC11.out HCg.out (fun k h => .inr (own_low_block HO11.out k h)))
            have HO12 : Hid (∀ j, (Value.slice AN (n5 + 1) cN).ownBlock = some j → ¬ (wA.heap.size ≤ j ∧ j < w7.heap.size ∧ j ≠ R9)) := hide (fun j hj h => HVN.out.elim (fun e => HOf.out j (e ▸ hj) h) (fun e => by
              rw [e] at hj; simp at hj; omega))
            have hs12 := HCg.out.size
            go_roundw
            case rel => exact ⟨q2 + 1, n5 + 1, AN, cN, t5, D2 ++ [(a, n0)], _, by omega, by omega, by go_num, rfl, (pxC_push D2 a n0) ▸ HON.out, HR12.out, HT12.out, HJ11.out, HF5.out, HN11.out, HC12.out, fun j hj => hj.elim (HFq.out j) .inr, HO12.out, HA12.out, HF12.out, by omega⟩
            case measure => simp [intOf]; omega
          · clear hP1; have hqn : n2 = q2 := (by omega)
            subst hqn; have e1 : decide ((n2 : Int) < (n2 : Int)) = false := (by simp)
            have HE : Hid (fedF Y true (trL t) l1 l2 = (trL t2, D2)) := hide (by
              have h := HFo.out; rw [List.take_of_length_le (by rw [HL2.out]; exact Nat.le_refl _)] at h; unfold fedF; rw [if_pos rfl, ← HF1.out, ← h])
            clear hlt; have HJ : Hid (∀ j ∈ trB t2, j ∈ trB t ∨ w.heap.size ≤ j) := hide (fun j hj => (HTl.out j hj).imp id (fun h => by omega)); have HJf : Hid (∀ j, Fq j → F j ∨ w.heap.size ≤ j) := hide (fun j hj => (HFq.out j hj).imp id (fun h => by omega)); go_wp2; refine bodyPost_ret (v := .tuple #[.slice A5 n5 c5, .bool false]) (by simp [results, Tryz.results72, go_sem]) rfl ⟨A5, n5, c5, Fq, t2, rfl, (by rw [HE.out]; exact own_pxs HO.out), (by rw [HE.out]), hnq, HTt.out, HJ.out, HCt.out, HRr2.out, chg_trans (chg_below HB0.out) HC2.out (fun k h => .inl h), HJf.out⟩
theorem findbadA_any (g a : Nat) (n : Int) (w : World) (ha : a < 4294967296) (h1 : -9223372036854775808 ≤ n) (h2 : n ≤ 9223372036854775807) (hb : goodB a n = false) :
  Calls Tryz.prog 278 #[.pointer (some ⟨g, 0, none⟩), .agg #[.int .u32 (a : Int), .int .i64 n]] w fun e w' => e = .returned (.pointer none) ∧ Below w.heap.size w w' := by
 obtain ⟨w0, hw0⟩ : ∃ w0, w.alloc (.cells #[.int .u32 (a : Int), .int .i64 n] 24) = w0 := ⟨_, rfl⟩
 have hb0 : Below w.heap.size w w0 := hw0 ▸ blkBelow1 w _; have HX : Hid (Blk w0 w.heap.size 24 #[.int .u32 (a : Int), .int .i64 n]) := hide (hw0 ▸ Blk.new w _ _); have HGd := hide (Good_any a n ha h1 h2); rw [hb] at HGd; unfold pfx at HGd; have HW0 := hide hw0; have HB0 := hide hb0; clear hw0 hb0 ha h1 h2 hb; have x0 : w0.cell? ⟨w.heap.size, 0, none⟩ = some (.int .u32 (a : Int)) := HX.out.cell 0; have x1 : w0.cell? ⟨w.heap.size, 1, none⟩ = some (.int .i64 n) := HX.out.cell 1
 go_enter Tryz.func278, Tryz.ntmps278
 go_wp2; rw [HW0.out]; refine wp_scope_mid 0 (fun _ _ => False) (fun _ _ => 0) rfl ?_ (fun _ _ h => h.elim); intro HPass
 go_wp2_with fail
 refine (HGd.out _).mono ?_; rintro e w1 ⟨rfl, hb1⟩; have HB1 := hide (btr HB0.out hb1); clear hb1 x0 x1; go_wp2; simp only [Exit.jump]; go_ret; exact ⟨rfl, HB1.out⟩
set_option maxRecDepth 100000 in
set_option maxHeartbeats 8000000 in
theorem getbadA_any (S : Nat → Prop) (g a : Nat) (n : Int) (w : World) (ha : a < 4294967296) (h1 : -9223372036854775808 ≤ n) (h2 : n ≤ 9223372036854775807) (hb : goodB a n = false) :
  Calls Tryz.prog 179 #[.pointer (some ⟨g, 0, none⟩), .agg #[.int .u32 (a : Int), .int .i64 n]] w fun e w' => ∃ v, e = .returned (.tuple #[v, .bool false]) ∧ TgV S AT0 v w' ∧ Below w.heap.size w w' := by
 obtain ⟨w0, hw0⟩ : ∃ w0, (w.alloc (.cells #[.int .u32 (a : Int), .int .i64 n] 24)).alloc (.cells zeroA 28) = w0 := ⟨_, rfl⟩
 have hb0 : Below w.heap.size w w0 := hw0 ▸ blkBelow2 w _ _; have HX : Hid (Blk w0 w.heap.size 24 #[.int .u32 (a : Int), .int .i64 n]) := hide (hw0 ▸ (Blk.new w _ _).alloc _); have HZ0 : Hid (Blk w0 (w.heap.size + 1) 28 zeroA) := hide (hw0 ▸ blk_new' _ _ (by simp)); have HFd := hide (findbadA_any g a n w0 ha h1 h2 hb); have HW0 := hide hw0; have HB0 := hide hb0; clear hw0 hb0 ha h1 h2 hb; have x0 : w0.cell? ⟨w.heap.size, 0, none⟩ = some (.int .u32 (a : Int)) := HX.out.cell 0; have x1 : w0.cell? ⟨w.heap.size, 1, none⟩ = some (.int .i64 n) := HX.out.cell 1
 go_enter Tryz.func179, Tryz.ntmps179
 go_wp2_with fail
 rw [HW0.out]; refine HFd.out.mono ?_; rintro e w1 ⟨rfl, hb1⟩; have HB1 := hide (btr HB0.out hb1); have HZ1 := hide (HZ0.out.below hb1 HZ0.out.lt); clear hb1 x0 x1; obtain ⟨z0, z1, z2, z3, z4, z5, z6, z7, z8⟩ := blk9 HZ1.out; have zf := fun i => HZ1.out.frozen i; go_wp2; change bodyPost _ _ _ _ _ (w1.setCells (w.heap.size + 1) 0 zeroL); obtain ⟨wF, hwF⟩ : ∃ x, w1.setCells (w.heap.size + 1) 0 zeroL = x := ⟨_, rfl⟩
 have HFk := hide (hwF ▸ blk_sets zeroL [] zeroL HZ1.out rfl : Blk wF (w.heap.size + 1) 28 zeroA); have HFb := hide (hwF ▸ below_sets zeroL 0 HB1.out (by omega) : Below w.heap.size w wF); rw [hwF]; clear hwF z0 z1 z2 z3 z4 z5 z6 z7 z8 zf; obtain ⟨z0, z1, z2, z3, z4, z5, z6, z7, z8⟩ := blk9 HFk.out; refine bodyPost_ret (v := .tuple #[.agg #[.int .i64 0, .int .i64 0, .slice none 0 0, .int .u32 0, .int .u32 0, .int .u32 0, .int .u32 0, .int .u32 0, .slice none 0 0], .bool false]) (by simp [results, Tryz.results179, go_sem, z0, z1, z2, z3, z4, z5, z6, z7, z8]) rfl ⟨_, rfl, tgv_zero S wF, HFb.out⟩
def LKp (a : Nat) (n : Int) (L : List (Nat × Nat × AT)) : Option AT := if goodB a n = true then lkL a n.toNat L else none
theorem ribGetG_any (own ax r g a : Nat) (n0 : Int) (F : Nat → Prop) (t : Tr AT) (w : World) (ha : a < 4294967296) (h1 : -9223372036854775808 ≤ n0) (h2 : n0 ≤ 9223372036854775807) (hr : Blk w r 120 #[.int .u32 (own : Int), .int .u32 0, .int .u32 (ax : Int), .int .i64 0, .bool false, .string ⟨#[]⟩, .string ⟨#[]⟩, .string ⟨#[]⟩, .bool false, .string ⟨#[]⟩, .string ⟨#[]⟩, .string ⟨#[]⟩, .bool false, .pointer (some ⟨g, 0, none⟩)]) (hT : TrT F w g t) :
  Calls Tryz.prog 29 #[.pointer (some ⟨r, 0, none⟩), .agg #[.int .u32 (a : Int), .int .i64 n0]] w fun e w' => ∃ (v : Value) (IS : Bool) (Z : AT), e = .returned (.tuple #[v, .bool IS]) ∧ AtO w.heap.size w' (normA Z) v ∧ AtOk Z ∧ LKp a n0 (trL t) = (if IS = true then some Z else none) ∧ Below w.heap.size w w' := by
 cases hg : goodB a n0 with
 | false =>
  refine (ribGet_of own ax r g a n0 F AT0 false w hr (fun j hj => hT.low j hj) ⟨by decide, by decide⟩ (fun W hb => getbadA_any F g a n0 W ha h1 h2 hg)).mono ?_; rintro e w' ⟨⟨v, rfl, ho⟩, hb⟩; exact ⟨v, false, AT0, rfl, ho, ⟨by decide, by decide⟩, (by unfold LKp; rw [hg]; rfl), hb⟩
 | true =>
  obtain ⟨hp, hn⟩ := pg_good ha hg; obtain ⟨n, hn'⟩ : ∃ n, n0.toNat = n := ⟨_, rfl⟩
  rw [hn'] at hp hn; subst hn; have hget : trGet a n t = lkL a n (trL t) := trGet_lk hT.tree.wf; have hlk : LKp a (n : Int) (trL t) = trGet a n t := (by unfold LKp; rw [if_pos hg, Int.toNat_natCast, hget])
  rw [hlk]
  cases hl : trGet a n t with
  | none =>
   refine (ribGet_of own ax r g a _ F AT0 false w hr (fun j hj => hT.low j hj) ⟨by decide, by decide⟩ (fun W hb => ?_)).mono ?_
   ·have h := tgetX_any F g a n t W hp (hT.below hb); rw [hl] at h; exact h
   ·rintro e w' ⟨⟨v, rfl, ho⟩, hb⟩; exact ⟨v, false, AT0, rfl, ho, ⟨by decide, by decide⟩, rfl, hb⟩
  | some x =>
   have hx : AtOk x := hT.ok (a, n, x) ((trL_mem t hT.tree.wf).2 hl); refine (ribGet_of own ax r g a _ F x true w hr (fun j hj => hT.low j hj) hx (fun W hb => ?_)).mono ?_
   ·have h := tgetX_any F g a n t W hp (hT.below hb); rw [hl] at h; exact h
   ·rintro e w' ⟨⟨v, rfl, ho⟩, hb⟩; exact ⟨v, true, x, rfl, ho, hx, rfl, hb⟩
set_option maxRecDepth 100000 in
set_option maxHeartbeats 8000000 in
theorem FeedQ_any (own ax r g n1 n2 c1 c2 : Nat) (F SL : Nat → Prop) (t : Tr AT) (l1 l2 : List (Nat × Int)) (A1 A2 : Option Addr) (X : AT) (A : Option Addr) (k c : Nat) (B : Option Addr) (m d : Nat) (Y : AT) (OK : Bool) (w : World) (hY : accF own ax X = (Y, OK)) (hr : Blk w r 120 #[.int .u32 (own : Int), .int .u32 0, .int .u32 (ax : Int), .int .i64 0, .bool false, .string ⟨#[]⟩, .string ⟨#[]⟩, .string ⟨#[]⟩, .bool false, .string ⟨#[]⟩, .string ⟨#[]⟩, .string ⟨#[]⟩, .bool false, .pointer (some ⟨g, 0, none⟩)]) (hT : TrT F w g t) (hSl : ∀ j, SL j → j < w.heap.size ∧ j ≠ g ∧ j ∉ trB t) (hu : FrS SL none (UpM l1 l2 X A1 n1 c1 A k c B m d A2 n2 c2) w) (hX : AtOk X) (G : Bool → Prop) (hUg : ∀ W, Below w.heap.size w W → Calls Tryz.prog 71 #[.agg #[.slice A1 n1 c1, .int .i64 X.has, .int .i64 X.org, .slice A k c, .int .u32 X.hop, .int .u32 X.med, .int .u32 X.pref, .int .u32 X.aas, .int .u32 X.aid, .slice B m d, .slice A2 n2 c2]] W fun e w' => ∃ q : Bool, e = .returned (.bool q) ∧ G q ∧ Below W.heap.size W w') (hG : G true → (∀ x ∈ l1, goodB x.1 x.2 = true) ∧ (∀ x ∈ l2, goodB x.1 x.2 = true)) (hn1 : n1 ≤ 1000) (hn2 : n2 ≤ 1000) (hct : trCnt t + n2 < 90000) :
  Calls Tryz.prog 27 #[.pointer (some ⟨r, 0, none⟩), .agg #[.slice A1 n1 c1, .int .i64 X.has, .int .i64 X.org, .slice A k c, .int .u32 X.hop, .int .u32 X.med, .int .u32 X.pref, .int .u32 X.aas, .int .u32 X.aid, .slice B m d, .slice A2 n2 c2]] w fun e w' => ∃ q A3 n3 c3 F2 t2, G q ∧ e = .returned (.tuple #[.slice A3 n3 c3, .bool false]) ∧ TrT F2 w' g t2 ∧ (∀ j ∈ trB t2, j ∈ trB t ∨ w.heap.size ≤ j) ∧ trCnt t2 ≤ trCnt t + n2 ∧ Blk w' r 120 #[.int .u32 (own : Int), .int .u32 0, .int .u32 (ax : Int), .int .i64 0, .bool false, .string ⟨#[]⟩, .string ⟨#[]⟩, .string ⟨#[]⟩, .bool false, .string ⟨#[]⟩, .string ⟨#[]⟩, .string ⟨#[]⟩, .bool false, .pointer (some ⟨g, 0, none⟩)] ∧ ChgS (fun j => j = g ∨ j ∈ trB t) w w' ∧ (∀ j, F2 j → F j ∨ w.heap.size ≤ j) ∧ ((q = false ∧ n3 = 0 ∧ trL t2 = trL t) ∨ (q = true ∧ LstAt 2 pxR w' A3 n3 c3 (sortP (fedF Y OK (trL t) (l1.map natP) (l2.map natP)).2) ∧ trL t2 = (fedF Y OK (trL t) (l1.map natP) (l2.map natP)).1)) := by
 obtain ⟨w0, hw0⟩ : ∃ w0, w.alloc (.cells #[.slice A1 n1 c1, .int .i64 X.has, .int .i64 X.org, .slice A k c, .int .u32 X.hop, .int .u32 X.med, .int .u32 X.pref, .int .u32 X.aas, .int .u32 X.aid, .slice B m d, .slice A2 n2 c2] 60) = w0 := ⟨_, rfl⟩
 have hb0 : Below w.heap.size w w0 := hw0 ▸ blkBelow1 w _; have HX : Hid (Blk w0 w.heap.size 60 #[.slice A1 n1 c1, .int .i64 X.has, .int .i64 X.org, .slice A k c, .int .u32 X.hop, .int .u32 X.med, .int .u32 X.pref, .int .u32 X.aas, .int .u32 X.aid, .slice B m d, .slice A2 n2 c2]) := hide (hw0 ▸ Blk.new w _ _); have HR := hide (hr.below hb0 hr.lt); have HT := hide (hT.below hb0); have HU := hide (fun W (hb : Below w.heap.size w W) => frs_chg hu (chg_below (S := fun _ => False) hb) (fun _ _ h => h)); have hu0 := frs_here (HU.out w0 hb0); have HUg := hide (hUg w0 hb0); have HGq := hide hG; have HFe := hide (fun W (hb : Below w.heap.size w W) (h1 : ∀ x ∈ l1, goodB x.1 x.2 = true) (h2 : ∀ x ∈ l2, goodB x.1 x.2 = true) => feedG_any own ax r g n1 n2 c1 c2 F SL t (l1.map natP) (l2.map natP) A1 A2 X A k c B m d Y OK W hY (hr.below hb hr.lt) (hT.below hb) (fun j hj => ⟨Nat.lt_of_lt_of_le (hSl j hj).1 hb.size, (hSl j hj).2⟩) (fun w2 h2' => by have h := HU.out W hb w2 h2'; exact ⟨px_of_pz h.1 h1, px_of_pz h.2.1 h2, h.2.2⟩) (pg_of_pz hu0.1 h1) (pg_of_pz hu0.2.1 h2) hX hn1 hn2 hct); have HPg := hide (fun h1 h2 => (⟨pg_of_pz hu0.1 h1, pg_of_pz hu0.2.1 h2⟩ : (∀ x ∈ l1.map natP, PG x.1 x.2) ∧ (∀ x ∈ l2.map natP, PG x.1 x.2))); have hn12 : n1 + n2 ≤ 2000 := (by omega)
 have hwl : w.heap.size ≤ w0.heap.size := hb0.size; have HB0 := hide hb0; have HW0 := hide hw0; clear hw0 hb0 hY hr hT hSl hu hX hUg hG hn1 hn2 hct hu0; obtain ⟨x0, x1, x2, x3, x4, x5, x6, x7, x8, x9, x10⟩ := blk11 HX.out
 go_enter Tryz.func27, Tryz.ntmps27
 go_wp2_with fail
 rw [HW0.out]; refine HUg.out.mono ?_; rintro e w1 ⟨q1, rfl, hq1, hb1⟩; have HQ1 := hide hq1; have HB1 := hide (btr HB0.out hb1); have HX1 := hide (HX.out.below hb1 HX.out.lt); have HT1 := hide (HT.out.below hb1); have HR1 := hide (HR.out.below hb1 HR.out.lt); clear hb1 hq1 x0 x1 x2 x3 x4 x5 x6 x7 x8 x9 x10; obtain ⟨y0, y1, y2, y3, y4, y5, y6, y7, y8, y9, y10⟩ := blk11 HX1.out
 cases q1 with
 | false =>
  go_wp2; refine bodyPost_ret (v := .tuple #[.slice none 0 0, .bool false]) (by simp [results, Tryz.results27, go_sem]) rfl ⟨false, none, 0, 0, F, t, HQ1.out, rfl, HT1.out, fun j hj => .inl hj, Nat.le_add_right _ _, HR1.out, chg_below HB1.out, fun j h => .inl h, .inl ⟨rfl, rfl, rfl⟩⟩
 | true =>
  obtain ⟨hg1, hg2⟩ := HGq.out HQ1.out; have HFd := hide (HFe.out w1 HB1.out hg1 hg2); have HPp := hide (HPg.out hg1 hg2); have HG1 := hide hg1; have HG2 := hide hg2; clear hg1 hg2
  go_wp2_with fail
  refine HFd.out.mono ?_; rintro e w2 ⟨A3, n3, c3, F2, t2, rfl, hl2, ht2, hn3, hT2, hj2, hc2, hr2, hch, hF2⟩; have HF2 : Hid (∀ j, F2 j → F j ∨ w.heap.size ≤ j) := hide (fun j hj => (hF2 j hj).imp id (Nat.le_trans HB1.out.size)); clear hF2; have HSo := hide (nSort_any A3 n3 c3 _ w2 hl2 (fun x hx => (fedF_mem x hx).elim (HPp.out.1 x) (HPp.out.2 x)) (by omega)); have HLn : Hid ((fedF Y OK (trL t) (l1.map natP) (l2.map natP)).2.length = n3) := hide hl2.1; have HDm : Hid (∀ x ∈ (fedF Y OK (trL t) (l1.map natP) (l2.map natP)).2, PG x.1 x.2) := hide (fun x hx => (fedF_mem x hx).elim (HPp.out.1 x) (HPp.out.2 x)); have HTl := hide ht2; have HT2 := hide hT2; have HJ2 := hide hj2; have HC2 := hide hc2; have HR2 := hide hr2; have HCh := hide hch; clear hl2 ht2 hn3 hT2 hj2 hc2 hr2 hch y0 y1 y2 y3 y4 y5 y6 y7 y8 y9 y10
  go_wp2_with fail
  refine HSo.out.mono ?_; rintro e w3 ⟨A4, c4, rfl, ho3, hb3⟩; have HB3 := hide hb3; clear hb3; have HE : Hid (LstAt 2 pxR w3 A4 (sortP (fedF Y OK (trL t) (l1.map natP) (l2.map natP)).2).length c4 (sortP (fedF Y OK (trL t) (l1.map natP) (l2.map natP)).2)) := hide (own_pxs ho3); obtain ⟨n9, hn9⟩ : ∃ n, (sortP (fedF Y OK (trL t) (l1.map natP) (l2.map natP)).2).length = n := ⟨_, rfl⟩
  rw [hn9] at HE ⊢; clear hn9 ho3 HG1 HG2 HDm; go_wp2; refine bodyPost_ret (v := .tuple #[.slice A4 n9 c4, .bool false]) (by simp [results, Tryz.results27, go_sem]) rfl ⟨true, A4, n9, c4, F2, t2, HQ1.out, rfl, HT2.out.below HB3.out, fun j hj => (HJ2.out j hj).imp id (Nat.le_trans HB1.out.size), HC2.out, HR2.out.below HB3.out HR2.out.lt, chg_trans (chg_trans (chg_below HB1.out) HCh.out (fun k h => .inl h)) (chg_below (S := fun _ => False) HB3.out) (fun k h => h.elim), HF2.out, .inr ⟨rfl, HE.out, HTl.out⟩⟩
theorem FeedG_any (own ax r g n1 n2 c1 c2 : Nat) (F SL : Nat → Prop) (t : Tr AT) (l1 l2 : List (Nat × Int)) (A1 A2 : Option Addr) (X : AT) (A : Option Addr) (k c : Nat) (B : Option Addr) (m d : Nat) (Y : AT) (OK : Bool) (w : World) (hY : accF own ax X = (Y, OK)) (hr : Blk w r 120 #[.int .u32 (own : Int), .int .u32 0, .int .u32 (ax : Int), .int .i64 0, .bool false, .string ⟨#[]⟩, .string ⟨#[]⟩, .string ⟨#[]⟩, .bool false, .string ⟨#[]⟩, .string ⟨#[]⟩, .string ⟨#[]⟩, .bool false, .pointer (some ⟨g, 0, none⟩)]) (hT : TrT F w g t) (hSl : ∀ j, SL j → j < w.heap.size ∧ j ≠ g ∧ j ∉ trB t) (hu : FrS SL none (UpM l1 l2 X A1 n1 c1 A k c B m d A2 n2 c2) w) (hX : AtOk X) (hpl : X.path.length ≤ 100000) (hop : ∃ h : Nat, X.hop = h) (hn1 : n1 ≤ 1000) (hn2 : n2 ≤ 1000) (hct : trCnt t + n2 < 90000) :
  Calls Tryz.prog 27 #[.pointer (some ⟨r, 0, none⟩), .agg #[.slice A1 n1 c1, .int .i64 X.has, .int .i64 X.org, .slice A k c, .int .u32 X.hop, .int .u32 X.med, .int .u32 X.pref, .int .u32 X.aas, .int .u32 X.aid, .slice B m d, .slice A2 n2 c2]] w fun e w' => ∃ A3 n3 c3 F2 t2, e = .returned (.tuple #[.slice A3 n3 c3, .bool false]) ∧ TrT F2 w' g t2 ∧ (∀ j ∈ trB t2, j ∈ trB t ∨ w.heap.size ≤ j) ∧ trCnt t2 ≤ trCnt t + n2 ∧ Blk w' r 120 #[.int .u32 (own : Int), .int .u32 0, .int .u32 (ax : Int), .int .i64 0, .bool false, .string ⟨#[]⟩, .string ⟨#[]⟩, .string ⟨#[]⟩, .bool false, .string ⟨#[]⟩, .string ⟨#[]⟩, .string ⟨#[]⟩, .bool false, .pointer (some ⟨g, 0, none⟩)] ∧ ChgS (fun j => j = g ∨ j ∈ trB t) w w' ∧ (∀ j, F2 j → F j ∨ w.heap.size ≤ j) ∧ ((n3 = 0 ∧ trL t2 = trL t) ∨ (0 < n3 ∧ (∀ x ∈ l1, goodB x.1 x.2 = true) ∧ (∀ x ∈ l2, goodB x.1 x.2 = true) ∧ trL t2 = (fedF Y OK (trL t) (l1.map natP) (l2.map natP)).1)) := by
 have hGd : ∀ W, Below w.heap.size w W → Calls Tryz.prog 71 #[.agg #[.slice A1 n1 c1, .int .i64 X.has, .int .i64 X.org, .slice A k c, .int .u32 X.hop, .int .u32 X.med, .int .u32 X.pref, .int .u32 X.aas, .int .u32 X.aid, .slice B m d, .slice A2 n2 c2]] W fun e w' => ∃ q : Bool, e = .returned (.bool q) ∧ (q = true → (∀ x ∈ l1, goodB x.1 x.2 = true) ∧ (∀ x ∈ l2, goodB x.1 x.2 = true)) ∧ Below W.heap.size W w' := fun W hb => by
  obtain ⟨h1, h2, Ax, kx, cx, Bqx, mx, dx, ex, hP, hC⟩ := frs_here (frs_chg hu (chg_below (S := fun _ => False) hb) (fun _ _ h => h)); simp only [atV, Value.agg.injEq, Array.mk.injEq, List.cons.injEq, and_true, true_and, Value.slice.injEq] at ex; obtain ⟨⟨rfl, rfl, rfl⟩, rfl, rfl, rfl⟩ := ex; exact updGood_some A1 A2 n1 c1 n2 c2 l1 l2 X A k c B m d W h1 h2 hP hC hX.1 hpl hX.2 hop
 have hpz := frs_here hu; refine (FeedQ_any own ax r g n1 n2 c1 c2 F SL t l1 l2 A1 A2 X A k c B m d Y OK w hY hr hT hSl hu hX _ hGd (fun h => h rfl) hn1 hn2 hct).mono ?_; rintro e w' ⟨q, A3, n3, c3, F2, t2, hq, rfl, h1, h2, h3, h4, h5, h6, h7⟩; refine ⟨A3, n3, c3, F2, t2, rfl, h1, h2, h3, h4, h5, h6, ?_⟩; rcases h7 with ⟨_, h8, h9⟩ | ⟨hq1, h8, h9⟩
 ·exact .inl ⟨h8, h9⟩
 ·obtain ⟨hg1, hg2⟩ := hq hq1; have hpg : ∀ x ∈ (fedF Y OK (trL t) (l1.map natP) (l2.map natP)).2, PG x.1 x.2 := fun x hx => (fedF_mem x hx).elim (pg_of_pz hpz.1 hg1 x) (pg_of_pz hpz.2.1 hg2 x); have hl := h8.1
  cases hD : (fedF Y OK (trL t) (l1.map natP) (l2.map natP)).2 with
  | nil =>
   rw [hD] at hl; exact .inl ⟨hl.symm, h9.trans (fedF_nil hD)⟩
  | cons x D =>
   refine .inr ⟨?_, hg1, hg2, h9⟩; rw [hD] at hl hpg; have hm : x ∈ sortP (x :: D) := (sortP_mem hpg x).2 List.mem_cons_self; have := List.length_pos_of_mem hm; omega
abbrev atL (h o : Int) (A : Option Addr) (n c : Nat) (hp md pf aa ai : Int) (B : Option Addr) (m d : Nat) : List Value := [.int .i64 h, .int .i64 o, .slice A n c, .int .u32 hp, .int .u32 md, .int .u32 pf, .int .u32 aa, .int .u32 ai, .slice B m d]
end Go.Proofs.YtmffmkjgdjgmeaaGreat
namespace Go.Proofs.YtmffmkjgdjgmeaaGreat
open Go.RowKit Go.WideShapes Go.ChangeShapes
set_option maxRecDepth 100000 in
theorem u32s_opens {H : Type} {enc : TypeId × Value → H} {W : World} {f : Nat} {v : Value} {x : DataW H × List MemPlace} (h : DataW.trod enc Tryz.prog W 0 (fun _ => true) true f 26 [v] = some x) :
  ∃ A n c l, v = .slice A n c ∧ U32s W A n c l := by
 have h1' : ∃ A n c, v = .slice A n c := by
  rcases DataW.trod_slice Tryz.underlying26 h with ⟨e, _⟩ | ⟨a, len, cap, elems, rest, n, _, e, _⟩
  ·exact ⟨none, 0, 0, by simpa using e⟩
  ·exact ⟨some a, len, cap, by simpa using e⟩
 obtain ⟨A, m, c, rfl⟩ := h1'; obtain ⟨l, hl⟩ := u32s_open (A := A) (n := m) (c := c) ⟨f, by simpa [Value.cells] using h⟩; exact ⟨A, m, c, l, rfl, hl⟩
set_option maxRecDepth 100000 in
theorem segs_open {H : Type} {enc : TypeId × Value → H} {W : World} {A : Option Addr} {n c : Nat} {d : DataW H} {p : List MemPlace}
    (h : DataW.Trod enc Tryz.prog W 0 (fun _ => true) true 25 (.slice A n c) d p) : ∃ l : List SG, LstAt 2 sgR W A n c l := by
  obtain ⟨fuel, hf⟩ := h
  obtain ⟨A', n', c', l, e, hl⟩ := lst_open (R := sgR) (sz := 2) Tryz.underlying25 (by kernel_rfl) (by decide) (fun f cs x hx => by
    obtain ⟨z0, z1, n, _, hl, g0, g1⟩ := trod_struct2 Tryz.underlying99 hx; have c2 : Tryz.prog.cellsOf 99 = 2 := (by kernel_rfl)
    have ci : Tryz.prog.cellsOf 3 = 1 := (by kernel_rfl)
    have cs1 : Tryz.prog.cellsOf 26 = 1 := (by kernel_rfl)
    rw [c2] at hl
    match cs, hl with
    | [v0, v1], _ =>
      simp only [ci, cs1, List.drop_zero, List.drop_succ_cons, List.take_succ_cons, List.take_zero] at g0 g1; obtain ⟨k, e0, _⟩ := DataW.trod_int Tryz.underlying3 g0; obtain ⟨A, m, c, l, rfl, hl⟩ := u32s_opens g1; simp only [List.cons.injEq, and_true] at e0; subst e0; exact ⟨⟨k, l⟩, A, m, c, rfl, hl⟩) hf
  obtain ⟨rfl, rfl, rfl⟩ : A = A' ∧ n = n' ∧ c = c' := (by simpa [Value.cells] using e)
  exact ⟨l, hl⟩
end Go.Proofs.YtmffmkjgdjgmeaaGreat
namespace Go.Proofs.YtmffmkjgdjgmeaaGreat
open Go.RowKit Go.WideShapes Go.ChangeShapes Go.ChangeAt
theorem segs_opens {H : Type} {enc : TypeId × Value → H} {W : World} {f : Nat} {v : Value} {x : DataW H × List MemPlace} (h : DataW.trod enc Tryz.prog W 0 (fun _ => true) true f 25 [v] = some x) :
  ∃ A n c l, v = .slice A n c ∧ LstAt 2 sgR W A n c l := by
 have h1' : ∃ A n c, v = .slice A n c := by
  rcases DataW.trod_slice Tryz.underlying25 h with ⟨e, _⟩ | ⟨a, len, cap, elems, rest, n, _, e, _⟩
  ·exact ⟨none, 0, 0, by simpa using e⟩
  ·exact ⟨some a, len, cap, by simpa using e⟩
 obtain ⟨A, m, c, rfl⟩ := h1'; obtain ⟨l, hl⟩ := segs_open (A := A) (n := m) (c := c) ⟨f, by simpa [Value.cells] using h⟩; exact ⟨A, m, c, l, rfl, hl⟩
set_option maxRecDepth 100000 in
set_option maxHeartbeats 4000000 in
theorem at_opens {H : Type} {enc : TypeId × Value → H} {W : World} {f : Nat} {cs : List Value} {x : DataW H × List MemPlace} (h : DataW.trod enc Tryz.prog W 0 (fun _ => true) true f 28 cs = some x) : ∃ (X : AT) (A : Option Addr) (n c : Nat) (B : Option Addr) (m d : Nat), cs = atL X.has X.org A n c X.hop X.med X.pref X.aas X.aid B m d ∧ LstAt 2 sgR W A n c X.path ∧ U32s W B m d X.comms := by
 obtain ⟨xs, f2, _, rfl, hl, hlen, hf⟩ := DataW.trod_struct Tryz.underlying28 h; have c9 : Tryz.prog.cellsOf 28 = 9 := (by kernel_rfl)
 rw [c9] at hl
 match xs, hlen with
 | [y0, y1, y2, y3, y4, y5, y6, y7, y8], _ =>
 match cs, hl with
 | [v0, v1, v2, v3, v4, v5, v6, v7, v8], _ =>
  have h0 : DataW.trod enc Tryz.prog W 0 (fun _ => true) true f2 3 [v0] = some y0 := hf 0 _ rfl; have h1 : DataW.trod enc Tryz.prog W 0 (fun _ => true) true f2 3 [v1] = some y1 := hf 1 _ rfl; have h2 : DataW.trod enc Tryz.prog W 0 (fun _ => true) true f2 25 [v2] = some y2 := hf 2 _ rfl; have h3 : DataW.trod enc Tryz.prog W 0 (fun _ => true) true f2 22 [v3] = some y3 := hf 3 _ rfl; have h4 : DataW.trod enc Tryz.prog W 0 (fun _ => true) true f2 22 [v4] = some y4 := hf 4 _ rfl; have h5 : DataW.trod enc Tryz.prog W 0 (fun _ => true) true f2 22 [v5] = some y5 := hf 5 _ rfl; have h6 : DataW.trod enc Tryz.prog W 0 (fun _ => true) true f2 22 [v6] = some y6 := hf 6 _ rfl; have h7 : DataW.trod enc Tryz.prog W 0 (fun _ => true) true f2 22 [v7] = some y7 := hf 7 _ rfl; have h8 : DataW.trod enc Tryz.prog W 0 (fun _ => true) true f2 26 [v8] = some y8 := hf 8 _ rfl; clear hf; obtain ⟨q0, e0, _, j0⟩ := DataW.trod_int Tryz.underlying3 h0; obtain ⟨q1, e1, _, j1⟩ := DataW.trod_int Tryz.underlying3 h1; obtain ⟨A, n, c, pl, rfl, hP⟩ := segs_opens h2; obtain ⟨q3, e3, _, j3⟩ := DataW.trod_int Tryz.underlying22 h3; obtain ⟨q4, e4, _, j4⟩ := DataW.trod_int Tryz.underlying22 h4; obtain ⟨q5, e5, _, j5⟩ := DataW.trod_int Tryz.underlying22 h5; obtain ⟨q6, e6, _, j6⟩ := DataW.trod_int Tryz.underlying22 h6; obtain ⟨q7, e7, _, j7⟩ := DataW.trod_int Tryz.underlying22 h7; obtain ⟨B, m, d, cl, rfl, hC⟩ := u32s_opens h8; simp only [List.cons.injEq, and_true] at e0 e1 e3 e4 e5 e6 e7; subst e0 e1 e3 e4 e5 e6 e7; exact ⟨⟨q0, q1, pl, q3, q4, q5, q6, q7, cl⟩, A, n, c, B, m, d, rfl, hP, hC⟩
end Go.Proofs.YtmffmkjgdjgmeaaGreat
namespace Go.Proofs.YtmffmkjgdjgmeaaGreat
open Go.RowKit Go.WideShapes Go.ChangeShapes Go.ChangeAt
attribute [local go_sem] Oper.semAt_some
structure UPD where
  A1 : Option Addr
  n1 : Nat
  c1 : Nat
  l1 : List (Nat × Int)
  X : AT
  A : Option Addr
  k : Nat
  c : Nat
  B : Option Addr
  m : Nat
  d : Nat
  A2 : Option Addr
  n2 : Nat
  c2 : Nat
  l2 : List (Nat × Int)
def UPD.cs (u : UPD) : List Value := [.slice u.A1 u.n1 u.c1, .int .i64 u.X.has, .int .i64 u.X.org, .slice u.A u.k u.c, .int .u32 u.X.hop, .int .u32 u.X.med, .int .u32 u.X.pref, .int .u32 u.X.aas, .int .u32 u.X.aid, .slice u.B u.m u.d, .slice u.A2 u.n2 u.c2]
structure UpdR (w : World) (u : UPD) : Prop where
  gone : LstAt 2 pzR w u.A1 u.n1 u.c1 u.l1
  path : LstAt 2 sgR w u.A u.k u.c u.X.path
  comms : U32s w u.B u.m u.d u.X.comms
  here : LstAt 2 pzR w u.A2 u.n2 u.c2 u.l2
set_option maxRecDepth 100000 in
theorem pz_opens {H : Type} {enc : TypeId × Value → H} {W : World} {f : Nat} {cs : List Value} {x : DataW H × List MemPlace} (h : DataW.trod enc Tryz.prog W 0 (fun _ => true) true f 24 cs = some x) : ∃ y, pzR W cs y := by
 obtain ⟨xs, f2, _, rfl, hl, hlen, hf⟩ := DataW.trod_struct Tryz.underlying24 h; have c9 : Tryz.prog.cellsOf 24 = 2 := (by kernel_rfl)
 rw [c9] at hl
 match xs, hlen with
 | [y0, y1], _ =>
 match cs, hl with
 | [v0, v1], _ =>
  have h0 : DataW.trod enc Tryz.prog W 0 (fun _ => true) true f2 22 [v0] = some y0 := hf 0 _ rfl; have h1 : DataW.trod enc Tryz.prog W 0 (fun _ => true) true f2 3 [v1] = some y1 := hf 1 _ rfl; clear hf; obtain ⟨q0, e0, _, j0⟩ := DataW.trod_int Tryz.underlying22 h0; obtain ⟨q1, e1, _, j1⟩ := DataW.trod_int Tryz.underlying3 h1; simp only [List.cons.injEq, and_true] at e0 e1; subst e0 e1; have c0 : 0 ≤ q0 ∧ q0 ≤ 4294967295 := (by simpa [Lit.wf, IntKind.min, IntKind.max, IntKind.signed, IntKind.bits] using j0)
  have c1 : -9223372036854775808 ≤ q1 ∧ q1 ≤ 9223372036854775807 := (by simpa [Lit.wf, IntKind.min, IntKind.max, IntKind.signed, IntKind.bits] using j1)
  obtain ⟨a, rfl⟩ := Int.eq_ofNat_of_zero_le c0.1; exact ⟨(a, q1), rfl, by omega, c1.1, c1.2⟩
theorem pzs_opens {H : Type} {enc : TypeId × Value → H} {W : World} {f : Nat} {cs : List Value} {x : DataW H × List MemPlace} (h : DataW.trod enc Tryz.prog W 0 (fun _ => true) true f 36 cs = some x) : ∃ A n c l, cs = [.slice A n c] ∧ LstAt 2 pzR W A n c l :=
 lst_open (R := pzR) (sz := 2) Tryz.underlying36 (by kernel_rfl) (by decide) (fun f cs x hx => pz_opens hx) h
set_option maxRecDepth 100000 in
set_option maxHeartbeats 4000000 in
theorem upd_opens {H : Type} {enc : TypeId × Value → H} {W : World} {f : Nat} {cs : List Value} {x : DataW H × List MemPlace} (h : DataW.trod enc Tryz.prog W 0 (fun _ => true) true f 60 cs = some x) : ∃ u : UPD, cs = u.cs ∧ UpdR W u := by
 obtain ⟨xs, f2, _, rfl, hl, hlen, hf⟩ := DataW.trod_struct Tryz.underlying60 h; have c11 : Tryz.prog.cellsOf 60 = 11 := (by kernel_rfl)
 have cA : Tryz.prog.cellsOf 28 = 9 := (by kernel_rfl)
 have cS : Tryz.prog.cellsOf 36 = 1 := (by kernel_rfl)
 rw [c11] at hl
 match xs, hlen with
 | [y0, y1, y2], _ =>
 match cs, hl with
 | [v0, v1, v2, v3, v4, v5, v6, v7, v8, v9, v10], _ =>
  have h0 : DataW.trod enc Tryz.prog W 0 (fun _ => true) true f2 36 [v0] = some y0 := hf 0 _ rfl; have h1 : DataW.trod enc Tryz.prog W 0 (fun _ => true) true f2 28 [v1, v2, v3, v4, v5, v6, v7, v8, v9] = some y1 := hf 1 _ rfl; have h2 : DataW.trod enc Tryz.prog W 0 (fun _ => true) true f2 36 [v10] = some y2 := hf 2 _ rfl; clear hf; obtain ⟨A1, n1, c1, l1, e0, g1⟩ := pzs_opens h0; obtain ⟨X, A, k, c, B, m, d, e1, hP, hC⟩ := at_opens h1; obtain ⟨A2, n2, c2, l2, e2, g2⟩ := pzs_opens h2; have e1 : [v1, v2, v3, v4, v5, v6, v7, v8, v9] = [.int .i64 X.has, .int .i64 X.org, .slice A k c, .int .u32 X.hop, .int .u32 X.med, .int .u32 X.pref, .int .u32 X.aas, .int .u32 X.aid, .slice B m d] := e1; simp only [List.cons.injEq, and_true] at e0 e1 e2; subst e0 e2; obtain ⟨rfl, rfl, rfl, rfl, rfl, rfl, rfl, rfl, rfl⟩ := e1; exact ⟨⟨A1, n1, c1, l1, X, A, k, c, B, m, d, A2, n2, c2, l2⟩, rfl, g1, hP, hC, g2⟩
def updQ (W : World) (cs : List Value) (u : UPD) : Prop := cs = u.cs ∧ UpdR W u ∧ ∃ h : Nat, u.X.hop = (h : Int)
theorem updQ_mono : SMono updQ := fun _ _ _ _ hb h => ⟨h.1, ⟨h.2.1.gone.below pzMono hb, h.2.1.path.below sgMono hb, h.2.1.comms.below hb, h.2.1.here.below pzMono hb⟩, h.2.2⟩
set_option maxRecDepth 100000 in
set_option maxHeartbeats 4000000 in
theorem updq_opens {H : Type} {enc : TypeId × Value → H} {W : World} {f : Nat} {cs : List Value} {x : DataW H × List MemPlace} (h : DataW.trod enc Tryz.prog W 0 (fun _ => true) true f 60 cs = some x) : ∃ u : UPD, updQ W cs u := by
 obtain ⟨u, hu, hr⟩ := upd_opens h; refine ⟨u, hu, hr, ?_⟩; obtain ⟨xs, f2, _, rfl, hl, hlen, hf⟩ := DataW.trod_struct Tryz.underlying60 h; have c11 : Tryz.prog.cellsOf 60 = 11 := (by kernel_rfl)
 have cA : Tryz.prog.cellsOf 28 = 9 := (by kernel_rfl)
 have cS : Tryz.prog.cellsOf 36 = 1 := (by kernel_rfl)
 rw [c11] at hl
 match xs, hlen with
 | [y0, y1, y2], _ =>
 match cs, hl with
 | [v0, v1, v2, v3, v4, v5, v6, v7, v8, v9, v10], _ =>
  have h1 : DataW.trod enc Tryz.prog W 0 (fun _ => true) true f2 28 [v1, v2, v3, v4, v5, v6, v7, v8, v9] = some y1 := hf 1 _ rfl; clear hf; obtain ⟨ys, f3, _, hy1, hl2, hlen2, hf2⟩ := DataW.trod_struct Tryz.underlying28 h1
  match ys, hlen2 with
  | [z0, z1, z2, z3, z4, z5, z6, z7, z8], _ =>
   have h3 : DataW.trod enc Tryz.prog W 0 (fun _ => true) true f3 22 [v4] = some z3 := hf2 3 _ rfl; obtain ⟨q0, e0, _, j0⟩ := DataW.trod_int Tryz.underlying22 h3; simp only [List.cons.injEq, and_true] at e0; subst e0; have c0 : 0 ≤ q0 ∧ q0 ≤ 4294967295 := (by simpa [Lit.wf, IntKind.min, IntKind.max, IntKind.signed, IntKind.bits] using j0)
   obtain ⟨a, rfl⟩ := Int.eq_ofNat_of_zero_le c0.1; unfold UPD.cs at hu; simp only [List.cons.injEq, and_true, Value.int.injEq, true_and] at hu; exact ⟨a, hu.2.2.2.2.1.symm⟩
theorem upds_open {H : Type} {enc : TypeId × Value → H} {W : World} {A : Option Addr} {n c : Nat} {d : DataW H} {p : List MemPlace}
  (h : DataW.Trod enc Tryz.prog W 0 (fun _ => true) true 56 (.slice A n c) d p) : ∃ l, LstAt 11 updQ W A n c l := by
 obtain ⟨fuel, hf⟩ := h; obtain ⟨A', n', c', l, e, hl⟩ := lst_open (R := updQ) (sz := 11) Tryz.underlying56 (by kernel_rfl) (by decide) (fun f cs x hx => updq_opens hx) hf; have e2 : Value.slice A n c = .slice A' n' c' := (by simpa [Value.cells] using e)
 injection e2 with e1 e2 e3
 subst e1 e2 e3; exact ⟨l, hl⟩
end Go.Proofs.YtmffmkjgdjgmeaaGreat
namespace Go.Proofs.YtmffmkjgdjgmeaaGreat
open Go.RowKit Go.WideShapes Go.ChangeShapes
attribute [local go_sem] Oper.semAt_some
theorem list_take_succ {α : Type} {l l' : List α} {i : Nat} {x y : α} (h : l.take i = l'.take i) (hx : l[i]? = some x) (hy : l'[i]? = some y) (e : x = y) : l.take (i + 1) = l'.take (i + 1) := by
 rw [List.take_add_one, List.take_add_one, h, hx, hy, e]
set_option maxRecDepth 100000 in
set_option maxHeartbeats 8000000 in
theorem psany_any (A B : Option Addr) (n c m d : Nat) (l l' : List SG) (w : World) (h : LstAt 2 sgR w A n c l) (h' : LstAt 2 sgR w B m d l') (hn2 : n ≤ 100000) :
    Calls Tryz.prog 78 #[.slice A n c, .slice B m d] w (fun e w' => ∃ q : Bool, e = .returned (.bool q) ∧ (q = true ↔ l = l') ∧ Below w.heap.size w w') := by
  have hl1 := h.1; have hl2 := h'.1; by_cases hnm : n = m
  · subst hnm; have hnc := h.2.1; have hmx := h.2.2.1; have hnd := h'.2.1; have hmx2 := h'.2.2.1; unfold maxLen at hmx hmx2; have HL1 := hide h; have HL2 := hide h'; have HN1 := hide hl1; have HN2 := hide hl2; clear h h' hl1 hl2
    go_enter Tryz.func78, Tryz.ntmps78
    go_wp2
    go_loopw [5] (fun iv wr => ∃ i : Nat, i ≤ n ∧ iv = .int .i64 (i : Nat) ∧ Below w.heap.size w wr ∧ l.take i = l'.take i) (fun iv _ => n - (intOf iv).toNat)
    case atStart => exact ⟨0, Nat.zero_le _, rfl, Below.refl _ _, by simp⟩
    case round =>
      obtain ⟨i, hi, rfl, hbel, htk⟩ := hrel; have HBe := hide hbel; have HTk := hide htk; by_cases hlt : i < n
      · obtain ⟨g, o, b, B1, m1, d1, r, rfl, hg, hx, hr1, hz0, hz1⟩ := SGat (HL1.out.below sgMono hbel) hlt; obtain ⟨g2, o2, b2, B2, m2, d2, r2, rfl, hg2, hx2, hr2, hy0, hy1⟩ := SGat (HL2.out.below sgMono hbel) hlt; have HX := hide hx; have HX2 := hide hx2; have HZ0 := hide hz0; have HZ1 := hide hz1; have HY0 := hide hy0; have HY1 := hide hy1; have i1 : (i : Int) < (n : Int) := (by omega)
        have i0 : (0 : Int) ≤ (i : Int) := (by omega)
        have hwi : IntKind.i64.wrap ((i : Int) + 1) = (i : Int) + 1 := (by rw [IntKind.wrap_i64]; omega)
        obtain ⟨QQ, hQQ⟩ : ∃ q, decide (r = r2) = q := ⟨_, rfl⟩
        have HQQ := hide hQQ; have HSm := hide (fun W (hb : Below wr.heap.size wr W) => refSame_any B1 m1 d1 r B2 m2 d2 r2 W (hr1.below hb) (hr2.below hb)); rw [hQQ] at HSm; clear hbel htk hx hx2 hr1 hr2 hz0 hz1 hy0 hy1 hQQ; by_cases hbb : b = b2
        · subst hbb; go_wp2; have Hmn := hide (show AllMono [(isV (.slice (some ⟨g, o, none⟩) n c)), (isV (.int .i64 (i : Int))), (isV (ptv g (o + i * 2))), (isV (ptv g (o + i * 2))), (isV (.int .i64 b)), (isV (.slice (some ⟨g2, o2, none⟩) n d)), (isV (.int .i64 (i : Int))), (isV (ptv g2 (o2 + i * 2))), (isV (ptv g2 (o2 + i * 2))), (isV (.int .i64 b)), (isV (.bool false)), (isV (.bool false)), (isV (.slice (some ⟨g, o, none⟩) n c)), (isV (.int .i64 (i : Int))), (isV (ptv g (o + i * 2))), (isV (ptv g (o + i * 2 + 1))), (isV (.slice B1 m1 d1)), (isV (.slice (some ⟨g2, o2, none⟩) n d)), (isV (.int .i64 (i : Int))), (isV (ptv g2 (o2 + i * 2))), (isV (ptv g2 (o2 + i * 2 + 1))), (isV (.slice B2 m2 d2)), (isV (.bool QQ)), (isV (.bool (!QQ))), (isV (.bool (!QQ)))] from by repeat (first | exact trivial | refine ⟨fun _ _ _ _ h => h, ?_⟩)); refine wp_region_rel _ (by kernel_rfl) (by kernel_rfl) (relMono _ Hmn.out) ⟨?_, ?_, ?_, ?_, ?_, ?_, ?_, ?_, ?_, ?_, ?_, ?_, ?_, ?_, ?_, ?_, ?_, ?_, ?_, ?_, ?_, ?_, ?_, ?_, ?_, trivial⟩ ?_
          · exact relStep_plain rfl fun Ac w5 hp => pureM (.slice (some ⟨g, o, none⟩) n c) 0 (hp.out 0 (by rfl))
          · exact relStep_plain rfl fun Ac w5 hp => pureM (.int .i64 (i : Int)) 5 (hp.out 5 (by rfl))
          · exact relStep_plain rfl fun Ac w5 hp => pure2 (ptv g (o + i * 2)) 17 (.slice (some ⟨g, o, none⟩) n c) (hp.d 0) 18 (.int .i64 (i : Int)) (hp.d 1)
          · exact relStep_plain rfl fun Ac w5 hp => pureM (ptv g (o + i * 2)) 19 (hp.d 2)
          · refine relStep_plain rfl ?_; intro Ac w5 hp; have hb := hp.bel; have z0 : w5.cell? ⟨g, o + i * 2, none⟩ = some (.int .i64 b) := (hb.cell hg).trans HZ0.out; exact pure1 (.int .i64 b) 20 (ptv g (o + i * 2)) (hp.d 3)
          · exact relStep_plain rfl fun Ac w5 hp => pureM (.slice (some ⟨g2, o2, none⟩) n d) 1 (hp.out 1 (by rfl))
          · exact relStep_plain rfl fun Ac w5 hp => pureM (.int .i64 (i : Int)) 5 (hp.out 5 (by rfl))
          · exact relStep_plain rfl fun Ac w5 hp => pure2 (ptv g2 (o2 + i * 2)) 22 (.slice (some ⟨g2, o2, none⟩) n d) (hp.d 5) 23 (.int .i64 (i : Int)) (hp.d 6)
          · exact relStep_plain rfl fun Ac w5 hp => pureM (ptv g2 (o2 + i * 2)) 24 (hp.d 7)
          · refine relStep_plain rfl ?_; intro Ac w5 hp; have hb := hp.bel; have y0 : w5.cell? ⟨g2, o2 + i * 2, none⟩ = some (.int .i64 b) := (hb.cell hg2).trans HY0.out; exact pure1 (.int .i64 b) 25 (ptv g2 (o2 + i * 2)) (hp.d 8)
          · exact relStep_plain rfl fun Ac w5 hp => pure2 (.bool false) 21 (.int .i64 b) (hp.d 4) 26 (.int .i64 b) (hp.d 9)
          · exact relStep_plain rfl fun Ac w5 hp => pureM (.bool false) 27 (hp.d 10)
          · exact rsG 11 false fun Ac w5 hp => pureM (.slice (some ⟨g, o, none⟩) n c) 0 (hp.out 0 (by rfl))
          · exact rsG 11 false fun Ac w5 hp => pureM (.int .i64 (i : Int)) 5 (hp.out 5 (by rfl))
          · exact rsG 11 false fun Ac w5 hp => pure2 (ptv g (o + i * 2)) 29 (.slice (some ⟨g, o, none⟩) n c) (hp.d 12) 30 (.int .i64 (i : Int)) (hp.d 13)
          · exact rsG 11 false fun Ac w5 hp => pure1 (ptv g (o + i * 2 + 1)) 31 (ptv g (o + i * 2)) (hp.d 14)
          · refine rsG 11 false ?_; intro Ac w5 hp; have hb := hp.bel; have z1 : w5.cell? ⟨g, o + i * 2 + 1, none⟩ = some (.slice B1 m1 d1) := (hb.cell hg).trans HZ1.out; exact pure1 (.slice B1 m1 d1) 32 (ptv g (o + i * 2 + 1)) (hp.d 15)
          · exact rsG 11 false fun Ac w5 hp => pureM (.slice (some ⟨g2, o2, none⟩) n d) 1 (hp.out 1 (by rfl))
          · exact rsG 11 false fun Ac w5 hp => pureM (.int .i64 (i : Int)) 5 (hp.out 5 (by rfl))
          · exact rsG 11 false fun Ac w5 hp => pure2 (ptv g2 (o2 + i * 2)) 34 (.slice (some ⟨g2, o2, none⟩) n d) (hp.d 17) 35 (.int .i64 (i : Int)) (hp.d 18)
          · exact rsG 11 false fun Ac w5 hp => pure1 (ptv g2 (o2 + i * 2 + 1)) 36 (ptv g2 (o2 + i * 2)) (hp.d 19)
          · refine rsG 11 false ?_; intro Ac w5 hp; have hb := hp.bel; have y1 : w5.cell? ⟨g2, o2 + i * 2 + 1, none⟩ = some (.slice B2 m2 d2) := (hb.cell hg2).trans HY1.out; exact pure1 (.slice B2 m2 d2) 37 (ptv g2 (o2 + i * 2 + 1)) (hp.d 20)
          · refine rsG 11 false ?_; intro Ac w5 hp; have hb := hp.bel; have a33 : Ac.eval (.tmp 33) = .slice B1 m1 d1 := hp.d 16; have a38 : Ac.eval (.tmp 38) = .slice B2 m2 d2 := hp.d 21; obtain ⟨ρ, hρ, hc, hf, hgl⟩ := evalX Ac; rw [hρ] at a33 a38; refine relCall hρ 79 #[.slice B1 m1 d1, .slice B2 m2 d2] (by simp [go_sem, ↓IntWalk.iteOmega, *]) ?_; refine (HSm.out w5 hb).mono ?_; rintro e w6 ⟨rfl, hb6⟩; exact ⟨_, rfl, rfl, hb6⟩
          · exact rsG 11 false fun Ac w5 hp => pure1 (.bool (!QQ)) 39 (.bool QQ) (hp.d 22)
          · exact relStep_plain rfl fun Ac w5 hp => pure2 (.bool (!QQ)) 28 (.bool false) (hp.d 11) 40 (.bool (!QQ)) (hp.d 23)
          intro u w8 hb7 hall; have e41 : u 24 = .bool (!QQ) := relAll_at hall (i := 24) (by decide +kernel); clear hall; simp only [List.drop_succ_cons, List.drop_zero, List.take_succ_cons, List.take_zero, putAll, Act.put, List.setIfInBounds_toArray, List.set_cons_zero, List.set_cons_succ, Nat.zero_add, Nat.reduceAdd, e41]; have HB8 := hide (btr HBe.out hb7); clear hb7
          cases QQ with
          | true =>
            go_wp2
            go_roundw
            case rel => exact ⟨i + 1, by omega, by go_num, HB8.out, list_take_succ HTk.out HX.out HX2.out (by rw [of_decide_eq_true HQQ.out])⟩
            case measure => simp [intOf]; omega
          | false =>
            go_wp2; go_ret
            have hE : (false = true ↔ l = l') := ⟨fun h => (by cases h), fun e => by
              have h1 := HX.out; rw [e, HX2.out] at h1; simp only [Option.some.injEq, SG.mk.injEq] at h1; exact absurd h1.2.symm (of_decide_eq_false HQQ.out)⟩
            have hE2 : ¬ l = l' := fun e => absurd (hE.2 e) (by simp)
            first | exact ⟨false, rfl, hE, HB8.out⟩ | exact Or.inl ⟨rfl, hE2, HB8.out⟩
        · have dbb : ((b : Int) == b2) = false := (by simpa using hbb)
          go_wp2; have Hmn := hide (show AllMono [(isV (.slice (some ⟨g, o, none⟩) n c)), (isV (.int .i64 (i : Int))), (isV (ptv g (o + i * 2))), (isV (ptv g (o + i * 2))), (isV (.int .i64 b)), (isV (.slice (some ⟨g2, o2, none⟩) n d)), (isV (.int .i64 (i : Int))), (isV (ptv g2 (o2 + i * 2))), (isV (ptv g2 (o2 + i * 2))), (isV (.int .i64 b2)), (isV (.bool true)), (isV (.bool true)), (isV undef), (isV undef), (isV undef), (isV undef), (isV undef), (isV undef), (isV undef), (isV undef), (isV undef), (isV undef), (isV undef), (isV undef), (isV (.bool true))] from by repeat (first | exact trivial | refine ⟨fun _ _ _ _ h => h, ?_⟩)); refine wp_region_rel _ (by kernel_rfl) (by kernel_rfl) (relMono _ Hmn.out) ⟨?_, ?_, ?_, ?_, ?_, ?_, ?_, ?_, ?_, ?_, ?_, ?_, ?_, ?_, ?_, ?_, ?_, ?_, ?_, ?_, ?_, ?_, ?_, ?_, ?_, trivial⟩ ?_
          · exact relStep_plain rfl fun Ac w5 hp => pureM (.slice (some ⟨g, o, none⟩) n c) 0 (hp.out 0 (by rfl))
          · exact relStep_plain rfl fun Ac w5 hp => pureM (.int .i64 (i : Int)) 5 (hp.out 5 (by rfl))
          · exact relStep_plain rfl fun Ac w5 hp => pure2 (ptv g (o + i * 2)) 17 (.slice (some ⟨g, o, none⟩) n c) (hp.d 0) 18 (.int .i64 (i : Int)) (hp.d 1)
          · exact relStep_plain rfl fun Ac w5 hp => pureM (ptv g (o + i * 2)) 19 (hp.d 2)
          · refine relStep_plain rfl ?_; intro Ac w5 hp; have hb := hp.bel; have z0 : w5.cell? ⟨g, o + i * 2, none⟩ = some (.int .i64 b) := (hb.cell hg).trans HZ0.out; exact pure1 (.int .i64 b) 20 (ptv g (o + i * 2)) (hp.d 3)
          · exact relStep_plain rfl fun Ac w5 hp => pureM (.slice (some ⟨g2, o2, none⟩) n d) 1 (hp.out 1 (by rfl))
          · exact relStep_plain rfl fun Ac w5 hp => pureM (.int .i64 (i : Int)) 5 (hp.out 5 (by rfl))
          · exact relStep_plain rfl fun Ac w5 hp => pure2 (ptv g2 (o2 + i * 2)) 22 (.slice (some ⟨g2, o2, none⟩) n d) (hp.d 5) 23 (.int .i64 (i : Int)) (hp.d 6)
          · exact relStep_plain rfl fun Ac w5 hp => pureM (ptv g2 (o2 + i * 2)) 24 (hp.d 7)
          · refine relStep_plain rfl ?_; intro Ac w5 hp; have hb := hp.bel; have y0 : w5.cell? ⟨g2, o2 + i * 2, none⟩ = some (.int .i64 b2) := (hb.cell hg2).trans HY0.out; exact pure1 (.int .i64 b2) 25 (ptv g2 (o2 + i * 2)) (hp.d 8)
          · exact relStep_plain rfl fun Ac w5 hp => pure2 (.bool true) 21 (.int .i64 b) (hp.d 4) 26 (.int .i64 b2) (hp.d 9)
          · exact relStep_plain rfl fun Ac w5 hp => pureM (.bool true) 27 (hp.d 10)
          · exact rsN 11 false
          · exact rsN 11 false
          · exact rsN 11 false
          · exact rsN 11 false
          · exact rsN 11 false
          · exact rsN 11 false
          · exact rsN 11 false
          · exact rsN 11 false
          · exact rsN 11 false
          · exact rsN 11 false
          · exact rsN 11 false
          · exact rsN 11 false
          · exact relStep_plain rfl fun Ac w5 hp => pureM (.bool true) 28 (hp.d 11)
          intro u w8 hb7 hall; have e41 : u 24 = .bool true := relAll_at hall (i := 24) (by decide +kernel); clear hall; simp only [List.drop_succ_cons, List.drop_zero, List.take_succ_cons, List.take_zero, putAll, Act.put, List.setIfInBounds_toArray, List.set_cons_zero, List.set_cons_succ, Nat.zero_add, Nat.reduceAdd, e41]; have HB8 := hide (btr HBe.out hb7); clear hb7; go_wp2; go_ret
          have hE : (false = true ↔ l = l') := ⟨fun h => (by cases h), fun e => by
            have h1 := HX.out; rw [e, HX2.out] at h1; simp only [Option.some.injEq, SG.mk.injEq] at h1; exact absurd h1.1.symm hbb⟩
          have hE2 : ¬ l = l' := fun e => absurd (hE.2 e) (by simp)
          first | exact ⟨false, rfl, hE, HB8.out⟩ | exact Or.inl ⟨rfl, hE2, HB8.out⟩
      · obtain rfl : i = n := (by omega)
        have e1 : decide ((i : Int) < (i : Int)) = false := (by simp)
        have HE : Hid (l = l') := hide (by
          rwa [List.take_of_length_le (by rw [HN1.out]; exact Nat.le_refl _), List.take_of_length_le (by rw [HN2.out]; exact Nat.le_refl _)] at htk)
        clear hbel hlt htk HTk; go_wp2; go_ret; exact ⟨true, rfl, ⟨fun _ => HE.out, fun _ => rfl⟩, HBe.out⟩
  · have d1 : decide ((n : Int) = (m : Int)) = false := decide_eq_false (by omega); have d2 : ((n : Int) == (m : Int)) = false := (by simpa using fun h => hnm (by omega))
    have HNe : Hid (l ≠ l') := hide (fun e => hnm (by rw [← hl1, ← hl2, e])); clear h h' hl1 hl2
    go_enter Tryz.func78, Tryz.ntmps78
    go_wp2; go_ret; exact ⟨false, rfl, ⟨fun h => (by cases h), fun e => absurd e HNe.out⟩, Below.refl _ _⟩
set_option maxRecDepth 100000 in
set_option maxHeartbeats 8000000 in
theorem refASany_any (X Y : AT) (v v' : Value) (w : World) (hv : AtR w X v) (hv' : AtR w Y v') (hn : X.path.length ≤ 100000) : Calls Tryz.prog 30 #[v, v'] w fun e w' => ∃ q : Bool, e = .returned (.bool q) ∧ (q = true ↔ X = Y) ∧ Below w.heap.size w w' := by
 obtain ⟨A, n, c, B, m, d, rfl, hP, hC⟩ := hv; obtain ⟨A2, n2, c2, B2, m2, d2, rfl, hP2, hC2⟩ := hv'; obtain ⟨w1, hw1⟩ : ∃ w1, (w.alloc (.cells (atC X.has X.org A n c X.hop X.med X.pref X.aas X.aid B m d) 28)).alloc (.cells (atC Y.has Y.org A2 n2 c2 Y.hop Y.med Y.pref Y.aas Y.aid B2 m2 d2) 28) = w1 := ⟨_, rfl⟩
 have hb1 : Below w.heap.size w w1 := hw1 ▸ blkBelow2 w _ _; have HK1 : Hid (Blk w1 w.heap.size 28 (atC X.has X.org A n c X.hop X.med X.pref X.aas X.aid B m d)) := hide (hw1 ▸ (Blk.new w _ _).alloc _); have HK2 : Hid (Blk w1 (w.heap.size + 1) 28 (atC Y.has Y.org A2 n2 c2 Y.hop Y.med Y.pref Y.aas Y.aid B2 m2 d2)) := hide (hw1 ▸ blk_new' _ _ (by simp)); have HPs := hide (psany_any A A2 n c n2 c2 X.path Y.path w1 (hP.below sgMono hb1) (hP2.below sgMono hb1) (by rw [← hP.1]; exact hn)); have HU := hide (fun W (hb : Below w.heap.size w W) => hC.below hb); have HU2 := hide (fun W (hb : Below w.heap.size w W) => hC2.below hb); have HB1 := hide hb1; have HW1 := hide hw1; clear hw1 hb1 hP hP2 hC hC2 hn; have hcase : (X.has = Y.has ∧ X.org = Y.org) ∨ ¬ (X.has = Y.has ∧ X.org = Y.org) := Decidable.em _; rcases hcase with ⟨h1, h2⟩ | hq
 ·have HQ1 := hide h1; have HQ2 := hide h2; rw [h1, h2] at HK1 HW1; rw [h1, h2]; clear h1 h2; obtain ⟨a0, a1, a2, a3, a4, a5, a6, a7, a8⟩ := blk9 HK1.out; obtain ⟨b0, b1, b2, b3, b4, b5, b6, b7, b8⟩ := blk9 HK2.out
  go_enter Tryz.func30, Tryz.ntmps30
  go_wp2_with fail
  rw [HW1.out]; refine HPs.out.mono ?_; rintro e w2 ⟨q, rfl, hq, hb⟩; have HB2 := hide (btr HB1.out hb); have HK1 := hide (HK1.out.below hb HK1.out.lt); have HK2 := hide (HK2.out.below hb HK2.out.lt); have HSa := hide (refSame_any B m d X.comms B2 m2 d2 Y.comms w2 (HU.out w2 HB2.out) (HU2.out w2 HB2.out)); have HPq := hide hq; clear hb hq a0 a1 a2 a3 a4 a5 a6 a7 a8 b0 b1 b2 b3 b4 b5 b6 b7 b8
  cases q with
  | false =>
   go_wp2; go_ret; exact ⟨false, rfl, ⟨fun h => (by cases h), fun h => absurd (HPq.out.2 (by rw [h])) (by simp)⟩, HB2.out⟩
  | true =>
   have hcase : nuA X = nuA Y ∨ nuA X ≠ nuA Y := Decidable.em _; rcases hcase with hq | hq
   ·have HQ := hide hq; simp only [nuA, List.cons.injEq, and_true] at hq; obtain ⟨_, _, h3, h4, h5, h6, h7⟩ := hq; rw [h3, h4, h5, h6, h7] at HK1; clear h3 h4 h5 h6 h7; obtain ⟨a0, a1, a2, a3, a4, a5, a6, a7, a8⟩ := blk9 HK1.out; obtain ⟨b0, b1, b2, b3, b4, b5, b6, b7, b8⟩ := blk9 HK2.out; obtain ⟨q2, hq2⟩ : ∃ q, decide (X.comms = Y.comms) = q := ⟨_, rfl⟩
    rw [hq2] at HSa; have HQq := hide hq2; clear hq2
    go_wp2_with fail
    refine HSa.out.mono ?_; rintro e w3 ⟨rfl, hb⟩; have HB3 := hide (btr HB2.out hb); clear hb a0 a1 a2 a3 a4 a5 a6 a7 a8 b0 b1 b2 b3 b4 b5 b6 b7 b8; go_wp2; go_ret; refine ⟨q2, rfl, ?_, HB3.out⟩; rw [← HQq.out, decide_eq_true_iff]; exact ⟨fun h => at_ext HQ.out (HPq.out.1 (by simp)) h, fun h => by rw [h]⟩
   ·have HQ := hide hq; have HE1 := HQ1.out; have HE2 := HQ2.out; clear hq; obtain ⟨a0, a1, a2, a3, a4, a5, a6, a7, a8⟩ := blk9 HK1.out; obtain ⟨b0, b1, b2, b3, b4, b5, b6, b7, b8⟩ := blk9 HK2.out; go_wp2
    all_goals first
     | (exfalso; refine HQ.out ?_; simp only [nuA, *]; done)
     | (go_ret; exact ⟨false, rfl, ⟨fun h => (by cases h), fun h => absurd (congrArg nuA h) HQ.out⟩, HB2.out⟩)
 ·have HQ := hide hq; clear hq; obtain ⟨a0, a1, a2, a3, a4, a5, a6, a7, a8⟩ := blk9 HK1.out; obtain ⟨b0, b1, b2, b3, b4, b5, b6, b7, b8⟩ := blk9 HK2.out
  go_enter Tryz.func30, Tryz.ntmps30
  go_upto_region 1 with fail
  rw [HW1.out]
  go_wp2_with fail
  all_goals first
   | (exfalso; refine HQ.out ?_; simp only [*, and_self]; done)
   | (go_ret; exact ⟨false, rfl, ⟨fun h => (by cases h), fun h => absurd ⟨by rw [h], by rw [h]⟩ HQ.out⟩, HB1.out⟩)
set_option maxRecDepth 100000 in
set_option maxHeartbeats 4000000 in
theorem ribinNew_any (own ax : Nat) (w : World) : Calls Tryz.prog 25 #[.int .u32 (own : Int), .agg #[.int .u32 0, .int .u32 (ax : Int), .int .i64 0, .bool false, .string ⟨#[]⟩, .string ⟨#[]⟩, .string ⟨#[]⟩, .bool false, .string ⟨#[]⟩, .string ⟨#[]⟩, .string ⟨#[]⟩, .bool false]] w fun e w' => ∃ R g, e = .returned (.pointer (some ⟨R, 0, none⟩)) ∧ Blk w' R 120 #[.int .u32 (own : Int), .int .u32 0, .int .u32 (ax : Int), .int .i64 0, .bool false, .string ⟨#[]⟩, .string ⟨#[]⟩, .string ⟨#[]⟩, .bool false, .string ⟨#[]⟩, .string ⟨#[]⟩, .string ⟨#[]⟩, .bool false, .pointer (some ⟨g, 0, none⟩)] ∧ Blk w' g 215 #[.pointer none] ∧ w.heap.size ≤ g ∧ g < R ∧ Below w.heap.size w w' := by
 obtain ⟨w1, hw1⟩ : ∃ w1, w.alloc (.cells #[.int .u32 0, .int .u32 (ax : Int), .int .i64 0, .bool false, .string ⟨#[]⟩, .string ⟨#[]⟩, .string ⟨#[]⟩, .bool false, .string ⟨#[]⟩, .string ⟨#[]⟩, .string ⟨#[]⟩, .bool false] 46) = w1 := ⟨_, rfl⟩
 have hb1 : Below w.heap.size w w1 := hw1 ▸ blkBelow1 w _; have HK : Hid (Blk w1 w.heap.size 46 #[.int .u32 0, .int .u32 (ax : Int), .int .i64 0, .bool false, .string ⟨#[]⟩, .string ⟨#[]⟩, .string ⟨#[]⟩, .bool false, .string ⟨#[]⟩, .string ⟨#[]⟩, .string ⟨#[]⟩, .bool false]) := hide (hw1 ▸ Blk.new w _ _); have HB1 := hide hb1; have HW1 := hide hw1; clear hw1 hb1
 go_enter Tryz.func25, Tryz.ntmps25
 go_upto_region 1 with fail
 rw [HW1.out]; have Hmn := hide (show AllMono [(isV (.int .u32 (own : Int))), (isV (.agg #[.int .u32 0, .int .u32 (ax : Int), .int .i64 0, .bool false, .string ⟨#[]⟩, .string ⟨#[]⟩, .string ⟨#[]⟩, .bool false, .string ⟨#[]⟩, .string ⟨#[]⟩, .string ⟨#[]⟩, .bool false])), (fun v W => ∃ g, v = .pointer (some ⟨g, 0, none⟩) ∧ Blk W g 215 #[.pointer none] ∧ w1.heap.size ≤ g), (fun v W => ∃ g, v = .agg #[.int .u32 (own : Int), .int .u32 0, .int .u32 (ax : Int), .int .i64 0, .bool false, .string ⟨#[]⟩, .string ⟨#[]⟩, .string ⟨#[]⟩, .bool false, .string ⟨#[]⟩, .string ⟨#[]⟩, .string ⟨#[]⟩, .bool false, .pointer (some ⟨g, 0, none⟩)] ∧ Blk W g 215 #[.pointer none] ∧ w1.heap.size ≤ g), (fun v W => ∃ R g, v = .pointer (some ⟨R, 0, none⟩) ∧ Blk W R 120 #[.int .u32 (own : Int), .int .u32 0, .int .u32 (ax : Int), .int .i64 0, .bool false, .string ⟨#[]⟩, .string ⟨#[]⟩, .string ⟨#[]⟩, .bool false, .string ⟨#[]⟩, .string ⟨#[]⟩, .string ⟨#[]⟩, .bool false, .pointer (some ⟨g, 0, none⟩)] ∧ Blk W g 215 #[.pointer none] ∧ w1.heap.size ≤ g ∧ g < R)] from ⟨fun _ _ _ _ h => h, fun _ _ _ _ h => h, fun v w2 w3 hb ⟨g, e, h1, h2⟩ => ⟨g, e, h1.below hb h1.lt, h2⟩, fun v w2 w3 hb ⟨g, e, h1, h2⟩ => ⟨g, e, h1.below hb h1.lt, h2⟩, fun v w2 w3 hb ⟨R, g, e, h1, h2, h3, h4⟩ => ⟨R, g, e, h1.below hb h1.lt, h2.below hb h2.lt, h3, h4⟩, trivial⟩); refine wp_region_relT 5 _ (by kernel_rfl) (by kernel_rfl) (by kernel_rfl) (by kernel_rfl) (by kernel_rfl) (relMono _ Hmn.out) ⟨?_, ?_, ?_, ?_, ?_, trivial⟩ ?_
 ·exact relStep_plain rfl fun Ac w5 hp => pureM (.int .u32 (own : Int)) 0 (hp.out 0 (by rfl))
 ·refine relStep_plain rfl ?_; intro Ac w5 hp; have hb := hp.bel; have hx5 := HK.out.below hb HK.out.lt; have z0 : w5.cell? ⟨w.heap.size, 0, none⟩ = some (.int .u32 0) := hx5.cell 0; have z1 : w5.cell? ⟨w.heap.size, 1, none⟩ = some (.int .u32 (ax : Int)) := hx5.cell 1; have z2 : w5.cell? ⟨w.heap.size, 2, none⟩ = some (.int .i64 0) := hx5.cell 2; have z3 : w5.cell? ⟨w.heap.size, 3, none⟩ = some (.bool false) := hx5.cell 3; have z4 : w5.cell? ⟨w.heap.size, 4, none⟩ = some (.string ⟨#[]⟩) := hx5.cell 4; have z5 : w5.cell? ⟨w.heap.size, 5, none⟩ = some (.string ⟨#[]⟩) := hx5.cell 5; have z6 : w5.cell? ⟨w.heap.size, 6, none⟩ = some (.string ⟨#[]⟩) := hx5.cell 6; have z7 : w5.cell? ⟨w.heap.size, 7, none⟩ = some (.bool false) := hx5.cell 7; have z8 : w5.cell? ⟨w.heap.size, 8, none⟩ = some (.string ⟨#[]⟩) := hx5.cell 8; have z9 : w5.cell? ⟨w.heap.size, 9, none⟩ = some (.string ⟨#[]⟩) := hx5.cell 9; have z10 : w5.cell? ⟨w.heap.size, 10, none⟩ = some (.string ⟨#[]⟩) := hx5.cell 10; have z11 : w5.cell? ⟨w.heap.size, 11, none⟩ = some (.bool false) := hx5.cell 11; exact pure1 (.agg #[.int .u32 0, .int .u32 (ax : Int), .int .i64 0, .bool false, .string ⟨#[]⟩, .string ⟨#[]⟩, .string ⟨#[]⟩, .bool false, .string ⟨#[]⟩, .string ⟨#[]⟩, .string ⟨#[]⟩, .bool false]) 3 (ptv w.heap.size 0) (hp.out 3 (by rfl))
 ·refine relStep_plain rfl ?_; intro Ac w5 hp; have hb := hp.bel; obtain ⟨ρ, hρ, hc, hf, hgl⟩ := evalX Ac; refine relCall hρ 69 #[] (by simp [go_sem, ↓IntWalk.iteOmega, *]) ?_; refine (newA_any w5).mono ?_; rintro e w6 ⟨rfl, hk6, hb6⟩; exact ⟨_, rfl, ⟨_, rfl, hk6, hb.size⟩, hb6⟩
 ·refine relStep_plain rfl ?_; intro Ac w5 hp; have a5 : Ac.eval (.tmp 5) = .int .u32 (own : Int) := hp.d 0; have a6 : Ac.eval (.tmp 6) = .agg #[.int .u32 0, .int .u32 (ax : Int), .int .i64 0, .bool false, .string ⟨#[]⟩, .string ⟨#[]⟩, .string ⟨#[]⟩, .bool false, .string ⟨#[]⟩, .string ⟨#[]⟩, .string ⟨#[]⟩, .bool false] := hp.d 1; obtain ⟨g7, a7, hk7, hg7⟩ := hp.d 2; change Ac.eval (.tmp 7) = _ at a7; exact relPureX (.agg #[.int .u32 (own : Int), .int .u32 0, .int .u32 (ax : Int), .int .i64 0, .bool false, .string ⟨#[]⟩, .string ⟨#[]⟩, .string ⟨#[]⟩, .bool false, .string ⟨#[]⟩, .string ⟨#[]⟩, .string ⟨#[]⟩, .bool false, .pointer (some ⟨g7, 0, none⟩)]) (fun ρ hρ h1 h2 h3 => by rw [hρ] at a5 a6 a7; simp [go_sem, ↓IntWalk.iteOmega, *]) ⟨g7, rfl, hk7, hg7⟩
 ·refine relStep_plain rfl ?_; intro Ac w5 hp; obtain ⟨g8, a8, hk8, hg8⟩ := hp.d 3; change Ac.eval (.tmp 8) = _ at a8; obtain ⟨ρ, hρ, hc, hf, hgl⟩ := evalX Ac; rw [hρ] at a8; exact relVal hρ (.pointer (some ⟨w5.heap.size, 0, none⟩)) (w5.alloc (.cells #[.int .u32 (own : Int), .int .u32 0, .int .u32 (ax : Int), .int .i64 0, .bool false, .string ⟨#[]⟩, .string ⟨#[]⟩, .string ⟨#[]⟩, .bool false, .string ⟨#[]⟩, .string ⟨#[]⟩, .string ⟨#[]⟩, .bool false, .pointer (some ⟨g8, 0, none⟩)] 120)) (by simp [go_sem, hc, hf, hgl, ↓IntWalk.iteOmega, a8]) ⟨w5.heap.size, g8, rfl, Blk.new w5 _ _, hk8.alloc _, hg8, hk8.lt⟩ ((Below.refl _ _).alloc (Nat.le_refl _) _)
 intro u w8 hb7 hall; obtain ⟨R9, g9, e9, hR9, hk9, hg9, hl9⟩ := relAll_at hall (i := 4) (by decide +kernel); change u 4 = _ at e9; clear hall; simp only [List.drop_succ_cons, List.drop_zero, List.take_succ_cons, List.take_zero, putAll, Act.put, List.setIfInBounds_toArray, List.set_cons_zero, List.set_cons_succ, Nat.zero_add, Nat.reduceAdd, e9]; have HB8 := hide (btr HB1.out hb7); have HR9 := hide hR9; have HK9 := hide hk9; have hg := Nat.le_trans HB1.out.size hg9; clear hb7 hR9 hk9; go_wp2; go_ret; exact ⟨R9, g9, rfl, HR9.out, HK9.out, hg, hl9, HB8.out⟩
theorem lst_px1 {w : World} {hh a n : Nat} (hH : Blk w hh 24 #[.int .u32 (a : Int), .int .i64 (n : Int)]) : LstAt 2 pxR w (some ⟨hh, 0, none⟩) 1 1 [(a, n)] := by
 refine ⟨rfl, Nat.le_refl _, by unfold maxLen; omega, fun _ => ⟨_, _, rfl, hH.lt, fun k x hx => ?_⟩⟩
 have hk0 : k = 0 := by
  have := (List.getElem?_eq_some_iff.1 hx).1; simp at this; exact this
 subst hk0; simp only [List.getElem?_cons_zero, Option.some.injEq] at hx; subst hx; refine ⟨[.int .u32 (a : Int), .int .i64 (n : Int)], rfl, rfl, fun j v hj => ?_⟩; rw [Nat.zero_mul, Nat.add_zero, Nat.zero_add, hH.cell j]; simpa using hj
theorem sortP_one {a n : Nat} (h : PG a n) : sortP [(a, n)] = [(a, n)] := by
 have e : setOf [pK (a, n)] = [pK (a, n)] := rfl; unfold sortP; rw [List.map_cons, List.map_nil, e, List.map_cons, List.map_nil, unK_pK h]
def lX1 : AT := ⟨14, 0, [⟨2, [65001]⟩], 5, 0, 0, 0, 0, []⟩
def lX2 : AT := ⟨4, 0, [⟨2, [65001, 65000]⟩], 0, 0, 0, 0, 0, []⟩
theorem norm_lX1 : normA lX1 = lX1 := by kernel_rfl
theorem sg_one {w : World} {s u : Nat} {l : List Nat} {m : Nat} (hs : Blk w s 99 #[.int .i64 2, .slice (some ⟨u, 0, none⟩) m m]) (hu : U32s w (some ⟨u, 0, none⟩) m m l) : LstAt 2 sgR w (some ⟨s, 0, none⟩) 1 1 [⟨2, l⟩] := by
 refine ⟨rfl, Nat.le_refl _, by unfold maxLen; omega, fun _ => ⟨_, _, rfl, hs.lt, fun k x hx => ?_⟩⟩
 have hk0 : k = 0 := by
  have := (List.getElem?_eq_some_iff.1 hx).1; simp at this; exact this
 subst hk0; simp only [List.getElem?_cons_zero, Option.some.injEq] at hx; subst hx; refine ⟨_, rfl, ⟨_, _, _, rfl, hu⟩, fun j v hj => ?_⟩; rw [Nat.zero_mul, Nat.add_zero, Nat.zero_add, hs.cell j]; simpa using hj
theorem u32_blk {w : World} {u : Nat} {l : List Nat} {m : Nat} (hu : Blk w u 22 (l.map fun x : Nat => Value.int .u32 (x : Int)).toArray) (hm : l.length = m) (hl : ∀ x ∈ l, x < 4294967296) (hmx : m ≤ 1000) : U32s w (some ⟨u, 0, none⟩) m m l := by
 refine ⟨hm, Nat.le_refl _, by unfold maxLen; omega, hl, fun _ => ⟨u, 0, rfl, hu.lt, fun k x hx => ?_⟩⟩; rw [Nat.zero_add, hu.cell k]; simp [hx]
theorem blk_ags {S : Nat → Prop} {w w' : World} {g : Nat} {t : TypeId} {cs : Array Value} (h : Blk w g t cs) (ha : AgS S none w w') (hS : S g) : Blk w' g t cs := ha.2 g _ hS h rfl (by simp)
def lY1 : AT := (accF 65000 65001 lX1).1
theorem accF_lX1 : accF 65000 65001 lX1 = (lY1, true) := by kernel_rfl
theorem accF_lX2 : accF 65000 65001 lX2 = (lX2, false) := by kernel_rfl
theorem ribLen_any (own ax r g : Nat) (F : Nat → Prop) (t : Tr AT) (w : World) (hr : Blk w r 120 #[.int .u32 (own : Int), .int .u32 0, .int .u32 (ax : Int), .int .i64 0, .bool false, .string ⟨#[]⟩, .string ⟨#[]⟩, .string ⟨#[]⟩, .bool false, .string ⟨#[]⟩, .string ⟨#[]⟩, .string ⟨#[]⟩, .bool false, .pointer (some ⟨g, 0, none⟩)]) (hT : TrT F w g t) (hn : trCnt t = 1) : Calls Tryz.prog 81 #[.pointer (some ⟨r, 0, none⟩)] w fun e w' => e = .returned (.int .i64 1) ∧ Below w.heap.size w w' := by
 have HL := hide (tlenA_any (F := F) (R := atR) g t w hT.root hT.tree.mem); rw [hn] at HL; have HR := hide hr; clear hr hT hn; have z13 : w.cell? ⟨r, 13, none⟩ = some (.pointer (some ⟨g, 0, none⟩)) := HR.out.cell 13
 go_enter Tryz.func81, Tryz.ntmps81
 go_wp2_with fail
 refine HL.out.mono ?_; rintro e w1 ⟨rfl, rfl⟩; go_wp2; go_ret; exact ⟨rfl, Below.refl _ _⟩
set_option maxRecDepth 100000 in
set_option maxHeartbeats 8000000 in
theorem lives27G_any (w : World) : Calls Tryz.prog 31 #[] w (GoodP true w) := by
  have HNw := hide (ribinNew_any 65000 65001 w)
  go_enter Tryz.func31, Tryz.ntmps31
  go_wp2_with fail
  refine HNw.out.mono ?_; rintro e w1 ⟨R, g, rfl, hR1, hg1, hgs, hgR, hb1⟩; obtain ⟨w2, hw2⟩ : ∃ W, w1.alloc (.cells #[.int .u32 167772160, .int .i64 8] 24) = W := ⟨_, rfl⟩
  have hb2 : Below w1.heap.size w1 w2 := hw2 ▸ blkBelow1 w1 _; have HP2 : Hid (Blk w2 w1.heap.size 24 #[.int .u32 167772160, .int .i64 8]) := hide (hw2 ▸ Blk.new w1 _ _); have HR2 := hide (hR1.below hb2 hR1.lt); have HG2 := hide (hg1.below hb2 hg1.lt); have HB2 := hide (hb1.trans (hb2.mono hb1.size)); have HW2 := hide hw2; have hRl := hR1.lt; clear hw2 hR1 hg1 hb2
  go_upto_region 3 with fail
  rw [HW2.out]; obtain ⟨w3, hw3⟩ : ∃ W, ((w2.alloc (.cells #[.int .u32 65001] 22)).alloc (.cells #[.int .i64 2, .slice (some ⟨w2.heap.size, 0, none⟩) 1 1] 99)).alloc (.cells #[.int .i64 14, .int .i64 0, .slice (some ⟨w2.heap.size + 1, 0, none⟩) 1 1, .int .u32 5, .int .u32 0, .int .u32 0, .int .u32 0, .int .u32 0, .slice none 0 0] 28) = W := ⟨_, rfl⟩
  have hb3 : Below w2.heap.size w2 w3 := hw3 ▸ blkBelow3q w2 _ _ _; have HU3 : Hid (Blk w3 w2.heap.size 22 #[.int .u32 65001]) := hide (hw3 ▸ ((Blk.new w2 _ _).alloc _).alloc _); have HS3 : Hid (Blk w3 (w2.heap.size + 1) 99 #[.int .i64 2, .slice (some ⟨w2.heap.size, 0, none⟩) 1 1]) := hide (hw3 ▸ (blk_new' _ _ (by simp)).alloc _); have HA3 : Hid (Blk w3 (w2.heap.size + 1 + 1) 28 #[.int .i64 14, .int .i64 0, .slice (some ⟨w2.heap.size + 1, 0, none⟩) 1 1, .int .u32 5, .int .u32 0, .int .u32 0, .int .u32 0, .int .u32 0, .slice none 0 0]) := hide (hw3 ▸ blk_new' _ _ (by simp)); have HW3 := hide hw3; have HB3 := hide (btr HB2.out hb3); have HP3 := hide (HP2.out.below hb3 HP2.out.lt); have HR3 := hide (HR2.out.below hb3 HR2.out.lt); have HG3 := hide (HG2.out.below hb3 HG2.out.lt); clear hw3 hb3
  go_upto_region 4 with fail
  rw [HW3.out]; obtain ⟨w4, hw4⟩ : ∃ W, w3.alloc (.cells #[.int .u32 167772160, .int .i64 8] 24) = W := ⟨_, rfl⟩
  have hb4 : Below w3.heap.size w3 w4 := hw4 ▸ blkBelow1 w3 _; have HH4 : Hid (Blk w4 w3.heap.size 24 #[.int .u32 167772160, .int .i64 8]) := hide (hw4 ▸ Blk.new w3 _ _); have HU4 := hide (HU3.out.below hb4 HU3.out.lt); have HS4 := hide (HS3.out.below hb4 HS3.out.lt); have HP4 := hide (HP3.out.below hb4 HP3.out.lt); have HR4 := hide (HR3.out.below hb4 HR3.out.lt); have HG4 := hide (HG3.out.below hb4 HG3.out.lt); have HB4 := hide (btr HB3.out hb4); have hl3 := HG3.out.lt; have hs1 := hb1.size; have hp1 := HP2.out.lt; have hgw1 : g < w1.heap.size := Nat.lt_trans hgR hRl; have HUr : Hid (U32s w4 (some ⟨w2.heap.size, 0, none⟩) 1 1 [65001]) := hide (u32_blk (l := [65001]) HU4.out rfl (by decide) (by decide)); have HSr : Hid (LstAt 2 sgR w4 (some ⟨w2.heap.size + 1, 0, none⟩) 1 1 [⟨2, [65001]⟩]) := hide (sg_one HS4.out HUr.out); have hgR : g ≠ R := (by omega)
  have HTt : Hid (TrT (fun _ => False) w4 g (.nil : Tr AT)) := hide ⟨HG4.out, TrA.nil_, fun h => h, by simp [trB], fun k h => h.elim, by simp [trL], by simp [trCnt]⟩; have hu4 := HU4.out.lt; have hs4 := HS4.out.lt; have hh4 := HH4.out.lt
  have HUpM : Hid (∀ W, AgS (fun k => k < w4.heap.size ∧ k ≠ g) none w4 W → UpM [] [(167772160, 8)] lX1 none 0 0 (some ⟨w2.heap.size + 1, 0, none⟩) 1 1 none 0 0 (some ⟨w3.heap.size, 0, none⟩) 1 1 W) := hide (fun W ha => by
    have hU := blk_ags HU4.out ha ⟨hu4, by omega⟩; have hS := blk_ags HS4.out ha ⟨hs4, by omega⟩; have hH := blk_ags HH4.out ha ⟨hh4, by omega⟩; exact ⟨LstAt.none_, pz_of_px (lst_px1 hH) (by simpa using pg8), _, _, _, none, 0, 0, rfl, sg_one hS (u32_blk (l := [65001]) hU rfl (by decide) (by decide)), rfl, Nat.le_refl _, Nat.zero_le _, by simp [lX1], fun h => absurd h (by omega)⟩)
  have HFd := hide (FeedQ_any 65000 65001 R g 0 1 0 1 (fun _ => False) (fun k => k < w4.heap.size ∧ k ≠ g) .nil [] [(167772160, 8)] none (some ⟨w3.heap.size, 0, none⟩) lX1 (some ⟨w2.heap.size + 1, 0, none⟩) 1 1 none 0 0 lY1 true w4 accF_lX1 HR4.out HTt.out (fun j hj => ⟨hj.1, hj.2, by simp [trB]⟩) HUpM.out ⟨by decide, by decide⟩ (fun q => q = true) (fun W hb => by
    have h := HUpM.out W (⟨hb.size, fun k o hk ho _ _ => (hb.block k hk.1).trans ho⟩); obtain ⟨h1, h2, Ax, kx, cx, Bqx, mx, dx, ex, hP, hC⟩ := h; simp only [atV, Value.agg.injEq, Array.mk.injEq, List.cons.injEq, and_true, true_and, Value.slice.injEq, Option.some.injEq, Addr.mk.injEq] at ex; have e1 := ex.1; have e2 := ex.2; refine (updGood_own none (some ⟨w3.heap.size, 0, none⟩) 0 0 1 1 [] [(167772160, (8 : Int))] lX1 (some ⟨w2.heap.size + 1, 0, none⟩) 1 1 none 0 0 W h1 h2 (by simp) (by simpa using good_pg pg8) (by omega) (by obtain ⟨rfl, rfl, rfl⟩ := e1; exact hP) (by obtain ⟨_, rfl, rfl, rfl⟩ := ex; exact hC) norm_lX1 (by decide) (by decide) (by decide) (by decide) (by decide) ⟨by decide, rfl⟩ (by kernel_rfl) (by decide) (by decide) (by decide)).mono ?_; rintro e w' ⟨rfl, hb2⟩; exact ⟨true, rfl, rfl, hb2⟩) (fun _ => ⟨by simp, by simpa using good_pg pg8⟩) (by omega) (by omega) (by simp [trCnt]))
  have HW4 := hide hw4; clear hw4 hb4; obtain ⟨a0, a1, a2, a3, a4, a5, a6, a7, a8⟩ := blk9 HA3.out; have p0 : w3.cell? ⟨w1.heap.size, 0, none⟩ = some (.int .u32 167772160) := HP3.out.cell 0; have p1 : w3.cell? ⟨w1.heap.size, 1, none⟩ = some (.int .i64 8) := HP3.out.cell 1
  go_wp2_with fail
  rw [HW4.out]; refine HFd.out.mono ?_; rintro e w5 ⟨q4, A4, n4, c4, F4, t4, hq4, rfl, hT5, hj5, hcn5, hr5, hch5, hF5, hcs⟩
  obtain ⟨hl5, htl5⟩ : LstAt 2 pxR w5 A4 n4 c4 [(167772160, 8)] ∧ trL t4 = [(167772160, 8, lY1)] := by
    rcases hcs with ⟨h1, _⟩ | ⟨_, h1, h2⟩
    · rw [hq4] at h1; cases h1
    · have e1 : (fedF lY1 true (trL (.nil : Tr AT)) (([] : List (Nat × Int)).map natP) (([(167772160, (8 : Int))] : List (Nat × Int)).map natP)) = ([(167772160, 8, lY1)], [(167772160, 8)]) := rfl; rw [e1] at h1 h2; rw [show sortP [((167772160 : Nat), (8 : Nat))] = [(167772160, 8)] from sortP_one pg8] at h1; exact ⟨h1, h2⟩
  have hn4 : 1 = n4 := hl5.1; subst hn4; have hcnt : trCnt t4 = 1 := (by rw [← trL_len, htl5]; rfl)
  have hc5 : ChgS (fun k => k = g) w4 w5 := chg_mono hch5 (fun k h => h.elim .inl (fun h => by simp [trB] at h)); have HL5 := hide hl5; have HR5 := hide hr5; have HT5 := hide hT5; have HCt5 := hide hcnt; have HP5 := hide (chg_blk hc5 HP4.out (show ¬ (w1.heap.size = g) by omega)); have HC5 : Hid (ChgS (fun k => k = g) w4 w5) := hide hc5; have HB5 : Hid (Below w.heap.size w w5) := hide (chg_to_below (chg_trans (chg_below (S := fun k => k = g) HB4.out) hc5 (fun k h => .inl h)) (Nat.le_refl _) (fun k h => by omega)); clear hl5 hr5 hT5 hc5 hcs hq4 hj5 hcn5 hch5 hF5 htl5 hcnt a0 a1 a2 a3 a4 a5 a6 a7 a8 p0 p1; obtain ⟨gA, oA, hAd, _⟩ := HL5.out.2.2.2 (by omega); subst hAd; obtain ⟨w6, hw6⟩ : ∃ W, (w5.alloc (.cells #[.int .u32 65001, .int .u32 65000] 22)).alloc (.cells #[.int .i64 2, .slice (some ⟨w5.heap.size, 0, none⟩) 2 2] 99) = W := ⟨_, rfl⟩
  have hb6 : Below w5.heap.size w5 w6 := hw6 ▸ blkBelow2 w5 _ _; have HU6 : Hid (Blk w6 w5.heap.size 22 #[.int .u32 65001, .int .u32 65000]) := hide (hw6 ▸ (Blk.new w5 _ _).alloc _); have HS6 : Hid (Blk w6 (w5.heap.size + 1) 99 #[.int .i64 2, .slice (some ⟨w5.heap.size, 0, none⟩) 2 2]) := hide (hw6 ▸ blk_new' _ _ (by simp)); have HSr6 : Hid (LstAt 2 sgR w6 (some ⟨w5.heap.size + 1, 0, none⟩) 1 1 [⟨2, [65001, 65000]⟩]) := hide (sg_one HS6.out (u32_blk (l := [65001, 65000]) HU6.out rfl (by decide) (by decide))); have HAt6 : Hid (AtR w6 lX2 (.agg #[.int .i64 4, .int .i64 0, .slice (some ⟨w5.heap.size + 1, 0, none⟩) 1 1, .int .u32 0, .int .u32 0, .int .u32 0, .int .u32 0, .int .u32 0, .slice none 0 0])) := hide ⟨_, _, _, none, 0, 0, rfl, HSr6.out, rfl, Nat.le_refl _, Nat.zero_le _, by simp [lX2], fun h => absurd h (by omega)⟩; have HAc := hide (Acc_of 65000 65001 lX2 lX2 false _ w6 HAt6.out (fun W hb => accF_eq accF_lX2 (HAt6.out.below hb) (by decide) (by decide))); have HB6 := hide hb6; have HW6 := hide hw6; clear hw6 hb6
  go_upto_region 5 with fail
  go_wp2_with fail
  rw [HW6.out]; refine HAc.out.mono ?_; rintro e w7 ⟨v7, rfl, ⟨A7, n7, c7, xs7, B7, m7, d7, rfl, hl7, hu7⟩, hb7⟩; obtain ⟨w8, hw8⟩ : ∃ W, w7.alloc (.cells (aC lX2 A7 n7 c7 B7 m7 d7) 28) = W := ⟨_, rfl⟩
  have hb8 : Below w7.heap.size w7 w8 := hw8 ▸ blkBelow1 w7 _; have HB8 : Hid (Below w5.heap.size w5 w8) := hide (HB6.out.trans ((hb7.trans (hb8.mono hb7.size)).mono HB6.out.size)); have HP := hide (HP5.out.below HB8.out HP5.out.lt); have HL := hide (HL5.out.below pxMono HB8.out); have HR8 := hide (HR5.out.below HB8.out HR5.out.lt); have HT8 := hide (HT5.out.below HB8.out); have HLn : Hid (∀ W, Below w8.heap.size w8 W → Calls Tryz.prog 81 #[.pointer (some ⟨R, 0, none⟩)] W fun e w' => e = .returned (.int .i64 1) ∧ Below W.heap.size W w') := hide (fun W hb => ribLen_any 65000 65001 R g F4 t4 W (HR8.out.below hb HR8.out.lt) (HT8.out.below hb) HCt5.out); have HW8 := hide hw8; clear hw8 hb8 hb7 hl7 hu7
  go_upto_region 6 with fail
  rw [HW8.out]; have Hmn := hide (show AllMono [(isV (.slice (some ⟨gA, oA, none⟩) 1 c4)), (isV (.int .i64 1)), (isV (.bool true)), (isV (.bool true)), (isV (.slice (some ⟨gA, oA, none⟩) 1 c4)), (isV (ptv gA oA)), (isV (.agg #[.int .u32 167772160, .int .i64 8])), (isV (.agg #[.int .u32 167772160, .int .i64 8])), (isV (.bool true)), (isV (.bool true)), (isV (.bool true)), (isV (.bool false)), (isV (.bool true)), (isV (.bool true)), (isV (.bool true)), (isV (ptv R 0)), (isV (.int .i64 1)), (isV (.bool true)), (isV (.bool true)), (isV (.bool true)), (isV (.bool false)), (isV (.bool true)), (isV (.bool true))] from by repeat (first | exact trivial | refine ⟨fun _ _ _ _ h => h, ?_⟩)); refine wp_region_relT 23 _ (by kernel_rfl) (by kernel_rfl) (by kernel_rfl) (by kernel_rfl) (by kernel_rfl) (relMono _ Hmn.out) ⟨?_, ?_, ?_, ?_, ?_, ?_, ?_, ?_, ?_, ?_, ?_, ?_, ?_, ?_, ?_, ?_, ?_, ?_, ?_, ?_, ?_, ?_, ?_, trivial⟩ ?_
  · exact relStep_plain rfl fun Ac w5 hp => pureM (.slice (some ⟨gA, oA, none⟩) 1 c4) 4 (hp.out 4 (by rfl))
  · exact relStep_plain rfl fun Ac w5 hp => pure1 (.int .i64 1) 32 (.slice (some ⟨gA, oA, none⟩) 1 c4) (hp.d 0)
  · exact relStep_plain rfl fun Ac w5 hp => pure1 (.bool true) 33 (.int .i64 1) (hp.d 1)
  · exact relStep_plain rfl fun Ac w5 hp => pureM (.bool true) 34 (hp.d 2)
  · exact rsG 3 true fun Ac w5 hp => pureM (.slice (some ⟨gA, oA, none⟩) 1 c4) 4 (hp.out 4 (by rfl))
  · exact rsG 3 true fun Ac w5 hp => pure1 (ptv gA oA) 36 (.slice (some ⟨gA, oA, none⟩) 1 c4) (hp.d 4)
  · refine rsG 3 true ?_; intro Ac w5 hp; have hb := hp.bel; have a37 : Ac.eval (.tmp 37) = .pointer (some ⟨gA, oA, none⟩) := hp.d 5; have h5 := HL.out.below pxMono hb; obtain ⟨g5, o5, a5, m5, e5, hg5, hx5, hc0, hc1⟩ := PXat h5 (q := 0) (by omega); simp only [List.getElem?_cons_zero, Option.some.injEq, Prod.mk.injEq] at hx5; obtain ⟨rfl, rfl⟩ := hx5; injection e5 with e5
    injection e5 with e6 e7
    subst e6 e7; have k0 : w5.cell? ⟨gA, oA, none⟩ = some (.int .u32 167772160) := (by simpa using hc0)
    have k1 : w5.cell? ⟨gA, oA + 1, none⟩ = some (.int .i64 8) := (by simpa using hc1)
    exact relPureX (.agg #[.int .u32 167772160, .int .i64 8]) (fun ρ hρ h1 h2 h3 => by rw [hρ] at a37; simp [go_sem, ↓IntWalk.iteOmega, *]) rfl
  · refine rsG 3 true ?_; intro Ac w5 hp; have hb := hp.bel; have h5 := HP.out.below hb HP.out.lt; have k0 : w5.cell? ⟨w1.heap.size, 0, none⟩ = some (.int .u32 167772160) := h5.cell 0; have k1 : w5.cell? ⟨w1.heap.size, 1, none⟩ = some (.int .i64 8) := h5.cell 1; exact pure1 (.agg #[.int .u32 167772160, .int .i64 8]) 2 (ptv w1.heap.size 0) (hp.out 2 (by rfl))
  · exact rsG 3 true fun Ac w5 hp => pure2 (.bool true) 38 (.agg #[.int .u32 167772160, .int .i64 8]) (hp.d 6) 39 (.agg #[.int .u32 167772160, .int .i64 8]) (hp.d 7)
  · exact relStep_plain rfl fun Ac w5 hp => pure2 (.bool true) 35 (.bool true) (hp.d 3) 40 (.bool true) (hp.d 8)
  · exact relStep_plain rfl fun Ac w5 hp => pureM (.bool true) 41 (hp.d 9)
  · exact rsG 10 true fun Ac w5 hp => pureM (.bool false) 5 (hp.out 5 (by rfl))
  · exact rsG 10 true fun Ac w5 hp => pure1 (.bool true) 43 (.bool false) (hp.d 11)
  · exact relStep_plain rfl fun Ac w5 hp => pure2 (.bool true) 42 (.bool true) (hp.d 10) 44 (.bool true) (hp.d 12)
  · exact relStep_plain rfl fun Ac w5 hp => pureM (.bool true) 45 (hp.d 13)
  · exact rsG 14 true fun Ac w5 hp => pureM (ptv R 0) 1 (hp.out 1 (by rfl))
  · refine rsG 14 true ?_; intro Ac w5 hp; have hb := hp.bel; have a47 : Ac.eval (.tmp 47) = .pointer (some ⟨R, 0, none⟩) := hp.d 15; obtain ⟨ρ, hρ, hc, hf, hgl⟩ := evalX Ac; rw [hρ] at a47; refine relCall hρ 81 #[.pointer (some ⟨R, 0, none⟩)] (by simp [go_sem, ↓IntWalk.iteOmega, *]) ?_; refine (HLn.out w5 hb).mono ?_; rintro e w6 ⟨rfl, hb6⟩; exact ⟨_, rfl, rfl, hb6⟩
  · exact rsG 14 true fun Ac w5 hp => pure1 (.bool true) 48 (.int .i64 1) (hp.d 16)
  · exact relStep_plain rfl fun Ac w5 hp => pure2 (.bool true) 46 (.bool true) (hp.d 14) 49 (.bool true) (hp.d 17)
  · exact relStep_plain rfl fun Ac w5 hp => pureM (.bool true) 50 (hp.d 18)
  · exact rsG 19 true fun Ac w5 hp => pureM (.bool false) 7 (hp.out 7 (by rfl))
  · exact rsG 19 true fun Ac w5 hp => pure1 (.bool true) 52 (.bool false) (hp.d 20)
  · exact relStep_plain rfl fun Ac w5 hp => pure2 (.bool true) 51 (.bool true) (hp.d 19) 53 (.bool true) (hp.d 21)
  intro u w9 hb7 hall; have e54 : u 22 = .bool true := relAll_at hall (i := 22) (by decide +kernel); clear hall; simp only [List.drop_succ_cons, List.drop_zero, List.take_succ_cons, List.take_zero, putAll, Act.put, List.setIfInBounds_toArray, List.set_cons_zero, List.set_cons_succ, Nat.zero_add, Nat.reduceAdd, e54]; have HBF := hide (HB5.out.trans ((btr HB8.out hb7).mono HB5.out.size)); clear hb7; go_wp2; go_ret; exact ⟨rfl, HBF.out⟩
end Go.Proofs.YtmffmkjgdjgmeaaGreat
