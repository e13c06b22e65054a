import Derived.Test.YtcinjckajnnhmaaGreatRp9
import Derived.Lib.SlTrimSet
set_option linter.unusedSimpArgs false
set_option linter.unusedVariables false
namespace Go.Proofs.YtcinjckajnnhmaaGreat
open Go.RowKit Go.WideShapes Go.ChangeShapes
attribute [local go_sem] Oper.semAt_some
abbrev atL9 (h o : Int) (A : Option Addr) (n c : Nat) (hp md pf aa ai : Int) (B : Option Addr) (m d : Nat) : List Value := [.int .i64 h, .int .i64 o, .slice A n c, .int .u32 hp, .int .u32 md, .int .u32 pf, .int .u32 aa, .int .u32 ai, .slice B m d]
set_option maxHeartbeats 4000000 in
theorem storeA9 {w : World} {R : Nat} {u0 u1 u2 u3 u4 u5 u6 u7 u8 : Value} {h o : Int} {A : Option Addr} {n c : Nat} {hp md pf aa ai : Int} {B : Option Addr} {m d : Nat} (hk : Blk w R 28 #[u0, u1, u2, u3, u4, u5, u6, u7, u8]) :
  (Instr.storeAt 28 (.pointer (some ⟨R, 0, none⟩)) (atV h o A n c hp md pf aa ai B m d)).run Tryz.prog w = .ok () (w.setCells R 0 (atL9 h o A n c hp md pf aa ai B m d)) := by
 obtain ⟨z0, z1, z2, z3, z4, z5, z6, z7, z8⟩ := blk9 hk; have zf := fun i => hk.frozen i; simp [go_sem, z0, z1, z2, z3, z4, z5, z6, z7, z8, zf, World.setCells]
def BoxAt (B : Nat) (w : World) (R : Nat) : Prop := B ≤ R ∧ ∃ u0 u1 u2 u3 u4 u5 u6 u7 u8, Blk w R 28 #[u0, u1, u2, u3, u4, u5, u6, u7, u8]
def EffBox (B0 : Nat) (w w' : World) : Prop := ∃ R h o A n c hp md pf aa ai B m d, BoxAt B0 w R ∧ w' = w.setCells R 0 (atL9 h o A n c hp md pf aa ai B m d)
theorem boxAt_below {B R : Nat} {w w' : World} (h : BoxAt B w R) (hb : Below w.heap.size w w') : BoxAt B w' R := by
 obtain ⟨h1, u0, u1, u2, u3, u4, u5, u6, u7, u8, h2⟩ := h; exact ⟨h1, u0, u1, u2, u3, u4, u5, u6, u7, u8, h2.below hb h2.lt⟩
theorem boxAt_eff {B R : Nat} {w w' : World} (h : BoxAt B w R) (he : EffBox B w w') : BoxAt B w' R := by
 obtain ⟨h1, u0, u1, u2, u3, u4, u5, u6, u7, u8, h2⟩ := h; obtain ⟨R2, h, o, A, n, c, hp, md, pf, aa, ai, Bq, m, d, ⟨hb2, v0, v1, v2, v3, v4, v5, v6, v7, v8, hk2⟩, rfl⟩ := he; by_cases e : R = R2
 ·subst e; exact ⟨h1, _, _, _, _, _, _, _, _, _, blk_sets (atL9 h o A n c hp md pf aa ai Bq m d) [] [u0, u1, u2, u3, u4, u5, u6, u7, u8] h2 rfl⟩
 ·exact ⟨h1, _, _, _, _, _, _, _, _, _, blk_sets_far e _ 0 h2⟩
theorem effBox_below {B : Nat} {w w' : World} (he : EffBox B w w') (hB : B ≤ w.heap.size) : Below B w w' := by
 obtain ⟨R2, h, o, A, n, c, hp, md, pf, aa, ai, Bq, m, d, ⟨hb2, _⟩, rfl⟩ := he; exact below_sets _ 0 (Below.refl B w) hb2
def EV (b : Bool) (v : Value) (_ : World) : Prop := ∃ h o A n c hp md pf aa ai B m d, v = .tuple #[atV h o A n c hp md pf aa ai B m d, .bool b]
def AVal (v : Value) (_ : World) : Prop := ∃ h o A n c hp md pf aa ai B m d, v = atV h o A n c hp md pf aa ai B m d
theorem tget_any (F : Nat → Prop) (g c k : Nat) (t : Tr AT) (w : World) (hc : PG c k) (h : TrT F w g t) :
  Calls Tryz.prog 82 #[.pointer (some ⟨g, 0, none⟩), .agg #[.int .u32 (c : Int), .int .i64 (k : Int)]] w fun e w' => ∃ v, e = .returned v ∧ EV (trGet c k t).isSome v w' ∧ Below w.heap.size w w' := by
 refine (getA_any (R := atR) g c k t w hc h.root h.tree.mem h.tree.wf h.low).mono ?_; rintro e w' ⟨hb, hm⟩
 cases hg : trGet c k t with
 | none =>
  rw [hg] at hm; exact ⟨_, hm, ⟨0, 0, none, 0, 0, 0, 0, 0, 0, 0, none, 0, 0, rfl⟩, hb⟩
 | some x =>
  rw [hg] at hm; obtain ⟨v0, v1, v2, v3, v4, v5, v6, v7, v8, rfl, hfr⟩ := hm; obtain ⟨XA, xn, xc, XB, xm, xd, hv, _, _⟩ := frs_here hfr; rw [hv]; exact ⟨_, rfl, ⟨_, _, _, _, _, _, _, _, _, _, _, _, _, rfl⟩, hb⟩
theorem cut_list {α : Type} {a n : Nat} {t t' : Tr α} (hw : trWf t) (hw' : trWf t') (hg : ∀ c k, trGet c k t' = if a = c ∧ n = k then none else trGet c k t) : trL t' = cutL a n (trL t) := by
 have hs := trL_sorted t hw; refine plt_ext _ _ (trL_sorted t' hw') (hs.sublist List.filter_sublist) fun z => ?_; obtain ⟨c, k, y⟩ := z; unfold cutL; rw [trL_mem t' hw', hg, List.mem_filter, trL_mem t hw]; by_cases e : a = c ∧ n = k
 ·simp [e]
 ·simp [e]
theorem trcut_any (F : Nat → Prop) (g a n : Nat) (t : Tr AT) (w : World) (ha : PG a n) (hT : TrT F w g t) :
  Calls Tryz.prog 83 #[.pointer (some ⟨g, 0, none⟩), .agg #[.int .u32 (a : Int), .int .i64 (n : Int)]] w fun e w' =>
   (∃ v q, e = .returned (.tuple #[v, .bool q])) ∧ ∃ t2, trL t2 = cutL a n (trL t) ∧ TrT F w' g t2 ∧ (∀ j ∈ trB t2, j ∈ trB t) ∧ ChgS (fun j => j = g ∨ j ∈ trB t) w w' ∧ trCnt t2 ≤ trCnt t := by
 refine (tcutA_any (R := atR) g a n t w ha hT.root hT.tree hT.low hT.gF hT.gB (by have := hT.cnt; omega)).mono ?_; rintro e w' ⟨he, t2, hw2, hg2, hk2, hA2, hB2, hc2, hn2⟩; have hl := cut_list hT.tree.wf hw2 hg2; refine ⟨he, t2, hl, ⟨hk2, hA2, hT.gF, fun h => hT.gB (hB2 g h), fun j hj => Nat.lt_of_lt_of_le (hT.low j hj) hc2.size, fun z hz => ?_, Nat.le_trans hn2 hT.cnt⟩, hB2, hc2, hn2⟩; rw [hl] at hz; exact hT.ok z (List.mem_filter.1 hz).1
theorem own_chg {S : Nat → Prop} {w w' : World} {base e sz n : Nat} {v : Value} {xs : List Value} (h : w.ownsRow base e sz v n xs) (hc : ChgS S w w') (hS : ∀ j, base ≤ j → ¬ S j) : w'.ownsRow base e sz v n xs :=
 ⟨h.1, h.2.imp id (fun ⟨g, cap, cur, e1, e2, e3, rest⟩ => ⟨g, cap, cur, e1, e2, (hc.block g (heap_lt e3) (hS g e2)).trans e3, rest⟩)⟩
theorem cutL_none {α : Type} {a n : Nat} : ∀ {L : List (Nat × Nat × α)}, (∀ z ∈ L, ¬ (a = z.1 ∧ n = z.2.1)) → cutL a n L = L := fun {L} h => by
 unfold cutL; rw [List.filter_eq_self]; intro z hz; simp only [Bool.not_eq_true', decide_eq_false_iff_not]; exact h z hz
theorem gone_step {α : Type} {p : Nat × Nat × α → Bool} {P D : List (Nat × Nat × α)} {z : Nat × Nat × α} (hs : (P ++ z :: D).Pairwise PLt) : cutL z.1 z.2.1 (P.filter p ++ z :: D) = P.filter p ++ D := by
 have h2 := List.pairwise_append.1 hs; have h3 := List.pairwise_cons.1 h2.2.1
 have e1 : cutL z.1 z.2.1 (P.filter p) = P.filter p := cutL_none fun y hy => by
  have := h2.2.2 y (List.mem_filter.1 hy).1 z List.mem_cons_self; unfold PLt at this; omega
 have e2 : cutL z.1 z.2.1 D = D := cutL_none fun y hy => by
  have := h3.1 y hy; unfold PLt at this; omega
 unfold cutL at e1 e2 ⊢; rw [List.filter_append, List.filter_cons, e1, e2]
 simp
def GoneR (r ga gt m l : Nat) (Fa Ft : Nat → Prop) (ta tt : Tr AT) (L : List (Nat × Nat × AT)) (w w' : World) : Prop := ∃ tt', RSt r ga gt m l Fa Ft ta tt' w' ∧ (∀ j, WrB r gt tt' j → WrB r gt tt j) ∧ trL tt' = L.filter (fun z => (trGet z.1 z.2.1 ta).isSome) ∧ trCnt tt' ≤ trCnt tt ∧ ChgS (WrB r gt tt) w w'
set_option maxRecDepth 100000 in
set_option maxHeartbeats 8000000 in
theorem goneG_any (r ga gt m l : Nat) (Fa Ft : Nat → Prop) (ta tt : Tr AT) (w : World) (h : RSt r ga gt m l Fa Ft ta tt w) :
    Calls Tryz.prog 22 #[.pointer (some ⟨r, 0, none⟩)] w fun e w' => ∃ A n c, e = .returned (.slice A n c) ∧ LstAt 2 pxR w' A n c (keyL ((trL tt).filter (fun z => !(trGet z.1 z.2.1 ta).isSome))) ∧ GoneR r ga gt m l Fa Ft ta tt (trL tt) w w' := by
  obtain ⟨i0, hi, hz0, hz1, hz2⟩ := info_parts pxInfo; have HAl := hide (allA_any (R := atR) gt tt w h.told.root h.told.tree.mem h.told.low (Nat.le_trans h.told.cnt (by decide))); have hkl : (trL tt).length = trCnt tt := trL_len tt; have hcn := h.told.cnt; have HSo := hide (trL_sorted tt h.told.tree.wf); have HPG : Hid (∀ z ∈ trL tt, PG z.1 z.2.1) := hide (fun z hz => trGet_pg tt h.told.tree.wf ((trL_mem tt h.told.tree.wf).1 hz)); obtain ⟨L, hL⟩ : ∃ L, trL tt = L := ⟨_, rfl⟩
  obtain ⟨N, hN⟩ : ∃ N, trCnt tt = N := ⟨_, rfl⟩
  rw [hL] at HAl hkl HSo HPG ⊢; rw [hN] at HAl hkl hcn; have HL := hide hL; have HN := hide hN; have HKl := hide hkl; have HR0 := hide h.blk; have HS := hide h; have hrl := h.blk.lt; have hgl := h.told.root.lt; have HBl := hide h.told.tree.mem.lt; have z1 : w.cell? ⟨r, 1, none⟩ = some (.pointer (some ⟨gt, 0, none⟩)) := h.blk.cell 1; clear h hL hN hkl
  go_enter Tryz.func22, Tryz.ntmps22
  go_wp2_with fail
  refine HAl.out.mono ?_; rintro e w1 ⟨hb1, Aq, cq, rfl, hoq⟩; have HB1 := hide hb1; have hs1 := hb1.size; have HOq := hide hoq; have HR1 := hide (HR0.out.below hb1 hrl); have HT1 := hide (HS.out.told.below hb1); have HTa1 := hide (HS.out.aim.below hb1); have hcq : N ≤ cq := (own_pxs hoq).2.1; have hcm := (own_pxs hoq).2.2.1; unfold maxLen at hcm; have hr1 : r < w1.heap.size := (by omega)
  have hg1 : gt < w1.heap.size := (by omega)
  clear hb1 hoq z1; go_wp2
  go_loopw [3, 16] (fun vo iv wr => ∃ (q n1 : Nat) (A1 : Option Addr) (c1 : Nat) (t : Tr AT), q ≤ N ∧ n1 ≤ q ∧ iv = .int .i64 (q : Nat) ∧ vo = .slice A1 n1 c1 ∧ wr.ownsRow w1.heap.size 24 2 (.slice A1 n1 c1) n1 (pxC (keyL ((L.take q).filter (fun z => !(trGet z.1 z.2.1 ta).isSome)))) ∧ Blk wr r 119 #[.pointer (some ⟨ga, 0, none⟩), .pointer (some ⟨gt, 0, none⟩), .int .i64 (m : Nat), .int .i64 (l : Nat)] ∧ TrT Ft wr gt t ∧ (∀ j ∈ trB t, j ∈ trB tt) ∧ trL t = (L.take q).filter (fun z => (trGet z.1 z.2.1 ta).isSome) ++ L.drop q ∧ trCnt t ≤ N ∧ ChgS (fun j => j = gt ∨ j ∈ trB tt) w1 wr) (fun _ iv _ => N - (intOf iv).toNat)
  case atStart => exact ⟨0, 0, none, 0, tt, Nat.zero_le _, Nat.le_refl _, rfl, rfl, ⟨by simp [keyL, pxC], .inl ⟨rfl, rfl⟩⟩, HR1.out, HT1.out, fun j hj => hj, by rw [HL.out]; simp, by rw [HN.out]; exact Nat.le_refl _, chg_refl _ _⟩
  case round =>
    obtain ⟨q, n1, A1, c1, t, hq, hnq, rfl, rfl, hown, hrr, htt, htl, hLt, hct, hc2⟩ := hrel; have HO := hide hown; have HRr2 := hide hrr; have HTt := hide htt; have HTl := hide htl; have HLt := hide hLt; have HCt := hide hct; have HC2 := hide hc2; have HPq := hide (own_pxs (own_chg HOq.out hc2 (fun j hj hw => hw.elim (fun e => by omega) (fun hm => by have := HBl.out j hm; omega)))); have HTa := hide (HTa1.out.chg hc2 (fun j hj hw => (HS.out.ap j hw).2.2 hj) (fun j hj hw => (HS.out.ap j hw).1 hj) (fun hw => (HS.out.ap ga hw).2.1 rfl)); have hsr := hc2.size; clear hown hrr htt htl hLt hct hc2; by_cases hlt : q < N
    · obtain ⟨g3, o, a, n0, rfl, hg3, hx, f0, f1⟩ := PXat HPq.out hlt; unfold keyL at hx; rw [List.getElem?_map] at hx
      obtain ⟨z, hz⟩ : ∃ z, L[q]? = some z := by
        cases hz : L[q]? with
        | none => rw [hz] at hx; simp at hx
        | some z => exact ⟨z, rfl⟩
      rw [hz] at hx; simp only [Option.map_some, Option.some.injEq, Prod.mk.injEq] at hx; obtain ⟨rfl, rfl⟩ := hx; have HTk : Hid (L.take (q + 1) = L.take q ++ [z]) := hide (by rw [List.take_add_one, hz]; rfl)
      have HDr : Hid (L.drop q = z :: L.drop (q + 1)) := hide (by
        rw [List.getElem?_eq_some_iff] at hz; obtain ⟨h1, h2⟩ := hz; rw [← h2]; exact List.drop_eq_getElem_cons h1)
      have hPg := HPG.out z (List.mem_of_getElem? hz); obtain ⟨a, n0, X⟩ := z; simp only at hPg f0 f1; have HPg := hide hPg; have q1 : (q : Int) < (N : Int) := (by omega)
      have q0 : (0 : Int) ≤ (q : Int) := (by omega)
      have hwq : IntKind.i64.wrap ((q : Int) + 1) = (q : Int) + 1 := (by rw [IntKind.wrap_i64]; omega)
      obtain ⟨IS, hIS⟩ : ∃ b, (trGet a n0 ta).isSome = b := ⟨_, rfl⟩
      have HIS := hide hIS; clear hz hPg hIS; obtain ⟨w4, hw4⟩ : ∃ W, wr.alloc (.cells #[.int .u32 (a : Int), .int .i64 (n0 : Int)] 24) = W := ⟨_, rfl⟩
      have hb4 : Below wr.heap.size wr w4 := hw4 ▸ blkBelow1 wr _; have HBx : Hid (Blk w4 wr.heap.size 24 #[.int .u32 (a : Int), .int .i64 (n0 : Int)]) := hide (hw4 ▸ Blk.new wr _ _); have HRr := hide (HRr2.out.below hb4 HRr2.out.lt); have HTa := hide (HTa.out.below hb4); have HB4 := hide hb4; have HW4 := hide hw4; clear hb4 hw4
      go_upto_region 7 with fail
      rw [HW4.out]; refine wp_region_relG 12 w4.heap.size (Nat.le_refl _) [(fun v _ => v = .pointer (some ⟨r, 0, none⟩)), (fun v _ => v = .pointer (some ⟨r, 0, none⟩)), (fun v _ => v = .pointer (some ⟨r, 0, none⟩)), (fun v _ => v = .pointer (some ⟨ga, 0, none⟩)), (fun v _ => v = .agg #[.int .u32 (a : Int), .int .i64 (n0 : Int)]), (EV IS), (EV IS), (AVal), (fun v _ => v = .bool IS), (fun v w => ∃ R, v = .pointer (some ⟨R, 0, none⟩) ∧ BoxAt w4.heap.size w R), (fun _ W => True), (fun v _ => v = .bool IS)] (fun _ _ => True) (fun i Wa Wb => if i = 10 then EffBox w4.heap.size Wa Wb else Below Wa.heap.size Wa Wb) (by kernel_rfl) (by kernel_rfl) (by kernel_rfl) (by kernel_rfl) (by kernel_rfl) ?hE ?hR ?hP ?h0 ⟨?_, ?_, ?_, ?_, ?_, ?_, ?_, ?_, ?_, ?_, ?_, ?_, trivial⟩ ?_
      case hE =>
        intro i2 wa wb hB he; split at he
        · exact effBox_below he hB
        · exact he.mono hB
      case hR =>
        intro i2 j2 vq wa wb hij hB he h; split at he
        · rename_i hj2; subst hj2; refine keepAll_at (E := fun wa wb => EffBox w4.heap.size wa wb) (x := 10) (k := 0) ?_ (by omega) he h; exact ⟨fun _ v w1 w2 he h => h, fun _ v w1 w2 he h => h, fun _ v w1 w2 he h => h, fun _ v w1 w2 he h => h, fun _ v w1 w2 he h => h, fun _ v w1 w2 he h => h, fun _ v w1 w2 he h => h, fun _ v w1 w2 he h => h, fun _ v w1 w2 he h => h, fun _ v w1 w2 he h => by obtain ⟨R, e, h1⟩ := h; exact ⟨R, e, boxAt_eff h1 he⟩, fun hn => absurd rfl hn, fun _ v w1 w2 he h => h, trivial⟩
        · refine relMono _ ?_ i2 vq wa wb he h; exact ⟨fun _ _ _ _ h => h, fun _ _ _ _ h => h, fun _ _ _ _ h => h, fun _ _ _ _ h => h, fun _ _ _ _ h => h, fun v w1 w2 hb h => h, fun v w1 w2 hb h => h, fun v w1 w2 hb h => h, fun _ _ _ _ h => h, fun v w w2 hb ⟨R, e, h⟩ => ⟨R, e, boxAt_below h hb⟩, fun v w1 w2 hb h => trivial, fun _ _ _ _ h => h, trivial⟩
      case hP =>
        exact fun _ _ _ _ _ _ _ _ => trivial
      case h0 =>
        exact fun _ _ => trivial
      · exact relG_plain rfl rfl (fun _ _ h => h) fun Ac w5 hp => pureM (ptv r 0) 0 (hp.out 0 (by rfl))
      · exact relG_plain rfl rfl (fun _ _ h => h) fun Ac w5 hp => pureM (ptv r 0) 21 (hp.d 0)
      · exact relG_plain rfl rfl (fun _ _ h => h) fun Ac w5 hp => pureM (ptv r 0) 22 (hp.d 1)
      · refine relG_plain rfl rfl (fun _ _ h => h) ?_; intro Ac w5 hp; have hb := hp.bel; have hr5 := HRr.out.below hb HRr.out.lt; have z0 : w5.cell? ⟨r, 0, none⟩ = some (ptv ga 0) := hr5.cell 0; exact pure1 (ptv ga 0) 23 (ptv r 0) (hp.d 2)
      · refine relG_plain rfl rfl (fun _ _ h => h) ?_; intro Ac w5 hp; have hb := hp.bel; have hx5 := HBx.out.below hb HBx.out.lt; have z2 : w5.cell? ⟨wr.heap.size, 0, none⟩ = some (.int .u32 (a : Int)) := hx5.cell 0; have z3 : w5.cell? ⟨wr.heap.size, 1, none⟩ = some (.int .i64 (n0 : Int)) := hx5.cell 1; exact pure1 (.agg #[.int .u32 (a : Int), .int .i64 (n0 : Int)]) 5 (ptv wr.heap.size 0) (hp.out 5 (by rfl))
      · refine relG_plain rfl rfl (fun _ _ h => h) ?_; intro Ac w5 hp; have hb := hp.bel; have a24 : Ac.eval (.tmp 24) = .pointer (some ⟨ga, 0, none⟩) := hp.d 3; have a25 : Ac.eval (.tmp 25) = .agg #[.int .u32 (a : Int), .int .i64 (n0 : Int)] := hp.d 4; obtain ⟨ρ, hρ, hc, hf, hgl⟩ := evalX Ac; rw [hρ] at a24 a25; refine relCall hρ 82 #[.pointer (some ⟨ga, 0, none⟩), .agg #[.int .u32 (a : Int), .int .i64 (n0 : Int)]] (by simp [go_sem, ↓IntWalk.iteOmega, *]) ?_; refine (tget_any Fa ga a n0 ta w5 HPg.out (HTa.out.below hb)).mono ?_; rintro e w6 ⟨v6, rfl, he6, hb6⟩; rw [HIS.out] at he6; exact ⟨_, rfl, he6, hb6⟩
      · refine relG_plain rfl rfl (fun _ _ h => h) ?_; intro Ac w5 hp; obtain ⟨hv, ov, Av, nv, cv, pv, mv, fv, sv, iv, Bv, kv, dv, a26⟩ := hp.d 5; change Ac.eval (.tmp 26) = _ at a26; exact relPureX (.tuple #[atV hv ov Av nv cv pv mv fv sv iv Bv kv dv, .bool IS]) (fun ρ hρ h1 h2 h3 => by rw [hρ] at a26; simp [go_sem, ↓IntWalk.iteOmega, *]) ⟨hv, ov, Av, nv, cv, pv, mv, fv, sv, iv, Bv, kv, dv, rfl⟩
      · refine relG_plain rfl rfl (fun _ _ h => h) ?_; intro Ac w5 hp; obtain ⟨hy, oy, Ay, ny, cy, py, my, fy, sy, iy, By, ky, dy, a20⟩ := hp.d 6; change Ac.eval (.tmp 20) = _ at a20; exact relPureX (atV hy oy Ay ny cy py my fy sy iy By ky dy) (fun ρ hρ h1 h2 h3 => by rw [hρ] at a20; simp [go_sem, ↓IntWalk.iteOmega, *]) ⟨hy, oy, Ay, ny, cy, py, my, fy, sy, iy, By, ky, dy, rfl⟩
      · refine relG_plain rfl rfl (fun _ _ h => h) ?_; intro Ac w5 hp; obtain ⟨hy, oy, Ay, ny, cy, py, my, fy, sy, iy, By, ky, dy, a20⟩ := hp.d 6; change Ac.eval (.tmp 20) = _ at a20; exact relPureX (.bool IS) (fun ρ hρ h1 h2 h3 => by rw [hρ] at a20; simp [go_sem, ↓IntWalk.iteOmega, *]) rfl
      · refine relG_plain rfl rfl (fun _ _ h => h) ?_; intro Ac w5 hp; have hb := hp.bel; have hc := evalC Ac; have hf := evalF Ac; have hgl := evalG Ac; obtain ⟨ρ, hρ⟩ : ∃ ρ, Ac.eval = ρ := ⟨_, rfl⟩
        exact relVal hρ (.pointer (some ⟨w5.heap.size, 0, none⟩)) (w5.alloc (.cells #[.int .i64 0, .int .i64 0, .slice none 0 0, .int .u32 0, .int .u32 0, .int .u32 0, .int .u32 0, .int .u32 0, .slice none 0 0] 28)) (by simp [go_sem, ↓IntWalk.iteOmega, *]) ⟨_, rfl, hb.size, _, _, _, _, _, _, _, _, _, Blk.new w5 _ _⟩ ((Below.refl _ _).alloc (Nat.le_refl _) _)
      · refine relG_store rfl ?_; intro Ac w5 hp; obtain ⟨R6, a6, hR6⟩ := hp.d 9; change Ac.eval (.tmp 6) = _ at a6; obtain ⟨hz, oz, Az, nz, cz, pz, mz, fz, sz, iz, Bz, kz, dz, a27⟩ := hp.d 7; change Ac.eval (.tmp 27) = _ at a27; obtain ⟨hRb, u0, u1, u2, u3, u4, u5, u6, u7, u8, hK⟩ := hR6; exact ⟨_, .inl (exec_store rfl a6 a27 (storeA9 hK)), trivial, R6, hz, oz, Az, nz, cz, pz, mz, fz, sz, iz, Bz, kz, dz, ⟨hRb, u0, u1, u2, u3, u4, u5, u6, u7, u8, hK⟩, rfl⟩
      · exact relG_plain rfl rfl (fun _ _ h => h) fun Ac w5 hp => pureM (.bool IS) 28 (hp.d 8)
      intro u w8 hb7 hall; have e7 : u 11 = .bool IS := relAll_at hall (i := 11) (by decide +kernel); have efin : True := relAll_at hall (i := 10) (by decide +kernel); clear hall; simp only [List.drop_succ_cons, List.drop_zero, List.take_succ_cons, List.take_zero, putAll, Act.put, List.setIfInBounds_toArray, List.set_cons_zero, List.set_cons_succ, Nat.zero_add, Nat.reduceAdd, e7]; have hs4 := HB4.out.size; have hs8 := hb7.size; have HB8 := hide (HB4.out.trans (hb7.mono HB4.out.size)); have HRr9 := hide (HRr.out.below hb7 HRr.out.lt); have HBx9 := hide (HBx.out.below hb7 HBx.out.lt); have HO9 := hide (own_below HO.out HB8.out); have HT9 := hide (HTt.out.below HB8.out); clear hb7 f0 f1
      cases IS with
      | true =>
        go_wp2
        go_roundw
        case rel =>
          refine ⟨q + 1, n1, A1, c1, t, by omega, by omega, by go_num, rfl, ?_, HRr9.out, HT9.out, HTl.out, ?_, HCt.out, chg_trans HC2.out (chg_below (S := fun _ => False) HB8.out) (fun k h => h.elim)⟩
          · rw [HTk.out, List.filter_append]; have e : [(a, n0, X)].filter (fun z => !(trGet z.1 z.2.1 ta).isSome) = [] := (by rw [List.filter_cons]; simp only [HIS.out]; rfl)
            rw [e, List.append_nil]; exact HO9.out
          · rw [HLt.out, HTk.out, List.filter_append, HDr.out]; have e : [(a, n0, X)].filter (fun z => (trGet z.1 z.2.1 ta).isSome) = [(a, n0, X)] := (by rw [List.filter_cons]; simp only [HIS.out]; rfl)
            rw [e, List.append_assoc]
            rfl
        case measure => simp [intOf]; omega
      | false =>
        have y2 : w8.cell? ⟨wr.heap.size, 0, none⟩ = some (.int .u32 (a : Int)) := HBx9.out.cell 0; have y3 : w8.cell? ⟨wr.heap.size, 1, none⟩ = some (.int .i64 (n0 : Int)) := HBx9.out.cell 1; have hsw : w1.heap.size ≤ w8.heap.size := (by omega)
        go_upto_region 10 with (at_builtin; refine wpList_append_any _ rfl (.tmp 31) (.tmp 33) 45 rfl w1.heap.size 24 i0 _ 2 16 Tryz.underlying45 hi hz0 hz1 hz2 rfl (by decide) (.slice A1 n1 c1) n1 _ rfl (HO9.out.alloc _) (w8.heap.size + 1) (some ⟨w8.heap.size, 0, none⟩) 1 1 [.int .u32 (a : Int), .int .i64 (n0 : Int)] rfl (reads_blkN (Blk.new _ _ _) (by simp) rfl rfl) (by simp [Value.oneCell']) (by unfold maxLen; omega) (by omega) (by simp; omega) ?_; intro v' w9 h5 h6 h7; obtain ⟨A4, c4, rfl⟩ := own_slice h5; have HO4 := hide h5; have HG4 := hide h6; clear h5 h6 h7)
        have HB9 : Hid (Below w1.heap.size w8 w9) := hide (((Below.refl w1.heap.size w8).alloc hsw _).grown HG4.out (by simp; omega) (fun k hk => own_low_block HO9.out k hk)); have HRr9 := hide (HRr9.out.below HB9.out hr1); have HBx9 : Hid (Blk w9 wr.heap.size 24 #[.int .u32 (a : Int), .int .i64 (n0 : Int)]) := hide ((HBx9.out.alloc _).grown HG4.out (fun e => by have := own_block_lt HO.out _ e.symm; omega)); have HCg : Hid (ChgS (fun j => w1.heap.size ≤ j) w8 w9) := hide (chg_trans (chg_below (S := fun j => w1.heap.size ≤ j) (blkBelow1 w8 _)) (chg_grown (S := fun j => w1.heap.size ≤ j) HG4.out (fun k hk => own_low_block HO9.out k hk)) (fun k h => .inl h)); have HT10 := hide (HT9.out.chg HCg.out (fun j hj hw => by have := HBl.out j (HTl.out j hj); omega) (fun j hj hw => by have := HS.out.told.low j hj; omega) (by omega)); clear y2 y3; have Hmn := hide (show AllMono [(isV (ptv r 0)), (isV (ptv r 0)), (isV (ptv r 1)), (isV (ptv gt 0)), (isV (.agg #[.int .u32 (a : Int), .int .i64 (n0 : Int)]))] from by repeat (first | exact trivial | refine ⟨fun _ _ _ _ h => h, ?_⟩)); refine wp_region_relT 5 _ (by kernel_rfl) (by kernel_rfl) (by kernel_rfl) (by kernel_rfl) (by kernel_rfl) (relMono _ Hmn.out) ⟨?_, ?_, ?_, ?_, ?_, trivial⟩ ?_
        · exact relStep_plain rfl fun Ac w5 hp => pureM (ptv r 0) 0 (hp.out 0 (by rfl))
        · exact relStep_plain rfl fun Ac w5 hp => pureM (ptv r 0) 35 (hp.d 0)
        · exact relStep_plain rfl fun Ac w5 hp => pure1 (ptv r 1) 36 (ptv r 0) (hp.d 1)
        · refine relStep_plain rfl ?_; intro Ac w5 hp; have hb := hp.bel; have hr5 := HRr9.out.below hb HRr9.out.lt; have z1 : w5.cell? ⟨r, 1, none⟩ = some (ptv gt 0) := hr5.cell 1; exact pure1 (ptv gt 0) 37 (ptv r 1) (hp.d 2)
        · refine relStep_plain rfl ?_; intro Ac w5 hp; have hb := hp.bel; have hx5 := HBx9.out.below hb HBx9.out.lt; have z2 : w5.cell? ⟨wr.heap.size, 0, none⟩ = some (.int .u32 (a : Int)) := hx5.cell 0; have z3 : w5.cell? ⟨wr.heap.size, 1, none⟩ = some (.int .i64 (n0 : Int)) := hx5.cell 1; exact pure1 (.agg #[.int .u32 (a : Int), .int .i64 (n0 : Int)]) 5 (ptv wr.heap.size 0) (hp.out 5 (by rfl))
        intro u w11 hb7 hall; have e38 : u 3 = .pointer (some ⟨gt, 0, none⟩) := relAll_at hall (i := 3) (by decide +kernel); have e39 : u 4 = .agg #[.int .u32 (a : Int), .int .i64 (n0 : Int)] := relAll_at hall (i := 4) (by decide +kernel); clear hall; simp only [List.drop_succ_cons, List.drop_zero, List.take_succ_cons, List.take_zero, putAll, Act.put, List.setIfInBounds_toArray, List.set_cons_zero, List.set_cons_succ, Nat.zero_add, Nat.reduceAdd, e38, e39]; have HB11 := hide hb7; have HCu := hide (trcut_any Ft gt a n0 t w11 HPg.out (HT10.out.below hb7)); have HR11 := hide (HRr9.out.below hb7 HRr9.out.lt); have HO11 := hide (own_below HO4.out hb7); clear hb7
        go_wp2_with fail
        refine HCu.out.mono ?_; rintro e w12 ⟨⟨v12, q12, rfl⟩, t2, hl2, hT2, hB2, hc12, hn2⟩; have HR12 := hide (chg_blk hc12 HR11.out (fun hw => hw.elim HS.out.rgt (fun hm => HS.out.rBt (HTl.out r hm)))); have HO12 := hide (own_chg HO11.out hc12 (fun j hj hw => hw.elim (fun e => by omega) (fun hm => by have := HBl.out j (HTl.out j hm); omega))); have HC12 : Hid (ChgS (fun j => j = gt ∨ j ∈ trB tt) w1 w12) := hide (chg_trans (chg_trans (chg_trans (chg_trans HC2.out (chg_below (S := fun _ => False) HB8.out) (fun k h => h.elim)) HCg.out (fun k h => .inr h)) (chg_below (S := fun _ => False) HB11.out) (fun k h => h.elim)) hc12 (fun k h => .inl (h.imp id (HTl.out k)))); have HT12 := hide hT2; have HTl12 : Hid (∀ j ∈ trB t2, j ∈ trB tt) := hide (fun j hj => HTl.out j (hB2 j hj)); have HN12 : Hid (trCnt t2 ≤ N) := hide (Nat.le_trans hn2 HCt.out)
        have HL12 : Hid (trL t2 = (L.take (q + 1)).filter (fun z => (trGet z.1 z.2.1 ta).isSome) ++ L.drop (q + 1)) := hide (by
          rw [hl2, HLt.out, HDr.out, HTk.out, List.filter_append]; have e : [(a, n0, X)].filter (fun z => (trGet z.1 z.2.1 ta).isSome) = [] := (by rw [List.filter_cons]; simp only [HIS.out]; rfl)
          rw [e, List.append_nil]; refine gone_step (z := (a, n0, X)) ?_; rw [← HDr.out, List.take_append_drop]; exact HSo.out)
        clear hl2 hT2 hB2 hc12 hn2; go_wp2
        go_roundw
        case rel =>
          refine ⟨q + 1, n1 + 1, A4, c4, t2, by omega, by omega, by go_num, rfl, ?_, HR12.out, HT12.out, HTl12.out, HL12.out, HN12.out, HC12.out⟩; have e : [(a, n0, X)].filter (fun z => !(trGet z.1 z.2.1 ta).isSome) = [(a, n0, X)] := (by rw [List.filter_cons]; simp only [HIS.out]; rfl)
          rw [HTk.out, List.filter_append, e]; have e2 : ∀ K : List (Nat × Nat × AT), pxC (keyL (K ++ [(a, n0, X)])) = pxC (keyL K) ++ [.int .u32 (a : Int), .int .i64 (n0 : Int)] := fun K => by simp [keyL, pxC, List.flatMap_append]
          rw [e2]; exact HO12.out
        case measure => simp [intOf]; omega
    · obtain rfl : q = N := (by omega)
      have e1 : decide ((q : Int) < (q : Int)) = false := (by simp)
      have htk : L.take q = L := List.take_of_length_le (by rw [HKl.out]; exact Nat.le_refl _); have hdr : L.drop q = [] := List.drop_eq_nil_of_le (by rw [HKl.out]; exact Nat.le_refl _); rw [htk] at HO HLt; rw [hdr, List.append_nil] at HLt; clear htk hdr; go_wp2; go_ret; refine ⟨A1, n1, c1, rfl, own_pxs HO.out, ?_⟩; unfold GoneR; refine ⟨t, ⟨HRr2.out, HTa.out, HTt.out, HS.out.na, fun z hz => ?_, HS.out.rFa, HS.out.rFt, HS.out.rga, HS.out.rgt, HS.out.rBa, fun hm => HS.out.rBt (HTl.out r hm), fun j hj => HS.out.ap j (hj.imp id (HTl.out j))⟩, fun j hj => ?_, HLt.out, by rw [HN.out]; exact HCt.out, chg_mono (chg_trans (chg_below (S := fun j => j = gt ∨ j ∈ trB tt) HB1.out) HC2.out (fun k h => .inl h)) (fun k h => .inl (.inr h))⟩
      · rw [HLt.out] at hz; exact HS.out.nt z (HL.out ▸ (List.mem_filter.1 hz).1)
      · exact hj.imp id (fun h => h.imp id (HTl.out j))
def pfR (_ : World) (vs : List Value) (x : Nat × Nat) : Prop := ∃ h o A n c hp md pf aa ai B m d, vs = [.int .u32 (x.1 : Int), .int .i64 (x.2 : Int), .int .i64 h, .int .i64 o, .slice A n c, .int .u32 hp, .int .u32 md, .int .u32 pf, .int .u32 aa, .int .u32 ai, .slice B m d]
def RowK (B0 : Nat) (w : World) (v : Value) (K : List (Nat × Nat)) : Prop := ∃ A c xs, v = .slice A K.length c ∧ w.ownsRow B0 71 11 (.slice A K.length c) K.length xs ∧ Chunks 11 pfR w xs K
theorem pfMono : SMono pfR := fun _ _ _ _ _ h => h
theorem pfOne : SOne pfR := by
 rintro w vs x ⟨h, o, A, n, c, hp, md, pf, aa, ai, B, m, d, rfl⟩ u hu; simp only [List.mem_cons, List.not_mem_nil, or_false] at hu; rcases hu with rfl | rfl | rfl | rfl | rfl | rfl | rfl | rfl | rfl | rfl | rfl <;> rfl
theorem RowK.below {B0 : Nat} {w w' : World} {v : Value} {K : List (Nat × Nat)} (h : RowK B0 w v K) (hb : Below w.heap.size w w') : RowK B0 w' v K := by
 obtain ⟨A, c, xs, e, h1, h2⟩ := h; exact ⟨A, c, xs, e, own_below h1 hb, h2.mono_ pfMono hb⟩
theorem RowK.of_low {B0 B1 : Nat} {w : World} {A : Option Addr} {n c : Nat} {L : List (Nat × Nat × AT)} {xs : List Value} (h : LOw 11 71 tdR w B1 B1 A n c (L.map tdN) xs) (hB : B0 ≤ B1) : RowK B0 w (.slice A n c) (keyL L) := by
 have hn : (keyL L).length = n := (by have := (h.lst (by decide)).1; unfold keyL; rw [List.length_map] at this ⊢; exact this)
 refine ⟨A, c, xs, by rw [hn], by rw [hn]; exact own_baseLe h.1 hB, ?_, fun k x hk => ?_⟩
 ·have := h.2.1; unfold keyL
  rwa [List.length_map] at this ⊢
 ·unfold keyL at hk; rw [List.getElem?_map] at hk
  cases hz : L[k]? with
  | none => rw [hz] at hk; simp at hk
  | some z =>
   rw [hz] at hk; simp only [Option.map_some, Option.some.injEq] at hk; subst hk; obtain ⟨A1, k1, c1, B1, m1, d1, e, _⟩ := (h.2.2 k (tdN z) (by rw [List.getElem?_map, hz]; rfl)).here; exact ⟨_, _, _, _, _, _, _, _, _, _, _, _, _, e⟩
structure TwoX (i j k : Nat) (B0 : Nat) (K1 K2 : List (Nat × Nat)) (D : Nat → Bool) (u : Nat → Value) (w : World) : Prop where
  d1 : D k = true → D i = true ∧ D j = true
  a : D i = true → D k = false → RowK B0 w (u i) K1
  b : D j = true → D k = false → RowK B0 w (u j) K2
  c : D k = true → RowK B0 w (u k) (K1 ++ K2)
section
variable {i j k B0 : Nat} {K1 K2 : List (Nat × Nat)} {D : Nat → Bool} {u : Nat → Value} {w w' : World} {v : Value}
theorem two_start (u : Nat → Value) (w : World) : TwoX i j k B0 K1 K2 (fun _ => false) u w := by constructor <;> intro h <;> cases h
theorem two_other {q : Nat} (h : TwoX i j k B0 K1 K2 D u w) (hb : Below w.heap.size w w') (h1 : q ≠ i) (h2 : q ≠ j) (h3 : q ≠ k) : TwoX i j k B0 K1 K2 (updD D q) (updU u q v) w' := by
 have e : ∀ x, x ≠ q → updD D q x = D x ∧ updU u q v x = u x := fun x hx => by simp [updD, updU, hx]
 refine ⟨?_, ?_, ?_, ?_⟩
 ·rw [(e i h1.symm).1, (e j h2.symm).1, (e k h3.symm).1]; exact h.d1
 ·rw [(e i h1.symm).1, (e k h3.symm).1, (e i h1.symm).2]; exact fun x y => (h.a x y).below hb
 ·rw [(e j h2.symm).1, (e k h3.symm).1, (e j h2.symm).2]; exact fun x y => (h.b x y).below hb
 ·rw [(e k h3.symm).1, (e k h3.symm).2]; exact fun x => (h.c x).below hb
theorem two_a (h : TwoX i j k B0 K1 K2 D u w) (hb : Below w.heap.size w w') (hij : i ≠ j) (hik : i ≠ k) (hno : D i = false) (hr : RowK B0 w' v K1) : TwoX i j k B0 K1 K2 (updD D i) (updU u i v) w' := by
 have hk : D k = false := by
  cases hk : D k with
  | false => rfl
  | true => have := (h.d1 hk).1; rw [hno] at this; cases this
 refine ⟨?_, ?_, ?_, ?_⟩
 ·simp [updD, hik.symm, hk]
 ·simp only [updU, if_pos]; exact fun _ _ => hr
 ·simp only [updU, updD, if_neg hij.symm, if_neg hik.symm]; exact fun x y => (h.b x y).below hb
 ·simp [updD, hik.symm, hk]
theorem two_b (h : TwoX i j k B0 K1 K2 D u w) (hb : Below w.heap.size w w') (hij : i ≠ j) (hjk : j ≠ k) (hno : D j = false) (hr : RowK B0 w' v K2) : TwoX i j k B0 K1 K2 (updD D j) (updU u j v) w' := by
 have hk : D k = false := by
  cases hk : D k with
  | false => rfl
  | true => have := (h.d1 hk).2; rw [hno] at this; cases this
 refine ⟨?_, ?_, ?_, ?_⟩
 ·simp [updD, hjk.symm, hk]
 ·simp only [updU, updD, if_neg hij, if_neg hjk.symm]; exact fun x y => (h.a x y).below hb
 ·simp only [updU, if_pos]; exact fun _ _ => hr
 ·simp [updD, hjk.symm, hk]
theorem two_c (hik : i ≠ k) (hjk : j ≠ k) (h1 : D i = true) (h2 : D j = true) (hr : RowK B0 w' v (K1 ++ K2)) : TwoX i j k B0 K1 K2 (updD D k) (updU u k v) w' := by
 refine ⟨?_, ?_, ?_, ?_⟩
 ·simp [updD, hik, hjk, h1, h2]
 ·simp [updD]
 ·simp [updD]
 ·simp only [updU, if_pos]; exact fun _ => hr
end
set_option maxRecDepth 100000 in
set_option maxHeartbeats 8000000 in
theorem pendG_any (r ga gt m l : Nat) (Fa Ft : Nat → Prop) (ta tt : Tr AT) (w : World) (h : RSt r ga gt m l Fa Ft ta tt w) (hct : trCnt ta + trCnt tt ≤ 90000) :
  Calls Tryz.prog 25 #[.pointer (some ⟨r, 0, none⟩)] w fun e w' => ∃ A n c, e = .returned (.slice A n c) ∧ LstAt 2 pxR w' A n c (sortP (keyL ((trL ta).filter (lackG tt)) ++ keyL ((trL tt).filter (lackG ta)))) ∧ Below w.heap.size w w' := by
 obtain ⟨i0, hi, hz0, hz1, hz2⟩ := info_parts toldInfo; obtain ⟨j0, hj, hy0, hy1, hy2⟩ := info_parts pxInfo; have HLa := hide (fun W (hb : Below w.heap.size w W) => lacksG_any Fa Ft ga gt ta tt W (h.aim.below hb) (h.told.below hb) (fun z hz => (h.paths.1 z hz).1) (fun z hz => (h.paths.2 z hz).2)); have HLb := hide (fun W (hb : Below w.heap.size w W) => lacksG_any Ft Fa gt ga tt ta W (h.told.below hb) (h.aim.below hb) (fun z hz => (h.paths.2 z hz).1) (fun z hz => (h.paths.1 z hz).2))
 have hl1 : (keyL ((trL ta).filter (lackG tt))).length ≤ trCnt ta := by
  have := List.length_filter_le (lackG tt) (trL ta); rw [trL_len] at this; unfold keyL; rw [List.length_map]; exact this
 have hl2 : (keyL ((trL tt).filter (lackG ta))).length ≤ trCnt tt := by
  have := List.length_filter_le (lackG ta) (trL tt); rw [trL_len] at this; unfold keyL; rw [List.length_map]; exact this
 have hg : ∀ x ∈ keyL ((trL ta).filter (lackG tt)) ++ keyL ((trL tt).filter (lackG ta)), PG x.1 x.2 := fun x hx => by
  unfold keyL at hx; rcases List.mem_append.1 hx with hx | hx
  ·obtain ⟨z, hz, rfl⟩ := List.mem_map.1 hx; exact trGet_pg ta h.aim.tree.wf ((trL_mem ta h.aim.tree.wf).1 (List.mem_filter.1 hz).1)
  ·obtain ⟨z, hz, rfl⟩ := List.mem_map.1 hx; exact trGet_pg tt h.told.tree.wf ((trL_mem tt h.told.tree.wf).1 (List.mem_filter.1 hz).1)
 obtain ⟨K1, hK1⟩ : ∃ K, keyL ((trL ta).filter (lackG tt)) = K := ⟨_, rfl⟩
 obtain ⟨K2, hK2⟩ : ∃ K, keyL ((trL tt).filter (lackG ta)) = K := ⟨_, rfl⟩
 rw [hK1] at hl1 hg ⊢; rw [hK2] at hl2 hg ⊢; have HEK1 := hide hK1; have HEK2 := hide hK2; obtain ⟨K, hK⟩ : ∃ K, K1 ++ K2 = K := ⟨_, rfl⟩
 rw [hK] at hg ⊢; have HKK := hide hK; have HG := hide hg; obtain ⟨N, hN⟩ : ∃ N, K1.length + K2.length = N := ⟨_, rfl⟩
 have HN12 := hide hN; have hN9 : N ≤ 90000 := (by omega)
 have HRr := hide h.blk; have z0 := h.blk.lt; clear h hct hK1 hK2 hg z0 hK; have hl1 : K1.length ≤ 90000 := (by omega)
 have hl2 : K2.length ≤ 90000 := (by omega)
 clear hN
 go_enter Tryz.func25, Tryz.ntmps25
 go_upto_region 4 with fail
 have Hmn := hide (show AllMono [(isV (ptv r 0)), (isV (ptv r 0)), (isV (ptv r 0)), (isV (ptv ga 0)), (isV (ptv r 0)), (isV (ptv r 0)), (isV (ptv r 1)), (isV (ptv gt 0)), (fun v _ => ∃ A c, v = .slice A K1.length c), (isV (ptv r 0)), (isV (ptv r 0)), (isV (ptv r 1)), (isV (ptv gt 0)), (isV (ptv r 0)), (isV (ptv r 0)), (isV (ptv r 0)), (isV (ptv ga 0)), (fun v _ => ∃ A c, v = .slice A K2.length c), (fun v _ => ∃ A c, v = .slice A N c), (isV (.int .i64 (N : Int))), (isV (.int .i64 0))] from ⟨fun _ _ _ _ h => h, fun _ _ _ _ h => h, fun _ _ _ _ h => h, fun _ _ _ _ h => h, fun _ _ _ _ h => h, fun _ _ _ _ h => h, fun _ _ _ _ h => h, fun _ _ _ _ h => h, fun v w1 w2 hb h => h, fun _ _ _ _ h => h, fun _ _ _ _ h => h, fun _ _ _ _ h => h, fun _ _ _ _ h => h, fun _ _ _ _ h => h, fun _ _ _ _ h => h, fun _ _ _ _ h => h, fun _ _ _ _ h => h, fun v w1 w2 hb h => h, fun _ _ _ _ h => h, fun _ _ _ _ h => h, fun _ _ _ _ h => h, trivial⟩); have Hfl := hide (show AllFlat [(isV (ptv r 0)), (isV (ptv r 0)), (isV (ptv r 0)), (isV (ptv ga 0)), (isV (ptv r 0)), (isV (ptv r 0)), (isV (ptv r 1)), (isV (ptv gt 0)), (fun v _ => ∃ A c, v = .slice A K1.length c), (isV (ptv r 0)), (isV (ptv r 0)), (isV (ptv r 1)), (isV (ptv gt 0)), (isV (ptv r 0)), (isV (ptv r 0)), (isV (ptv r 0)), (isV (ptv ga 0)), (fun v _ => ∃ A c, v = .slice A K2.length c), (fun v _ => ∃ A c, v = .slice A N c), (isV (.int .i64 (N : Int))), (isV (.int .i64 0))] from by repeat (first | exact trivial | refine ⟨fun _ _ _ h => h, ?_⟩)); refine wp_region_relX 21 w.heap.size (Nat.le_refl _) [(isV (ptv r 0)), (isV (ptv r 0)), (isV (ptv r 0)), (isV (ptv ga 0)), (isV (ptv r 0)), (isV (ptv r 0)), (isV (ptv r 1)), (isV (ptv gt 0)), (fun v _ => ∃ A c, v = .slice A K1.length c), (isV (ptv r 0)), (isV (ptv r 0)), (isV (ptv r 1)), (isV (ptv gt 0)), (isV (ptv r 0)), (isV (ptv r 0)), (isV (ptv r 0)), (isV (ptv ga 0)), (fun v _ => ∃ A c, v = .slice A K2.length c), (fun v _ => ∃ A c, v = .slice A N c), (isV (.int .i64 (N : Int))), (isV (.int .i64 0))] (TwoX 8 17 18 w.heap.size K1 K2) (by kernel_rfl) (by kernel_rfl) (by kernel_rfl) (by kernel_rfl) (by kernel_rfl) (two_start _ _) ⟨?_, ?_, ?_, ?_, ?_, ?_, ?_, ?_, ?_, ?_, ?_, ?_, ?_, ?_, ?_, ?_, ?_, ?_, ?_, ?_, ?_, trivial⟩ ?_
 ·refine relX_plain rfl rfl Hmn.out (Nat.le_refl _) (fun D u v wa wb hb h => two_other h hb (by decide) (by decide) (by decide)) ?_; intro Dn Ac w5 hp; have a0 : Ac.eval (.tmp 0) = .pointer (some ⟨r, 0, none⟩) := hp.out 0 (by rfl); exact relPureX (.pointer (some ⟨r, 0, none⟩)) (fun ρ hρ h1 h2 h3 => by rw [hρ] at a0; simp [go_sem, ↓IntWalk.iteOmega, *]) rfl
 ·refine relX_plain rfl rfl Hmn.out (Nat.le_refl _) (fun D u v wa wb hb h => two_other h hb (by decide) (by decide) (by decide)) ?_; intro Dn Ac w5 hp; have a8 : Ac.eval (.tmp 8) = .pointer (some ⟨r, 0, none⟩) := hp.d 0; exact relPureX (.pointer (some ⟨r, 0, none⟩)) (fun ρ hρ h1 h2 h3 => by rw [hρ] at a8; simp [go_sem, ↓IntWalk.iteOmega, *]) rfl
 ·refine relX_plain rfl rfl Hmn.out (Nat.le_refl _) (fun D u v wa wb hb h => two_other h hb (by decide) (by decide) (by decide)) ?_; intro Dn Ac w5 hp; have a9 : Ac.eval (.tmp 9) = .pointer (some ⟨r, 0, none⟩) := hp.d 1; exact relPureX (.pointer (some ⟨r, 0, none⟩)) (fun ρ hρ h1 h2 h3 => by rw [hρ] at a9; simp [go_sem, ↓IntWalk.iteOmega, *]) rfl
 ·refine relX_plain rfl rfl Hmn.out (Nat.le_refl _) (fun D u v wa wb hb h => two_other h hb (by decide) (by decide) (by decide)) ?_; intro Dn Ac w5 hp; have hb := hp.bel; have a10 : Ac.eval (.tmp 10) = .pointer (some ⟨r, 0, none⟩) := hp.d 2; have hr5 := HRr.out.below hb HRr.out.lt; have z0 : w5.cell? ⟨r, 0, none⟩ = some (.pointer (some ⟨ga, 0, none⟩)) := hr5.cell 0; have z1 : w5.cell? ⟨r, 1, none⟩ = some (.pointer (some ⟨gt, 0, none⟩)) := hr5.cell 1; exact relPureX (.pointer (some ⟨ga, 0, none⟩)) (fun ρ hρ h1 h2 h3 => by rw [hρ] at a10; simp [go_sem, ↓IntWalk.iteOmega, *]) rfl
 ·refine relX_plain rfl rfl Hmn.out (Nat.le_refl _) (fun D u v wa wb hb h => two_other h hb (by decide) (by decide) (by decide)) ?_; intro Dn Ac w5 hp; have a0 : Ac.eval (.tmp 0) = .pointer (some ⟨r, 0, none⟩) := hp.out 0 (by rfl); exact relPureX (.pointer (some ⟨r, 0, none⟩)) (fun ρ hρ h1 h2 h3 => by rw [hρ] at a0; simp [go_sem, ↓IntWalk.iteOmega, *]) rfl
 ·refine relX_plain rfl rfl Hmn.out (Nat.le_refl _) (fun D u v wa wb hb h => two_other h hb (by decide) (by decide) (by decide)) ?_; intro Dn Ac w5 hp; have a12 : Ac.eval (.tmp 12) = .pointer (some ⟨r, 0, none⟩) := hp.d 4; exact relPureX (.pointer (some ⟨r, 0, none⟩)) (fun ρ hρ h1 h2 h3 => by rw [hρ] at a12; simp [go_sem, ↓IntWalk.iteOmega, *]) rfl
 ·refine relX_plain rfl rfl Hmn.out (Nat.le_refl _) (fun D u v wa wb hb h => two_other h hb (by decide) (by decide) (by decide)) ?_; intro Dn Ac w5 hp; have a13 : Ac.eval (.tmp 13) = .pointer (some ⟨r, 0, none⟩) := hp.d 5; exact relPureX (.pointer (some ⟨r, 1, none⟩)) (fun ρ hρ h1 h2 h3 => by rw [hρ] at a13; simp [go_sem, ↓IntWalk.iteOmega, *]) rfl
 ·refine relX_plain rfl rfl Hmn.out (Nat.le_refl _) (fun D u v wa wb hb h => two_other h hb (by decide) (by decide) (by decide)) ?_; intro Dn Ac w5 hp; have hb := hp.bel; have a14 : Ac.eval (.tmp 14) = .pointer (some ⟨r, 1, none⟩) := hp.d 6; have hr5 := HRr.out.below hb HRr.out.lt; have z0 : w5.cell? ⟨r, 0, none⟩ = some (.pointer (some ⟨ga, 0, none⟩)) := hr5.cell 0; have z1 : w5.cell? ⟨r, 1, none⟩ = some (.pointer (some ⟨gt, 0, none⟩)) := hr5.cell 1; exact relPureX (.pointer (some ⟨gt, 0, none⟩)) (fun ρ hρ h1 h2 h3 => by rw [hρ] at a14; simp [go_sem, ↓IntWalk.iteOmega, *]) rfl
 ·refine relX_op rfl rfl Hmn.out (Nat.le_refl _) ?_; intro Dn Ac w5 hp; have hb := hp.bel; have a11 : Ac.eval (.tmp 11) = .pointer (some ⟨ga, 0, none⟩) := hp.d 3; have a15 : Ac.eval (.tmp 15) = .pointer (some ⟨gt, 0, none⟩) := hp.d 7; obtain ⟨ρ, hρ, hc, hf, hgl⟩ := evalX Ac; rw [hρ] at a11 a15; refine relCallS hρ 84 #[.pointer (some ⟨ga, 0, none⟩), .pointer (some ⟨gt, 0, none⟩)] (by simp [go_sem, ↓IntWalk.iteOmega, *]) ?_; refine (HLa.out w5 hb).mono ?_; rintro e w6 ⟨A6, n6, c6, xs6, rfl, hl6, hb6, _⟩; have hR6 := RowK.of_low hl6 hb.size; rw [HEK1.out] at hR6; obtain ⟨A7, c7, xs7, e7, h7⟩ := hR6; rw [e7]; exact ⟨_, rfl, ⟨A7, c7, rfl⟩, hb6, two_a hp.ext hb6 (by decide) (by decide) hp.no ⟨A7, c7, xs7, rfl, h7⟩⟩
 ·refine relX_plain rfl rfl Hmn.out (Nat.le_refl _) (fun D u v wa wb hb h => two_other h hb (by decide) (by decide) (by decide)) ?_; intro Dn Ac w5 hp; have a0 : Ac.eval (.tmp 0) = .pointer (some ⟨r, 0, none⟩) := hp.out 0 (by rfl); exact relPureX (.pointer (some ⟨r, 0, none⟩)) (fun ρ hρ h1 h2 h3 => by rw [hρ] at a0; simp [go_sem, ↓IntWalk.iteOmega, *]) rfl
 ·refine relX_plain rfl rfl Hmn.out (Nat.le_refl _) (fun D u v wa wb hb h => two_other h hb (by decide) (by decide) (by decide)) ?_; intro Dn Ac w5 hp; have a17 : Ac.eval (.tmp 17) = .pointer (some ⟨r, 0, none⟩) := hp.d 9; exact relPureX (.pointer (some ⟨r, 0, none⟩)) (fun ρ hρ h1 h2 h3 => by rw [hρ] at a17; simp [go_sem, ↓IntWalk.iteOmega, *]) rfl
 ·refine relX_plain rfl rfl Hmn.out (Nat.le_refl _) (fun D u v wa wb hb h => two_other h hb (by decide) (by decide) (by decide)) ?_; intro Dn Ac w5 hp; have a18 : Ac.eval (.tmp 18) = .pointer (some ⟨r, 0, none⟩) := hp.d 10; exact relPureX (.pointer (some ⟨r, 1, none⟩)) (fun ρ hρ h1 h2 h3 => by rw [hρ] at a18; simp [go_sem, ↓IntWalk.iteOmega, *]) rfl
 ·refine relX_plain rfl rfl Hmn.out (Nat.le_refl _) (fun D u v wa wb hb h => two_other h hb (by decide) (by decide) (by decide)) ?_; intro Dn Ac w5 hp; have hb := hp.bel; have a19 : Ac.eval (.tmp 19) = .pointer (some ⟨r, 1, none⟩) := hp.d 11; have hr5 := HRr.out.below hb HRr.out.lt; have z0 : w5.cell? ⟨r, 0, none⟩ = some (.pointer (some ⟨ga, 0, none⟩)) := hr5.cell 0; have z1 : w5.cell? ⟨r, 1, none⟩ = some (.pointer (some ⟨gt, 0, none⟩)) := hr5.cell 1; exact relPureX (.pointer (some ⟨gt, 0, none⟩)) (fun ρ hρ h1 h2 h3 => by rw [hρ] at a19; simp [go_sem, ↓IntWalk.iteOmega, *]) rfl
 ·refine relX_plain rfl rfl Hmn.out (Nat.le_refl _) (fun D u v wa wb hb h => two_other h hb (by decide) (by decide) (by decide)) ?_; intro Dn Ac w5 hp; have a0 : Ac.eval (.tmp 0) = .pointer (some ⟨r, 0, none⟩) := hp.out 0 (by rfl); exact relPureX (.pointer (some ⟨r, 0, none⟩)) (fun ρ hρ h1 h2 h3 => by rw [hρ] at a0; simp [go_sem, ↓IntWalk.iteOmega, *]) rfl
 ·refine relX_plain rfl rfl Hmn.out (Nat.le_refl _) (fun D u v wa wb hb h => two_other h hb (by decide) (by decide) (by decide)) ?_; intro Dn Ac w5 hp; have a21 : Ac.eval (.tmp 21) = .pointer (some ⟨r, 0, none⟩) := hp.d 13; exact relPureX (.pointer (some ⟨r, 0, none⟩)) (fun ρ hρ h1 h2 h3 => by rw [hρ] at a21; simp [go_sem, ↓IntWalk.iteOmega, *]) rfl
 ·refine relX_plain rfl rfl Hmn.out (Nat.le_refl _) (fun D u v wa wb hb h => two_other h hb (by decide) (by decide) (by decide)) ?_; intro Dn Ac w5 hp; have a22 : Ac.eval (.tmp 22) = .pointer (some ⟨r, 0, none⟩) := hp.d 14; exact relPureX (.pointer (some ⟨r, 0, none⟩)) (fun ρ hρ h1 h2 h3 => by rw [hρ] at a22; simp [go_sem, ↓IntWalk.iteOmega, *]) rfl
 ·refine relX_plain rfl rfl Hmn.out (Nat.le_refl _) (fun D u v wa wb hb h => two_other h hb (by decide) (by decide) (by decide)) ?_; intro Dn Ac w5 hp; have hb := hp.bel; have a23 : Ac.eval (.tmp 23) = .pointer (some ⟨r, 0, none⟩) := hp.d 15; have hr5 := HRr.out.below hb HRr.out.lt; have z0 : w5.cell? ⟨r, 0, none⟩ = some (.pointer (some ⟨ga, 0, none⟩)) := hr5.cell 0; have z1 : w5.cell? ⟨r, 1, none⟩ = some (.pointer (some ⟨gt, 0, none⟩)) := hr5.cell 1; exact relPureX (.pointer (some ⟨ga, 0, none⟩)) (fun ρ hρ h1 h2 h3 => by rw [hρ] at a23; simp [go_sem, ↓IntWalk.iteOmega, *]) rfl
 ·refine relX_op rfl rfl Hmn.out (Nat.le_refl _) ?_; intro Dn Ac w5 hp; have hb := hp.bel; have a20 : Ac.eval (.tmp 20) = .pointer (some ⟨gt, 0, none⟩) := hp.d 12; have a24 : Ac.eval (.tmp 24) = .pointer (some ⟨ga, 0, none⟩) := hp.d 16; obtain ⟨ρ, hρ, hc, hf, hgl⟩ := evalX Ac; rw [hρ] at a20 a24; refine relCallS hρ 84 #[.pointer (some ⟨gt, 0, none⟩), .pointer (some ⟨ga, 0, none⟩)] (by simp [go_sem, ↓IntWalk.iteOmega, *]) ?_; refine (HLb.out w5 hb).mono ?_; rintro e w6 ⟨A6, n6, c6, xs6, rfl, hl6, hb6, _⟩; have hR6 := RowK.of_low hl6 hb.size; rw [HEK2.out] at hR6; obtain ⟨A7, c7, xs7, e7, h7⟩ := hR6; rw [e7]; exact ⟨_, rfl, ⟨A7, c7, rfl⟩, hb6, two_b hp.ext hb6 (by decide) (by decide) hp.no ⟨A7, c7, xs7, rfl, h7⟩⟩
 ·refine relX_app rfl rfl ?_; intro Dn Ac w5 hp; have hb := hp.bel; obtain ⟨A16, c16, a16⟩ := hp.d 8; change Ac.eval (.tmp 16) = _ at a16; obtain ⟨A25, c25, a25⟩ := hp.d 17; change Ac.eval (.tmp 25) = _ at a25; have hd1 := hp.dn 8 (by kernel_rfl); have hd2 := hp.dn 17 (by kernel_rfl); obtain ⟨A1, c1, xs1, e1, ho1, hc1⟩ := hp.ext.a hd1 hp.no; obtain ⟨A2, c2, xs2, e2, ho2, hc2⟩ := hp.ext.b hd2 hp.no; change Ac.eval (.tmp 16) = _ at e1; change Ac.eval (.tmp 25) = _ at e2; refine wp_append_any w5 (.tmp 16) (.tmp 25) 51 rfl w.heap.size 71 i0 _ 11 104 Tryz.underlying51 hi hz0 hz1 hz2 rfl (by decide) (.slice A1 K1.length c1) K1.length xs1 e1 ho1 w5.heap.size A2 K2.length c2 xs2 e2 (reads_own_ (by decide) ho2) (Chunks.ones pfOne hc2 (by decide)) (by unfold maxLen; omega) (by omega) hb.size ?_; intro v2 w6 h2 h3 h4; obtain ⟨A4, c4, rfl⟩ := own_slice h2; have hRw : RowK w.heap.size w6 (.slice A4 (K1.length + K2.length) c4) (K1 ++ K2) := ⟨A4, c4, _, by rw [List.length_append], by rw [List.length_append]; exact h2, Chunks.app_ (w := w6) ⟨hc1.1, hc1.2⟩ ⟨hc2.1, hc2.2⟩⟩
  exact ⟨_, rfl, ⟨A4, c4, by rw [HN12.out]⟩, (Below.refl w.heap.size w5).grown h3 hb.size (fun k hk => own_low_block ho1 k hk), fun j _ hj => relFlat _ Hfl.out _ _ _ _ (hp.has j hj), two_c (by decide) (by decide) hd1 hd2 hRw⟩
 ·refine relX_plain rfl rfl Hmn.out (Nat.le_refl _) (fun D u v wa wb hb h => two_other h hb (by decide) (by decide) (by decide)) ?_; intro Dn Ac w5 hp; obtain ⟨A26, c26, a26⟩ := hp.d 18; change Ac.eval (.tmp 26) = _ at a26; exact relPureX (.int .i64 (N : Int)) (fun ρ hρ h1 h2 h3 => by rw [hρ] at a26; simp [go_sem, ↓IntWalk.iteOmega, *]) rfl
 ·refine relX_plain rfl rfl Hmn.out (Nat.le_refl _) (fun D u v wa wb hb h => two_other h hb (by decide) (by decide) (by decide)) ?_; intro Dn Ac w5 hp; exact relPureX (.int .i64 0) (fun ρ hρ h1 h2 h3 => by simp [go_sem, ↓IntWalk.iteOmega, *]) rfl
 intro u w3 hb7 hall hox; obtain ⟨A26, c26, e26⟩ := relAll_at hall (i := 18) (by decide +kernel); change u 18 = _ at e26; have e27 : u 19 = .int .i64 (N : Int) := relAll_at hall (i := 19) (by decide +kernel); have e28 : u 20 = .int .i64 0 := relAll_at hall (i := 20) (by decide +kernel); clear hall; simp only [List.drop_succ_cons, List.drop_zero, List.take_succ_cons, List.take_zero, putAll, Act.put, List.setIfInBounds_toArray, List.set_cons_zero, List.set_cons_succ, Nat.zero_add, Nat.reduceAdd, e26, e27, e28]; obtain ⟨A3, c3, xs3, hv3, ho3, hc3⟩ := hox.c (by decide); change u 18 = _ at hv3; rw [e26] at hv3; have hK := HKK.out; have hKN : K.length = N := (by rw [← hK, List.length_append, HN12.out])
 rw [hK] at ho3 hc3 hv3; rw [hKN] at ho3 hv3; injection hv3 with hv1 _ hv2
 subst hv1 hv2; have HKN := hide hKN; have HB3 := hide hb7; have hL3 : LstAt 11 pfR w3 A26 N c26 K := LstAt.of_own (by decide) ho3 hc3; have HL3 := hide hL3; have hs3 := hb7.size; have hcm := hL3.2.2.1; have hNc := hL3.2.1; unfold maxLen at hcm; have hcl : w.heap.size ≤ w3.heap.size := hs3; clear hb7 hox hL3 ho3 hc3 e26 e27 e28 hK hKN; go_wp2
 go_loopw [3, 28] (fun vo iv wr => ∃ (q : Nat) (A1 : Option Addr) (c1 : Nat), q ≤ N ∧ iv = .int .i64 (q : Nat) ∧ vo = .slice A1 q c1 ∧ wr.ownsRow w3.heap.size 24 2 (.slice A1 q c1) q (pxC (K.take q)) ∧ Below w3.heap.size w3 wr) (fun _ iv _ => N - (intOf iv).toNat)
 case atStart => exact ⟨0, none, 0, Nat.zero_le _, rfl, rfl, ⟨by simp [pxC], .inl ⟨rfl, rfl⟩⟩, Below.refl _ _⟩
 case round =>
  obtain ⟨q, A1, c1, hq, rfl, rfl, ho, hbel⟩ := hrel; have HO := hide ho; have HBe := hide hbel; have hs1 := hbel.size; by_cases hlt : q < N
  ·obtain ⟨g3, o3, x, vs, rfl, hg3, hx, _, hvs, hcs⟩ := (HL3.out.below pfMono hbel).at_ hlt; obtain ⟨h, o, A, n, c, hp, md, pf, aa, ai, B, m, d, rfl⟩ := hvs; have HTk : Hid (K.take (q + 1) = K.take q ++ [x]) := hide (by rw [List.take_add_one, hx]; rfl); obtain ⟨a, n0⟩ := x; have q1 : (q : Int) < (N : Int) := (by omega)
   have q0 : (0 : Int) ≤ (q : Int) := (by omega)
   have hwq : IntKind.i64.wrap ((q : Int) + 1) = (q : Int) + 1 := (by rw [IntKind.wrap_i64]; omega)
   have f0 : wr.cell? ⟨g3, o3 + q * 11, none⟩ = some (.int .u32 (a : Int)) := hcs 0 _ rfl; have f1 : wr.cell? ⟨g3, o3 + q * 11 + 1, none⟩ = some (.int .i64 (n0 : Int)) := hcs 1 _ rfl; have f2 : wr.cell? ⟨g3, o3 + q * 11 + 2, none⟩ = some (.int .i64 h) := hcs 2 _ rfl; have f3 : wr.cell? ⟨g3, o3 + q * 11 + 3, none⟩ = some (.int .i64 o) := hcs 3 _ rfl; have f4 : wr.cell? ⟨g3, o3 + q * 11 + 4, none⟩ = some (.slice A n c) := hcs 4 _ rfl; have f5 : wr.cell? ⟨g3, o3 + q * 11 + 5, none⟩ = some (.int .u32 hp) := hcs 5 _ rfl; have f6 : wr.cell? ⟨g3, o3 + q * 11 + 6, none⟩ = some (.int .u32 md) := hcs 6 _ rfl; have f7 : wr.cell? ⟨g3, o3 + q * 11 + 7, none⟩ = some (.int .u32 pf) := hcs 7 _ rfl; have f8 : wr.cell? ⟨g3, o3 + q * 11 + 8, none⟩ = some (.int .u32 aa) := hcs 8 _ rfl; have f9 : wr.cell? ⟨g3, o3 + q * 11 + 9, none⟩ = some (.int .u32 ai) := hcs 9 _ rfl; have f10 : wr.cell? ⟨g3, o3 + q * 11 + 10, none⟩ = some (.slice B m d) := hcs 10 _ rfl; obtain ⟨w4, hw4⟩ : ∃ W, wr.alloc (.cells #[.int .u32 (a : Int), .int .i64 (n0 : Int), .int .i64 h, .int .i64 o, .slice A n c, .int .u32 hp, .int .u32 md, .int .u32 pf, .int .u32 aa, .int .u32 ai, .slice B m d] 71) = W := ⟨_, rfl⟩
   have hb4 : Below wr.heap.size wr w4 := hw4 ▸ blkBelow1 wr _; have HBx : Hid (Blk w4 wr.heap.size 71 #[.int .u32 (a : Int), .int .i64 (n0 : Int), .int .i64 h, .int .i64 o, .slice A n c, .int .u32 hp, .int .u32 md, .int .u32 pf, .int .u32 aa, .int .u32 ai, .slice B m d]) := hide (hw4 ▸ Blk.new wr _ _); have HB4 := hide hb4; have HW4 := hide hw4; have hs4 := hb4.size; have HO4 := hide (own_below HO.out hb4); clear ho hbel hcs hx hw4 hb4
   go_upto_region 7 with fail
   rw [HW4.out]; have y0 : w4.cell? ⟨wr.heap.size, 0, none⟩ = some (.int .u32 (a : Int)) := HBx.out.cell 0; have y1 : w4.cell? ⟨wr.heap.size, 1, none⟩ = some (.int .i64 (n0 : Int)) := HBx.out.cell 1
   go_wp2_with (at_builtin; refine wpList_append_any _ rfl (.tmp 32) (.tmp 35) 45 rfl w3.heap.size 24 j0 _ 2 16 Tryz.underlying45 hj hy0 hy1 hy2 rfl (by decide) (.slice A1 q c1) q _ rfl (HO4.out.alloc _) (w4.heap.size + 1) (some ⟨w4.heap.size, 0, none⟩) 1 1 [.int .u32 (a : Int), .int .i64 (n0 : Int)] rfl (reads_blkN (Blk.new _ _ _) (by simp) rfl rfl) (by simp [Value.oneCell']) (by unfold maxLen; omega) (by omega) (by simp; omega) ?_; intro v' w9 h5 h6 h7; obtain ⟨A4, c4, rfl⟩ := own_slice h5; have HO5 := hide h5; have HB9 := hide ((HBe.out.trans ((HB4.out.trans ((blkBelow1 w4 _).mono hs4)).mono hs1)).grown h6 (by simp; omega) (fun k hk => own_low_block HO4.out k hk)); clear h5 h6 h7 y0 y1)
   go_roundw
   case rel =>
    refine ⟨q + 1, A4, c4, by omega, by go_num, rfl, ?_, HB9.out⟩; have e2 : pxC (K.take q ++ [(a, n0)]) = pxC (K.take q) ++ [.int .u32 (a : Int), .int .i64 (n0 : Int)] := pxC_app _ _ _; rw [HTk.out, e2]; exact HO5.out
   case measure => simp [intOf]; omega
  ·obtain rfl : q = N := (by omega)
   have e1 : decide ((q : Int) < (q : Int)) = false := (by simp)
   have htk : K.take q = K := List.take_of_length_le (by rw [HKN.out]; exact Nat.le_refl _); rw [htk] at ho; have HP := hide (own_pxs ho); have hsr := hbel.size; have HSn := hide (fun W (hb : Below wr.heap.size wr W) => nSort_any A1 q c1 K W ((own_pxs ho).below pxMono hb) HG.out (by omega)); clear ho htk HO hbel
   go_wp2_with fail
   refine (HSn.out _ (Below.refl _ _)).mono ?_; rintro e w9 ⟨A9, c9, rfl, ho9, hb9⟩; have HP9 := hide (own_pxs ho9); have HB9 := hide hb9; clear ho9 hb9; go_wp2; go_ret; exact ⟨A9, _, c9, rfl, HP9.out, (HB3.out.trans (HBe.out.mono hs3)).trans (HB9.out.mono (Nat.le_trans hs3 hsr))⟩
end Go.Proofs.YtcinjckajnnhmaaGreat
namespace Go.Proofs.YtcinjckajnnhmaaGreat
open Go.RowKit Go.WideShapes Go.ChangeShapes
attribute [local go_sem] Oper.semAt_some
theorem aimL_take {L : List TD} {q : Nat} {x : TD} (h : L[q]? = some x) : aimL (L.take (q + 1)) = aimPut (aimL (L.take q)) x := by
 rw [← aimL_push, List.take_add_one, h]; rfl
theorem tok_path {L : List TD} (hR : ∀ x ∈ L, TdOk x) : ∀ z ∈ aimL L, z.1 < 4294967296 := fun z hz => by
 obtain ⟨x, hx, _, _, e, _⟩ := aimL_mem z hz; obtain ⟨⟨a, ha, hab⟩, _⟩ := hR x hx; rw [e, ha, Int.toNat_natCast]; exact hab
set_option maxRecDepth 100000 in
set_option maxHeartbeats 8000000 in
theorem refAim36_any (A : Option Addr) (n c : Nat) (L : List TD) (w : World) (h : LstAt 11 tdR w A n c L) (hR : ∀ x ∈ L, TdOk x ∧ x.at_.path.length ≤ 100000) (hn : n ≤ 10000) :
  Calls Tryz.prog 24 #[.slice A n c] w fun e w' => ∃ A' n' c', e = .returned (.slice A' n' c') ∧ LF (fun j => w.heap.size ≤ j ∧ j < w'.heap.size) w' A' n' c' ((aimL L).map tdZ) ∧ Below w.heap.size w w' := by
 have hln := h.1; have hnc := h.2.1; have hmx := h.2.2.1; unfold maxLen at hmx; have HL := hide h; have HLn := hide hln; have HRg := hide hR; have HRt : Hid (∀ x ∈ L, TdOk x) := hide (fun x hx => (hR x hx).1); obtain ⟨w0, hw0⟩ : ∃ W, w.alloc (.cells #[] 71) = W := ⟨_, rfl⟩
 have hb0 : Below w.heap.size w w0 := hw0 ▸ blkBelow1 w _; have HO0 : Hid (w0.ownsRow w.heap.size 71 11 (.slice (some ⟨w.heap.size, 0, none⟩) 0 0) 0 []) := hide (hw0 ▸ World.ownsRow_lit w #[] 0 (Nat.le_refl _) (by unfold maxLen; omega) rfl); have HF0 : Hid (LF (fun j => w.heap.size ≤ j ∧ j < w0.heap.size) w0 (some ⟨w.heap.size, 0, none⟩) 0 0 []) := hide ⟨LstAt.of_own (by decide) HO0.out Chunks.nil_, fun h => absurd h (by omega)⟩; have HB0 := hide hb0; have HW0 := hide hw0; clear h hln hR hw0 hb0
 go_enter Tryz.func24, Tryz.ntmps24
 go_wp2; rw [HW0.out]
 go_loopw [3, 4] (fun vo iv wr => ∃ (q n1 c1 : Nat) (A1 : Option Addr), q ≤ n ∧ n1 ≤ q ∧ iv = .int .i64 (q : Nat) ∧ vo = .slice A1 n1 c1 ∧ LF (fun j => w.heap.size ≤ j ∧ j < wr.heap.size) wr A1 n1 c1 ((aimL (L.take q)).map tdZ) ∧ Below w.heap.size w wr) (fun _ iv _ => n - (intOf iv).toNat)
 case atStart => exact ⟨0, 0, 0, some ⟨w.heap.size, 0, none⟩, Nat.zero_le _, Nat.le_refl _, rfl, rfl, HF0.out, HB0.out⟩
 case round =>
  obtain ⟨q, n1, c1, A1, hq, hnq, rfl, rfl, hlf, hbel⟩ := hrel; have HLf := hide hlf; have HBe := hide hbel; have hsr := hbel.size; by_cases hlt : q < n
  ·obtain ⟨g, o, x, XA, xn, xc, XB, xm, xd, rfl, hg, hx, hxr, hxu, hcs⟩ := TDat (HL.out.below tdMono hbel) hlt; have HTk := hide (aimL_take hx); have hxm := HRg.out x (List.mem_of_getElem? hx); obtain ⟨xa, n0, X⟩ := x; obtain ⟨⟨⟨a, ha, hab⟩, hn1, hn2, hok⟩, hpl⟩ := hxm; simp only at ha hn1 hn2 hok hxr hxu hcs hpl; subst ha; have HOk := hide hok; have HXn : Hid (xn ≤ 100000) := hide (by have := hxr.1; omega); have HXm : Hid (xm ≤ 10000) := hide (by have h1 := hxu.1; have h2 := hok.2; omega); have HXr := hide hxr; have HXu := hide hxu; have HCs := hide hcs; obtain ⟨Y, hY⟩ : ∃ Y, normA X = Y := ⟨_, rfl⟩
   have HY := hide hY; have q1 : (q : Int) < (n : Int) := (by omega)
   have q0 : (0 : Int) ≤ (q : Int) := (by omega)
   have hwq : IntKind.i64.wrap ((q : Int) + 1) = (q : Int) + 1 := (by rw [IntKind.wrap_i64]; omega)
   have f0 : wr.cell? ⟨g, o + q * 11, none⟩ = some (.int .u32 (a : Int)) := hcs 0 _ rfl; have f1 : wr.cell? ⟨g, o + q * 11 + 1, none⟩ = some (.int .i64 n0) := hcs 1 _ rfl; have HGd := hide (fun W => refGood_any a n0 hab W); obtain ⟨GB, hGB⟩ : ∃ b, goodB a n0 = b := ⟨_, rfl⟩
   rw [hGB] at HGd; unfold pfx at HGd; have HGB := hide hGB; clear hlf hbel hx hxr hxu hcs hok hpl hY hGB
   go_wp2_with fail
   refine (HGd.out _).mono ?_; rintro e w4 ⟨rfl, hb4⟩; have HB4 := hide hb4; have HBe4 := hide (HBe.out.trans (hb4.mono hsr)); have hs4 := hb4.size
   cases GB with
   | false =>
    have HLf4 := hide (((HLf.out.below hb4).more (F' := fun j => w.heap.size ≤ j ∧ j < w4.heap.size) (fun k hk => ⟨hk.1, by omega⟩))); clear hb4 f0 f1; go_wp2
    go_roundw
    case rel =>
     refine ⟨q + 1, n1, c1, A1, by omega, by omega, by go_num, rfl, ?_, HBe4.out⟩; rw [HTk.out]; unfold aimPut; rw [if_neg (by simp only [Int.toNat_natCast]; rw [HGB.out]; simp)]; exact HLf4.out
    case measure => simp [intOf]; omega
   | true =>
    obtain ⟨w5q, h5q⟩ : ∃ W, W = wr := ⟨_, rfl⟩
    subst h5q; obtain ⟨wr, hwr⟩ : ∃ W, W = w4 := ⟨_, rfl⟩
    subst hwr; have HXr := hide (HXr.out.below sgMono hb4); have HXu := hide (HXu.out.below hb4); have HCs : Hid (∀ (j : Nat) (v : Value), [.int .u32 (a : Int), .int .i64 n0, .int .i64 X.has, .int .i64 X.org, .slice XA xn xc, .int .u32 X.hop, .int .u32 X.med, .int .u32 X.pref, .int .u32 X.aas, .int .u32 X.aid, .slice XB xm xd][j]? = some v → wr.cell? ⟨g, o + q * 11 + j, none⟩ = some v) := hide (fun j v hj => (hb4.cell hg).trans (HCs.out j v hj)); have hg : g < wr.heap.size := Nat.lt_of_lt_of_le hg hb4.size; have HLf4 := hide (HLf.out.below hb4); obtain ⟨hPg, hn0⟩ := pg_good hab HGB.out; obtain ⟨m0, hm0⟩ : ∃ m : Nat, n0.toNat = m := ⟨_, rfl⟩
    rw [hm0] at hn0 hPg; have HPg := hide hPg; have HN0 := hide hn0; have HM0 := hide hm0; clear hb4 f0 f1 hPg hn0 hm0
    go_upto_region 6 with fail
    have Hmn := hide (show AllMono [(isV (.slice A1 n1 c1)), (isV (.slice (some ⟨g, o, none⟩) n c)), (isV (.int .i64 (q : Int))), (isV (ptv g (o + q * 11))), (isV (ptv g (o + q * 11))), (isV (.agg #[.int .u32 (a : Int), .int .i64 n0])), (isV (.slice (some ⟨g, o, none⟩) n c)), (isV (.int .i64 (q : Int))), (isV (ptv g (o + q * 11))), (isV (ptv g (o + q * 11 + 2))), (isV (atV X.has X.org XA xn xc X.hop X.med X.pref X.aas X.aid XB xm xd)), (fun v W2 => ∃ A n c B m d, v = atV Y.has Y.org A n c Y.hop Y.med Y.pref Y.aas Y.aid B m d ∧ (∃ xs, LOw 2 133 sgR W2 wr.heap.size wr.heap.size A n c Y.path xs) ∧ FrB wr.heap.size none (fun w => U32s w B m d Y.comms) W2), (fun v W2 => ∃ A n c B m d, v = .agg #[.int .u32 (a : Int), .int .i64 n0, .int .i64 Y.has, .int .i64 Y.org, .slice A n c, .int .u32 Y.hop, .int .u32 Y.med, .int .u32 Y.pref, .int .u32 Y.aas, .int .u32 Y.aid, .slice B m d] ∧ (∃ xs, LOw 2 133 sgR W2 wr.heap.size wr.heap.size A n c Y.path xs) ∧ FrB wr.heap.size none (fun w => U32s w B m d Y.comms) W2)] from ⟨fun _ _ _ _ h => h, fun _ _ _ _ h => h, fun _ _ _ _ h => h, fun _ _ _ _ h => h, fun _ _ _ _ h => h, fun _ _ _ _ h => h, fun _ _ _ _ h => h, fun _ _ _ _ h => h, fun _ _ _ _ h => h, fun _ _ _ _ h => h, fun _ _ _ _ h => h, fun v w2 w3 hb ⟨A, n, c, B, m, d, e, ⟨xs, h1⟩, h2⟩ => ⟨A, n, c, B, m, d, e, ⟨xs, h1.below hb⟩, h2.below hb⟩, fun v w2 w3 hb ⟨A, n, c, B, m, d, e, ⟨xs, h1⟩, h2⟩ => ⟨A, n, c, B, m, d, e, ⟨xs, h1.below hb⟩, h2.below hb⟩, trivial⟩); refine wp_region_relT 13 _ (by kernel_rfl) (by kernel_rfl) (by kernel_rfl) (by kernel_rfl) (by kernel_rfl) (relMono _ Hmn.out) ⟨?_, ?_, ?_, ?_, ?_, ?_, ?_, ?_, ?_, ?_, ?_, ?_, ?_, trivial⟩ ?_
    ·exact relStep_plain rfl fun Ac w5 hp => pureM (.slice A1 n1 c1) 3 (hp.out 3 (by rfl))
    ·exact relStep_plain rfl fun Ac w5 hp => pureM (.slice (some ⟨g, o, none⟩) n c) 0 (hp.out 0 (by rfl))
    ·exact relStep_plain rfl fun Ac w5 hp => pureM (.int .i64 (q : Int)) 4 (hp.out 4 (by rfl))
    ·exact relStep_plain rfl fun Ac w5 hp => pure2 (ptv g (o + q * 11)) 19 (.slice (some ⟨g, o, none⟩) n c) (hp.d 1) 20 (.int .i64 (q : Int)) (hp.d 2)
    ·exact relStep_plain rfl fun Ac w5 hp => pureM (ptv g (o + q * 11)) 21 (hp.d 3)
    ·refine relStep_plain rfl ?_; intro Ac w5 hp; have hb := hp.bel; have f0 : w5.cell? ⟨g, o + q * 11, none⟩ = some (.int .u32 (a : Int)) := (hb.cell hg).trans (HCs.out 0 _ rfl); have f1 : w5.cell? ⟨g, o + q * 11 + 1, none⟩ = some (.int .i64 n0) := (hb.cell hg).trans (HCs.out 1 _ rfl); have f2 : w5.cell? ⟨g, o + q * 11 + 2, none⟩ = some (.int .i64 X.has) := (hb.cell hg).trans (HCs.out 2 _ rfl); have f3 : w5.cell? ⟨g, o + q * 11 + 3, none⟩ = some (.int .i64 X.org) := (hb.cell hg).trans (HCs.out 3 _ rfl); have f4 : w5.cell? ⟨g, o + q * 11 + 4, none⟩ = some (.slice XA xn xc) := (hb.cell hg).trans (HCs.out 4 _ rfl); have f5 : w5.cell? ⟨g, o + q * 11 + 5, none⟩ = some (.int .u32 X.hop) := (hb.cell hg).trans (HCs.out 5 _ rfl); have f6 : w5.cell? ⟨g, o + q * 11 + 6, none⟩ = some (.int .u32 X.med) := (hb.cell hg).trans (HCs.out 6 _ rfl); have f7 : w5.cell? ⟨g, o + q * 11 + 7, none⟩ = some (.int .u32 X.pref) := (hb.cell hg).trans (HCs.out 7 _ rfl); have f8 : w5.cell? ⟨g, o + q * 11 + 8, none⟩ = some (.int .u32 X.aas) := (hb.cell hg).trans (HCs.out 8 _ rfl); have f9 : w5.cell? ⟨g, o + q * 11 + 9, none⟩ = some (.int .u32 X.aid) := (hb.cell hg).trans (HCs.out 9 _ rfl); have f10 : w5.cell? ⟨g, o + q * 11 + 10, none⟩ = some (.slice XB xm xd) := (hb.cell hg).trans (HCs.out 10 _ rfl); exact pure1 (.agg #[.int .u32 (a : Int), .int .i64 n0]) 22 (ptv g (o + q * 11)) (hp.d 4)
    ·exact relStep_plain rfl fun Ac w5 hp => pureM (.slice (some ⟨g, o, none⟩) n c) 0 (hp.out 0 (by rfl))
    ·exact relStep_plain rfl fun Ac w5 hp => pureM (.int .i64 (q : Int)) 4 (hp.out 4 (by rfl))
    ·exact relStep_plain rfl fun Ac w5 hp => pure2 (ptv g (o + q * 11)) 24 (.slice (some ⟨g, o, none⟩) n c) (hp.d 6) 25 (.int .i64 (q : Int)) (hp.d 7)
    ·exact relStep_plain rfl fun Ac w5 hp => pure1 (ptv g (o + q * 11 + 2)) 26 (ptv g (o + q * 11)) (hp.d 8)
    ·refine relStep_plain rfl ?_; intro Ac w5 hp; have hb := hp.bel; have f0 : w5.cell? ⟨g, o + q * 11, none⟩ = some (.int .u32 (a : Int)) := (hb.cell hg).trans (HCs.out 0 _ rfl); have f1 : w5.cell? ⟨g, o + q * 11 + 1, none⟩ = some (.int .i64 n0) := (hb.cell hg).trans (HCs.out 1 _ rfl); have f2 : w5.cell? ⟨g, o + q * 11 + 2, none⟩ = some (.int .i64 X.has) := (hb.cell hg).trans (HCs.out 2 _ rfl); have f3 : w5.cell? ⟨g, o + q * 11 + 3, none⟩ = some (.int .i64 X.org) := (hb.cell hg).trans (HCs.out 3 _ rfl); have f4 : w5.cell? ⟨g, o + q * 11 + 4, none⟩ = some (.slice XA xn xc) := (hb.cell hg).trans (HCs.out 4 _ rfl); have f5 : w5.cell? ⟨g, o + q * 11 + 5, none⟩ = some (.int .u32 X.hop) := (hb.cell hg).trans (HCs.out 5 _ rfl); have f6 : w5.cell? ⟨g, o + q * 11 + 6, none⟩ = some (.int .u32 X.med) := (hb.cell hg).trans (HCs.out 6 _ rfl); have f7 : w5.cell? ⟨g, o + q * 11 + 7, none⟩ = some (.int .u32 X.pref) := (hb.cell hg).trans (HCs.out 7 _ rfl); have f8 : w5.cell? ⟨g, o + q * 11 + 8, none⟩ = some (.int .u32 X.aas) := (hb.cell hg).trans (HCs.out 8 _ rfl); have f9 : w5.cell? ⟨g, o + q * 11 + 9, none⟩ = some (.int .u32 X.aid) := (hb.cell hg).trans (HCs.out 9 _ rfl); have f10 : w5.cell? ⟨g, o + q * 11 + 10, none⟩ = some (.slice XB xm xd) := (hb.cell hg).trans (HCs.out 10 _ rfl); exact pure1 (atV X.has X.org XA xn xc X.hop X.med X.pref X.aas X.aid XB xm xd) 27 (ptv g (o + q * 11 + 2)) (hp.d 9)
    ·refine relStep_plain rfl ?_; intro Ac w5 hp; have hb := hp.bel; have a28 : Ac.eval (.tmp 28) = atV X.has X.org XA xn xc X.hop X.med X.pref X.aas X.aid XB xm xd := hp.d 10; obtain ⟨ρ, hρ, hc, hf, hgl⟩ := evalX Ac; rw [hρ] at a28; refine relCall hρ 86 #[atV X.has X.org XA xn xc X.hop X.med X.pref X.aas X.aid XB xm xd] (by simp [go_sem, ↓IntWalk.iteOmega, *]) ?_; refine (refANorm_any X.has X.org XA xn xc X.hop X.med X.pref X.aas X.aid XB xm xd X.path X.comms w5 (HXr.out.below sgMono hb) (HXu.out.below hb) HOk.out.1 HXn.out HXm.out).mono ?_; rintro e w6 ⟨v6, rfl, ⟨A6, n6, c6, xs6, B6, m6, d6, rfl, hl6, hu6⟩, hb6⟩; have hY := HY.out; obtain ⟨x0, x1, x2, x3, x4, x5, x6, x7, x8⟩ := X; rw [hY] at hl6 hu6 ⊢; exact ⟨_, rfl, ⟨A6, n6, c6, B6, m6, d6, rfl, ⟨xs6, hl6.less hb.size hb.size⟩, hu6.less hb.size⟩, hb6⟩
    ·refine relStep_plain rfl ?_; intro Ac w5 hp; have a23 : Ac.eval (.tmp 23) = .agg #[.int .u32 (a : Int), .int .i64 n0] := hp.d 5; obtain ⟨A29, n29, c29, B29, m29, d29, a29, ⟨xs29, hl29⟩, hu29⟩ := hp.d 11; change Ac.eval (.tmp 29) = _ at a29; exact relPureX (.agg #[.int .u32 (a : Int), .int .i64 n0, .int .i64 Y.has, .int .i64 Y.org, .slice A29 n29 c29, .int .u32 Y.hop, .int .u32 Y.med, .int .u32 Y.pref, .int .u32 Y.aas, .int .u32 Y.aid, .slice B29 m29 d29]) (fun ρ hρ h1 h2 h3 => by rw [hρ] at a23 a29; simp [go_sem, ↓IntWalk.iteOmega, *]) ⟨A29, n29, c29, B29, m29, d29, rfl, ⟨xs29, hl29⟩, hu29⟩
    intro u w8 hb7 hall; have e18 : u 0 = .slice A1 n1 c1 := relAll_at hall (i := 0) (by decide +kernel); obtain ⟨A30, n30, c30, B30, m30, d30, e30, ⟨xs30, hl30⟩, hu30⟩ := relAll_at hall (i := 12) (by decide +kernel); change u 12 = _ at e30; clear hall; simp only [List.drop_succ_cons, List.drop_zero, List.take_succ_cons, List.take_zero, putAll, Act.put, List.setIfInBounds_toArray, List.set_cons_zero, List.set_cons_succ, Nat.zero_add, Nat.reduceAdd, e18, e30]; have hs8 := hb7.size; have HF8 : Hid (∀ k, (w.heap.size ≤ k ∧ k < w8.heap.size) → k < w8.heap.size) := hide (fun k hk => hk.2); have HLf8 := hide ((HLf4.out.below hb7).more (F' := fun j => w.heap.size ≤ j ∧ j < w8.heap.size) (fun k hk => ⟨hk.1, by omega⟩)); have HX8 : Hid (tdF (fun j => w.heap.size ≤ j ∧ j < w8.heap.size) w8 [.int .u32 (a : Int), .int .i64 n0, .int .i64 Y.has, .int .i64 Y.org, .slice A30 n30 c30, .int .u32 Y.hop, .int .u32 Y.med, .int .u32 Y.pref, .int .u32 Y.aas, .int .u32 Y.aid, .slice B30 m30 d30] ⟨(a : Int), n0, Y⟩) := hide (frs_more (frs_of_frb (td_fr (B := wr.heap.size) (ob := none) hl30 hu30 (Nat.le_refl _) (by simp))) (fun k hk => ⟨by omega, hk.2⟩)); have hn0 := HN0.out; subst hn0; have HPt := hide (refPut36_any (fun j => w.heap.size ≤ j ∧ j < w8.heap.size) A1 n1 c1 (aimL (L.take q)) a m0 Y A30 n30 c30 B30 m30 d30 w8 HLf8.out.lst HX8.out (aimL_sorted _) (tok_path (fun x hx => HRt.out x (List.mem_of_mem_take hx))) hab (by omega)); have HBe8 := hide (HBe4.out.trans (hb7.mono (by omega))); clear hb7 hl30 hu30
    go_wp2_with fail
    refine HPt.out.mono ?_; rintro e w9 ⟨A9, n9, c9, xs9, rfl, ho9, hc9, hb9⟩; have HLf9 := hide ((LF.of_own ho9 hc9 HF8.out hb9).more (F' := fun j => w.heap.size ≤ j ∧ j < w9.heap.size) (fun k hk => hk.elim (fun h => ⟨h.1, Nat.lt_of_lt_of_le h.2 hb9.size⟩) (fun h => ⟨by omega, h.2⟩)))
    have hn9 : n9 ≤ n1 + 1 := by
     have h1 := HLf9.out.lst.1; have h2 := HLf8.out.lst.1; have h3 := aimPut_len (aimL (L.take q)) ⟨(a : Int), (m0 : Int), X⟩
     have e : aimPut (aimL (L.take q)) ⟨(a : Int), (m0 : Int), X⟩ = putL a m0 Y (aimL (L.take q)) := by
      unfold aimPut; simp only [Int.toNat_natCast]; rw [if_pos HGB.out, HY.out]
     rw [e] at h3; rw [List.length_map] at h1 h2; omega
    have HBe9 := hide (HBe8.out.trans (hb9.mono (by omega))); clear ho9 hc9 hb9; go_wp2
    go_roundw
    case rel =>
     refine ⟨q + 1, n9, c9, A9, by omega, by omega, by go_num, rfl, ?_, HBe9.out⟩; rw [HTk.out]
     have e : aimPut (aimL (L.take q)) ⟨(a : Int), (m0 : Int), X⟩ = putL a m0 Y (aimL (L.take q)) := by
      unfold aimPut; simp only [Int.toNat_natCast]; rw [if_pos HGB.out, HY.out]
     rw [e]; exact HLf9.out
    case measure => simp [intOf]; omega
  ·obtain rfl : q = n := (by omega)
   have e1 : decide ((q : Int) < (q : Int)) = false := (by simp)
   rw [List.take_of_length_le (by rw [HLn.out]; exact Nat.le_refl _)] at hlf; have HLe := hide hlf; clear hlf hbel hlt HLf; go_wp2; go_ret; exact ⟨A1, n1, c1, rfl, HLe.out, HBe.out⟩
set_option maxRecDepth 100000 in
theorem toldG_any (r gt : Nat) (t : Tr AT) (F : Nat → Prop) (v0 v2 v3 : Value) (w : World) (hk : Blk w r 119 #[v0, .pointer (some ⟨gt, 0, none⟩), v2, v3]) (hT : TrT F w gt t) :
  Calls Tryz.prog 30 #[.pointer (some ⟨r, 0, none⟩)] w fun e w' => ∃ A c xs, e = .returned (.slice A (trCnt t) c) ∧ LOw 11 71 tdR w' w.heap.size w.heap.size A (trCnt t) c ((trL t).map tdN) xs ∧ Below w.heap.size w w' := by
 have HLi := hide (riblist_any F gt t w hT); have z1 : w.cell? ⟨r, 1, none⟩ = some (.pointer (some ⟨gt, 0, none⟩)) := hk.cell 1; obtain ⟨N, hN⟩ : ∃ N, trCnt t = N := ⟨_, rfl⟩
 rw [hN] at HLi ⊢; clear hk hT hN
 go_enter Tryz.func30, Tryz.ntmps30
 go_wp2_with fail
 refine HLi.out.mono ?_; rintro e w1 ⟨A, c, xs, rfl, hl, hb⟩; have HB := hide hb; have HL := hide hl; clear hl hb z1; go_wp2; go_ret; exact ⟨A, c, xs, rfl, HL.out, HB.out⟩
set_option maxRecDepth 100000 in
theorem leftG_any (r : Nat) (v0 v1 v2 : Value) (l : Int) (w : World) (hk : Blk w r 119 #[v0, v1, v2, .int .i64 l]) :
  Calls Tryz.prog 27 #[.pointer (some ⟨r, 0, none⟩)] w fun e w' => e = .returned (.int .i64 l) ∧ w' = w := by
 have z3 : w.cell? ⟨r, 3, none⟩ = some (.int .i64 l) := hk.cell 3; clear hk
 go_enter Tryz.func27, Tryz.ntmps27
 go_wp2; go_ret; exact ⟨rfl, rfl⟩
set_option maxRecDepth 100000 in
theorem tickG_any (r : Nat) (v0 v1 v2 : Value) (l : Nat) (w : World) (hk : Blk w r 119 #[v0, v1, v2, .int .i64 (l : Nat)]) (hl : l ≤ 65535) :
  Calls Tryz.prog 28 #[.pointer (some ⟨r, 0, none⟩)] w fun e w' => e = .returned (.tuple #[]) ∧ Blk w' r 119 #[v0, v1, v2, .int .i64 ((l - 1 : Nat) : Int)] ∧ ChgS (fun k => k = r) w w' := by
 have z3 : w.cell? ⟨r, 3, none⟩ = some (.int .i64 (l : Nat)) := hk.cell 3; have zf := hk.frozen 3; have HK := hide hk; clear hk; by_cases h0 : l = 0
 ·subst h0
  go_enter Tryz.func28, Tryz.ntmps28
  go_wp2; refine bodyPost_end (results_none rfl _ _ _) rfl ?_; exact ⟨rfl, HK.out, chg_refl _ _⟩
 ·have hd : decide (0 < (l : Int)) = true := (by simp; omega)
  have hd2 : decide (0 < l) = true := (by simp; omega)
  have hw : IntKind.i64.wrap ((l : Int) - 1) = ((l - 1 : Nat) : Int) := (by rw [IntKind.wrap_i64]; omega)
  have hp : 0 < l := (by omega)
  go_enter Tryz.func28, Tryz.ntmps28
  go_wp2; refine bodyPost_end (results_none rfl _ _ _) rfl ?_; exact ⟨rfl, HK.out.set_ 3 _, chg_set (S := fun k => k = r) (p := ⟨r, 3, none⟩) rfl _⟩
def inZ (n : Int) : Nat := if n < 0 then 0 else if 65535 < n then 65535 else n.toNat
theorem inZ_le (n : Int) : inZ n ≤ 65535 := by
 unfold inZ; split
 ·omega
 ·split <;> omega
set_option maxRecDepth 100000 in
theorem ribin_any (n : Int) (w : World) : Calls Tryz.prog 79 #[.int .i64 n] w fun e w' => e = .returned (.int .i64 (inZ n : Nat)) ∧ w' = w := by
 by_cases h1 : n < 0
 ·have e : inZ n = 0 := (by unfold inZ; rw [if_pos h1])
  have d1 : decide (n < 0) = true := decide_eq_true h1; have m1 : max n 0 = 0 := (by omega)
  have m2 : min (0 : Int) 65535 = 0 := (by decide)
  rw [e]; clear e
  go_enter Tryz.func79, Tryz.ntmps79
  go_wp2; go_ret; simp [*]
 ·by_cases h2 : 65535 < n
  ·have e : inZ n = 65535 := (by unfold inZ; rw [if_neg h1, if_pos h2])
   have d1 : decide (n < 0) = false := decide_eq_false h1; have d2 : decide (65535 < n) = true := decide_eq_true h2; have m1 : max n 0 = n := (by omega)
   have m2 : min n 65535 = 65535 := (by omega)
   rw [e]; clear e
   go_enter Tryz.func79, Tryz.ntmps79
   go_wp2; go_ret; simp [*]
  ·have e : ((inZ n : Nat) : Int) = n := (by unfold inZ; rw [if_neg h1, if_neg h2]; omega)
   have d1 : decide (n < 0) = false := decide_eq_false h1; have d2 : decide (65535 < n) = false := decide_eq_false h2; have m1 : max n 0 = n := (by omega)
   have m2 : min n 65535 = n := (by omega)
   rw [e]; clear e
   go_enter Tryz.func79, Tryz.ntmps79
   go_wp2; go_ret; simp [*]
set_option maxRecDepth 100000 in
theorem ribnewG_any (n : Int) (w : World) : Calls Tryz.prog 19 #[.int .i64 n] w fun e w' => ∃ ga gt r, e = .returned (.pointer (some ⟨r, 0, none⟩)) ∧ w.heap.size ≤ ga ∧ ga < gt ∧ gt < r ∧ Blk w' ga 201 #[.pointer none] ∧ Blk w' gt 201 #[.pointer none] ∧ Blk w' r 119 #[.pointer (some ⟨ga, 0, none⟩), .pointer (some ⟨gt, 0, none⟩), .int .i64 (inZ n : Nat), .int .i64 ((0 : Nat) : Int)] ∧ Below w.heap.size w w' := by
 have H := hide newA_any; have HI := hide (ribin_any n); obtain ⟨N, hN⟩ : ∃ N : Nat, inZ n = N := ⟨_, rfl⟩
 rw [hN] at HI ⊢; clear hN
 go_enter Tryz.func19, Tryz.ntmps19
 go_wp2_with fail
 refine (H.out _).mono ?_; rintro e w1 ⟨rfl, hk1, hb1⟩
 go_wp2_with fail
 refine (H.out _).mono ?_; rintro e w2 ⟨rfl, hk2, hb2⟩
 go_wp2_with fail
 refine (HI.out _).mono ?_; rintro e w3 ⟨rfl, rfl⟩; have HK1 := hide (hk1.below hb2 hk1.lt); have HK2 := hide hk2; have HB := hide (hb1.trans (hb2.mono hb1.size)); have h1 := hk1.lt; have h2 := hk2.lt; clear hk1 hk2 hb1 hb2; go_wp2; go_ret; exact ⟨w.heap.size, w1.heap.size, w3.heap.size, rfl, Nat.le_refl _, h1, h2, HK1.out.alloc _, HK2.out.alloc _, Blk.new _ _ _, HB.out.alloc (Nat.le_of_lt (Nat.lt_trans h1 h2)) _⟩
def RQ (O : Nat → Prop) (r m l : Nat) (LA LT : List (Nat × Nat × AT)) (w : World) : Prop := ∃ ga gt Fa Ft ta tt, RSt r ga gt m l Fa Ft ta tt w ∧ trL ta = LA ∧ trL tt = LT ∧ ∀ j, WrB r gt tt j → O j
def OrNew (O : Nat → Prop) (w : World) (j : Nat) : Prop := O j ∨ w.heap.size ≤ j
section
variable {O O' : Nat → Prop} {r m l : Nat} {LA LT : List (Nat × Nat × AT)} {w w' : World}
theorem RQ.below (h : RQ O r m l LA LT w) (hb : Below w.heap.size w w') : RQ O r m l LA LT w' := by
 obtain ⟨ga, gt, Fa, Ft, ta, tt, h1, h2, h3, h4⟩ := h; exact ⟨ga, gt, Fa, Ft, ta, tt, h1.below hb, h2, h3, h4⟩
theorem RQ.more (h : RQ O r m l LA LT w) (hO : ∀ j, O j → O' j) : RQ O' r m l LA LT w := by
 obtain ⟨ga, gt, Fa, Ft, ta, tt, h1, h2, h3, h4⟩ := h; exact ⟨ga, gt, Fa, Ft, ta, tt, h1, h2, h3, fun j hj => hO j (h4 j hj)⟩
theorem RQ.sorted (h : RQ O r m l LA LT w) : LA.Pairwise PLt ∧ LT.Pairwise PLt := by
 obtain ⟨ga, gt, Fa, Ft, ta, tt, h1, rfl, rfl, h4⟩ := h; exact ⟨trL_sorted ta h1.aim.tree.wf, trL_sorted tt h1.told.tree.wf⟩
theorem RQ.nrm (h : RQ O r m l LA LT w) : NrmA LA ∧ NrmA LT := by
 obtain ⟨ga, gt, Fa, Ft, ta, tt, h1, rfl, rfl, h4⟩ := h; exact ⟨h1.na, h1.nt⟩
theorem RQ.pg (h : RQ O r m l LA LT w) : (∀ z ∈ LA, PG z.1 z.2.1 ∧ z.2.2.path.length ≤ 100000) ∧ (∀ z ∈ LT, PG z.1 z.2.1 ∧ z.2.2.path.length ≤ 100000) := by
 obtain ⟨ga, gt, Fa, Ft, ta, tt, h1, rfl, rfl, h4⟩ := h; exact ⟨fun z hz => ⟨trGet_pg ta h1.aim.tree.wf ((trL_mem ta h1.aim.tree.wf).1 hz), (h1.paths.1 z hz).2⟩, fun z hz => ⟨trGet_pg tt h1.told.tree.wf ((trL_mem tt h1.told.tree.wf).1 hz), (h1.paths.2 z hz).2⟩⟩
theorem qnew_any (n : Int) (w : World) : Calls Tryz.prog 19 #[.int .i64 n] w fun e w' => ∃ r, e = .returned (.pointer (some ⟨r, 0, none⟩)) ∧ RQ (fun j => w.heap.size ≤ j) r (inZ n) 0 [] [] w' ∧ Below w.heap.size w w' := by
 refine (ribnewG_any n w).mono ?_; rintro e w' ⟨ga, gt, r, rfl, h1, h2, h3, k1, k2, k3, hb⟩; have hT : ∀ g : Nat, Blk w' g 201 #[.pointer none] → TrT (fun _ => False) w' g (.nil : Tr AT) := fun g hg => ⟨hg, TrA.nil_, by simp, by simp [trB], by simp, by simp [trL], by simp [trCnt]⟩
 refine ⟨r, rfl, ⟨ga, gt, fun _ => False, fun _ => False, .nil, .nil, ⟨k3, hT ga k1, hT gt k2, by simp [NrmA, trL], by simp [NrmA, trL], by simp, by simp, by omega, by omega, by simp [trB], by simp [trB], fun j hj => ?_⟩, rfl, rfl, fun j hj => ?_⟩, hb⟩
 ·rcases hj with rfl | hj
  ·exact ⟨by simp, by omega, by simp [trB]⟩
  ·simp [trB] at hj
 ·rcases hj with rfl | rfl | hj
  ·show w.heap.size ≤ j; omega
  ·show w.heap.size ≤ j; omega
  ·simp [trB] at hj
theorem qaim_any (A : Option Addr) (k c : Nat) (L : List TD) (h : RQ O r m l LA LT w) (hL : LF (fun j => ¬ O j) w A k c L) (hR : ∀ x ∈ L, TdOk x) (hk : k ≤ 20000) :
  Calls Tryz.prog 20 #[.pointer (some ⟨r, 0, none⟩), .slice A k c] w fun e w' => e = .returned (.tuple #[]) ∧ RQ (OrNew O w) r m l (aimL L) LT w' ∧ ChgS O w w' := by
 obtain ⟨ga, gt, Fa, Ft, ta, tt, h1, h2, rfl, h4⟩ := h; have hrO : O r := h4 r (.inl rfl); refine (aimG_any r gt (m : Nat) (l : Nat) _ A k c L w h1.blk (fun w' hc => lst_of_f (hL.chg hc (fun j hj e => hj (e ▸ hrO))).lst) hR hk).mono ?_; rintro e w' ⟨rfl, hk', ⟨t, F, hT, hF, hB, hg, hn⟩, hc⟩; have hl : trL t = aimL L := aim_list hT.tree.wf hR hg; have hrl := h1.blk.lt; have hgl := h1.told.root.lt; have hrF : ¬ F r := fun h => by have := hF r h; omega
 have hc2 : ChgS O w w' := chg_mono hc (fun k hk => .inl (by rw [hk]; exact hrO)); refine ⟨rfl, ⟨w.heap.size, gt, F, Ft, t, tt, ⟨hk', hT, h1.told.chg hc (fun j hj e => h1.rBt (e ▸ hj)) (fun j hj e => h1.rFt (e ▸ hj)) (fun e => h1.rgt e.symm), by rw [hl]; exact aimL_nrm L, h1.nt, hrF, h1.rFt, by omega, h1.rgt, fun h => by have := hB r h; omega, h1.rBt, fun j hj => ?_⟩, hl, rfl, fun j hj => .inl (h4 j hj)⟩, hc2⟩; have hjl : j < w.heap.size := h1.lt j (.inr hj); exact ⟨fun h => by have := hF j h; omega, by omega, fun h => by have := hB j h; omega⟩
theorem qgone_any (h : RQ O r m l LA LT w) :
  Calls Tryz.prog 22 #[.pointer (some ⟨r, 0, none⟩)] w fun e w' => ∃ A n c, e = .returned (.slice A n c) ∧ LstAt 2 pxR w' A n c (keyL (LT.filter (fun z => !(lkL z.1 z.2.1 LA).isSome))) ∧ RQ (OrNew O w) r m l LA (LT.filter (fun z => (lkL z.1 z.2.1 LA).isSome)) w' ∧ ChgS O w w' := by
 obtain ⟨ga, gt, Fa, Ft, ta, tt, h1, rfl, rfl, h4⟩ := h; refine (goneG_any r ga gt m l Fa Ft ta tt w h1).mono ?_; rintro e w' ⟨A, n, c, rfl, hl, tt', h5, h6, h7, h8, h9⟩; rw [notG_list h1.aim.tree.wf] at hl; rw [inG_list h1.aim.tree.wf] at h7; exact ⟨A, n, c, rfl, hl, ⟨ga, gt, Fa, Ft, ta, tt', h5, rfl, h7, fun j hj => .inl (h4 j (h6 j hj))⟩, chg_mono h9 (fun k hk => .inl (h4 k hk))⟩
theorem qhere_any (h : RQ O r m 0 LA LT w) (hn : LT.length + LA.length < 90000) :
  Calls Tryz.prog 23 #[.pointer (some ⟨r, 0, none⟩)] w fun e w' => ∃ A n c, e = .returned (.slice A n c) ∧ LstAt 11 tdR w' A n c ((LA.filter (lackL LT)).map tdZ) ∧ RQ (OrNew O w) r m (if (LA.filter (lackL LT)).length = 0 then 0 else m) LA ((LA.filter (lackL LT)).foldl putZ LT) w' ∧ ((LA.filter (lackL LT)).foldl putZ LT).length ≤ LT.length + LA.length ∧ ChgS O w w' := by
 obtain ⟨ga, gt, Fa, Ft, ta, tt, h1, rfl, rfl, h4⟩ := h; have e1 := lackG_list h1.told.tree.wf h1.na; have e2 : ((trL ta).filter (lackL (trL tt))).map tdN = ((trL ta).filter (lackL (trL tt))).map tdZ := tdN_Z (fun z hz => h1.na z (List.mem_filter.1 hz).1); rw [trL_len, trL_len] at hn; refine (hereG_any r ga gt m Fa Ft ta tt w h1 hn).mono ?_; rintro e w' ⟨A, n, c, rfl, hl, tt', Ft', h5, h6, h7, h8, h9⟩; rw [e1, e2] at hl; rw [e1] at h5 h7; refine ⟨A, n, c, rfl, hl, ⟨ga, gt, Fa, Ft', ta, tt', h5, rfl, h7, fun j hj => (h6 j hj).imp (h4 j) id⟩, ?_, chg_mono h9 (fun k hk => .inl (h4 k hk))⟩; rw [← h7, trL_len, trL_len, trL_len]; exact h8
theorem qhereL_any (h : RQ O r m (l + 1) LA LT w) :
  Calls Tryz.prog 23 #[.pointer (some ⟨r, 0, none⟩)] w fun e w' => e = .returned (.slice none 0 0) ∧ w' = w := by
 obtain ⟨ga, gt, Fa, Ft, ta, tt, h1, rfl, rfl, h4⟩ := h; exact hereL_any r ga gt m l Fa Ft ta tt w h1
theorem qpend_any (h : RQ O r m l LA LT w) (hn : LA.length + LT.length ≤ 90000) :
  Calls Tryz.prog 25 #[.pointer (some ⟨r, 0, none⟩)] w fun e w' => ∃ A n c, e = .returned (.slice A n c) ∧ LstAt 2 pxR w' A n c (sortP (keyL (LA.filter (lackL LT)) ++ keyL (LT.filter (lackL LA)))) ∧ Below w.heap.size w w' := by
 obtain ⟨ga, gt, Fa, Ft, ta, tt, h1, rfl, rfl, h4⟩ := h; rw [← lackG_list h1.told.tree.wf h1.na, ← lackG_list h1.aim.tree.wf h1.nt]; rw [trL_len, trL_len] at hn; exact pendG_any r ga gt m l Fa Ft ta tt w h1 hn
theorem qtold_any (h : RQ O r m l LA LT w) :
  Calls Tryz.prog 30 #[.pointer (some ⟨r, 0, none⟩)] w fun e w' => ∃ A n c, e = .returned (.slice A n c) ∧ LstAt 11 tdR w' A n c (LT.map tdZ) ∧ Below w.heap.size w w' := by
 obtain ⟨ga, gt, Fa, Ft, ta, tt, h1, rfl, rfl, h4⟩ := h; refine (toldG_any r gt tt Ft _ _ _ w h1.blk h1.told).mono ?_; rintro e w' ⟨A, c, xs, rfl, hl, hb⟩; rw [tdN_Z h1.nt] at hl; exact ⟨A, _, c, rfl, hl.lst (by decide), hb⟩
theorem qleft_any (h : RQ O r m l LA LT w) :
  Calls Tryz.prog 27 #[.pointer (some ⟨r, 0, none⟩)] w fun e w' => e = .returned (.int .i64 (l : Nat)) ∧ w' = w := by
 obtain ⟨ga, gt, Fa, Ft, ta, tt, h1, rfl, rfl, h4⟩ := h; exact leftG_any r _ _ _ (l : Nat) w h1.blk
theorem RQ.own (h : RQ O r m l LA LT w) (m' l' : Nat) (hk : ∀ ga gt : Nat, Blk w r 119 #[.pointer (some ⟨ga, 0, none⟩), .pointer (some ⟨gt, 0, none⟩), .int .i64 (m : Nat), .int .i64 (l : Nat)] → Blk w' r 119 #[.pointer (some ⟨ga, 0, none⟩), .pointer (some ⟨gt, 0, none⟩), .int .i64 (m' : Nat), .int .i64 (l' : Nat)]) (hc : ChgS (fun k => k = r) w w') : RQ O r m' l' LA LT w' := by
 obtain ⟨ga, gt, Fa, Ft, ta, tt, h1, rfl, rfl, h4⟩ := h; exact ⟨ga, gt, Fa, Ft, ta, tt, ⟨hk ga gt h1.blk, h1.aim.chg hc (fun j hj e => h1.rBa (e ▸ hj)) (fun j hj e => h1.rFa (e ▸ hj)) (fun e => h1.rga e.symm), h1.told.chg hc (fun j hj e => h1.rBt (e ▸ hj)) (fun j hj e => h1.rFt (e ▸ hj)) (fun e => h1.rgt e.symm), h1.na, h1.nt, h1.rFa, h1.rFt, h1.rga, h1.rgt, h1.rBa, h1.rBt, h1.ap⟩, rfl, rfl, h4⟩
theorem RQ.turns (h : RQ O r m l LA LT w) : O r ∧ ∃ ga gt : Nat, Blk w r 119 #[.pointer (some ⟨ga, 0, none⟩), .pointer (some ⟨gt, 0, none⟩), .int .i64 (m : Nat), .int .i64 (l : Nat)] := by
 obtain ⟨ga, gt, Fa, Ft, ta, tt, h1, rfl, rfl, h4⟩ := h; exact ⟨h4 r (.inl rfl), ga, gt, h1.blk⟩
theorem blk_det {g : Nat} {t t' : TypeId} {cs cs' : Array Value} (h : Blk w g t cs) (h' : Blk w g t' cs') : cs = cs' := by
 unfold Blk at h h'; rw [h] at h'; simp only [Option.some.injEq, Obj.cells.injEq] at h'; exact h'.1
theorem qtick_any (h : RQ O r m l LA LT w) (hl : l ≤ 65535) :
  Calls Tryz.prog 28 #[.pointer (some ⟨r, 0, none⟩)] w fun e w' => e = .returned (.tuple #[]) ∧ RQ O r m (l - 1) LA LT w' ∧ ChgS O w w' := by
 obtain ⟨hO, ga, gt, hk⟩ := h.turns; refine (tickG_any r _ _ _ l w hk hl).mono ?_; rintro e w' ⟨rfl, hk', hc⟩; refine ⟨rfl, h.own m (l - 1) (fun ga' gt' hk2 => ?_) hc, chg_mono hc (fun k hk => .inl (by rw [hk]; exact hO))⟩; have := blk_det hk hk2; simp only [Array.mk.injEq, List.cons.injEq, Value.pointer.injEq, Option.some.injEq, Addr.mk.injEq, and_true] at this; rw [← this.1, ← this.2]; exact hk'
end
end Go.Proofs.YtcinjckajnnhmaaGreat
namespace Go.Proofs.YtcinjckajnnhmaaGreat
open Go.RowKit Go.WideShapes Go.ChangeShapes
def tdQ (w : World) (vs : List Value) (x : TD) : Prop := tdR w vs x ∧ (∃ a : Nat, x.a = (a : Int) ∧ a < 4294967296) ∧ -9223372036854775808 ≤ x.n ∧ x.n ≤ 9223372036854775807
theorem tdqMono : SMono tdQ := fun w w' vs x hb h => ⟨tdMono w w' vs x hb h.1, h.2⟩
structure AC where
  k : Int
  n : Int
  l : List TD
def acR (w : World) (vs : List Value) (x : AC) : Prop := ∃ A n c, vs = [.int .i64 x.k, .int .i64 x.n, .slice A n c] ∧ LstAt 11 tdQ w A n c x.l
end Go.Proofs.YtcinjckajnnhmaaGreat
namespace Go.Proofs.YtcinjckajnnhmaaGreat
open Go.RowKit Go.WideShapes Go.ChangeShapes
attribute [local go_sem] Oper.semAt_some
theorem atok_cut (X : AT) : AtOk (cutA X) := ⟨by have := cutP_num X.path; show numS (cutP X.path) ≤ 10000; omega, by show (X.comms.take 260).length ≤ 10000; rw [List.length_take]; omega⟩
theorem cutP_few (l : List SG) : (cutP l).length ≤ 12 := by unfold cutP; rw [List.length_map, List.length_take]; omega
theorem lstq_of {w : World} {A : Option Addr} {n c : Nat} {l : List TD} (h : LstAt 11 tdQ w A n c l) : LstAt 11 tdR w A n c l := lst_map (fun _ _ hr => hr.1) h
theorem lstq_ok {w : World} {A : Option Addr} {n c : Nat} {l : List TD} (h : LstAt 11 tdQ w A n c l) : ∀ x ∈ (l.take 12).map cutTD, TdOk x ∧ x.at_.path.length ≤ 100000 := fun x hx => by
 obtain ⟨y, hy, rfl⟩ := List.mem_map.1 hx; have hy := List.mem_of_mem_take hy; obtain ⟨k, hk⟩ := List.getElem?_of_mem hy; have hkl := (List.getElem?_eq_some_iff.1 hk).1; obtain ⟨h1, h2, h3, h4⟩ := h; obtain ⟨g, o, _, _, hc⟩ := h4 (by omega); obtain ⟨vs, _, hr, _⟩ := hc k y hk; refine ⟨⟨hr.2.1, hr.2.2.1, hr.2.2.2, atok_cut y.at_⟩, ?_⟩; have := cutP_few y.at_.path; show (cutP y.at_.path).length ≤ 100000; omega
section
variable {O O' : Nat → Prop} {r m l : Nat} {LA LT : List (Nat × Nat × AT)} {w w' : World}
theorem RQ.cap (h : RQ O r m l LA LT w) (hO : ∀ j, O j → j < w.heap.size → O' j) : RQ O' r m l LA LT w := by
 obtain ⟨ga, gt, Fa, Ft, ta, tt, h1, h2, h3, h4⟩ := h; exact ⟨ga, gt, Fa, Ft, ta, tt, h1, h2, h3, fun j hj => hO j (h4 j hj) (h1.lt j hj)⟩
theorem qhere2_any (h : RQ O r m l LA LT w) (hl : l ≤ m) (hn : LT.length + LA.length < 90000) :
  Calls Tryz.prog 23 #[.pointer (some ⟨r, 0, none⟩)] w fun e w' => ∃ A n c l' LT', e = .returned (.slice A n c) ∧ RQ (OrNew O w) r m l' LA LT' w' ∧ l' ≤ m ∧ LT'.length ≤ LT.length + LA.length ∧ ChgS O w w' := by
 cases l with
 | zero =>
  refine (qhere_any h hn).mono ?_; rintro e w' ⟨A, n, c, rfl, _, h1, h2, h3⟩; exact ⟨A, n, c, _, _, rfl, h1, by split <;> omega, h2, h3⟩
 | succ l =>
  refine (qhereL_any h).mono ?_; rintro e w' ⟨rfl, rfl⟩; exact ⟨none, 0, 0, _, _, rfl, h.more (fun j hj => .inl hj), hl, by omega, chg_refl _ _⟩
theorem aimL_len (L : List TD) : (aimL L).length ≤ L.length := by
 suffices h : ∀ (L : List TD) (acc : List (Nat × Nat × AT)), (L.foldl aimPut acc).length ≤ acc.length + L.length from by simpa [aimL] using h L []
 intro L
 induction L with
 | nil => intro acc; simp
 | cons x L ih =>
  intro acc; have h1 := ih (aimPut acc x); have h2 := aimPut_len acc x; rw [List.foldl_cons, List.length_cons]; omega
theorem few_len (l : List TD) : (aimL ((l.take 12).map cutTD)).length ≤ 12 := by
 have := aimL_len ((l.take 12).map cutTD); rw [List.length_map, List.length_take] at this; omega
end
theorem keyL_mem {L : List (Nat × Nat × AT)} {x : Nat × Nat} : x ∈ keyL L ↔ ∃ z ∈ L, (z.1, z.2.1) = x := by unfold keyL; exact List.mem_map
theorem sortP_none {l : List (Nat × Nat)} (hg : ∀ x ∈ l, PG x.1 x.2) : (sortP l).length = 0 ↔ l = [] := by
 constructor
 ·intro h
  cases l with
  | nil => rfl
  | cons x l =>
   have := (sortP_mem hg x).2 List.mem_cons_self; rw [List.eq_nil_of_length_eq_zero h] at this
   cases this
 ·rintro rfl
  cases h : sortP [] with
  | nil => rfl
  | cons x l =>
   have := (sortP_mem (l := []) (by simp) x).1 (by rw [h]; exact List.mem_cons_self)
   cases this
def X00 : AT := ⟨0, 0, [], 0, 0, 0, 0, 0, []⟩
theorem norm_X00 : normA X00 = X00 := by
 have h : ∀ k, K8 k → attB 0 k = false := fun k hk => by rcases k8_cases hk with rfl | rfl | rfl | rfl | rfl | rfl | rfl | rfl <;> rfl
 have h0 : (nmH 0 : Int) = 0 := (by decide)
 unfold normA X00; simp only [h 1 (by unfold K8; omega), h 2 (by unfold K8; omega), h 3 (by unfold K8; omega), h 4 (by unfold K8; omega), h 5 (by unfold K8; omega), h 7 (by unfold K8; omega), h 8 (by unfold K8; omega), h0]
 rfl
theorem aim_X00 : aimL [⟨167772160, 8, X00⟩] = [(167772160, 8, X00)] := by
 have h : goodB 167772160 8 = true := (by decide)
 unfold aimL; rw [List.foldl_cons, List.foldl_nil]; unfold aimPut; rw [norm_X00]; show (if goodB 167772160 8 = true then _ else _) = _; rw [if_pos h]
 rfl
theorem same_X00 : sortP (keyL ([(167772160, 8, X00)].filter (lackL [(167772160, 8, X00)])) ++ keyL ([(167772160, 8, X00)].filter (lackL [(167772160, 8, X00)]))) = [] := by
 rw [settle_same (by simp)]; exact List.eq_nil_of_length_eq_zero ((sortP_none (l := []) (by simp)).2 rfl)
set_option maxRecDepth 100000 in
set_option maxHeartbeats 8000000 in
theorem lives36G_any (w : World) : Calls Tryz.prog 31 #[] w fun e w' => e = .returned (.bool true) ∧ Below w.heap.size w w' := by
  have HN := hide (qnew_any 0 w); have e0 : inZ 0 = 0 := rfl; rw [e0] at HN; have HSm := hide same_X00; clear e0
  go_enter Tryz.func31, Tryz.ntmps31
  go_wp2_with fail
  refine HN.out.mono ?_; rintro e w1 ⟨r, rfl, hq1, hb1⟩; obtain ⟨w2, hw2⟩ : ∃ W, w1.alloc (.cells #[.int .u32 167772160, .int .i64 8] 24) = W := ⟨_, rfl⟩
  have hb2 : Below w1.heap.size w1 w2 := hw2 ▸ blkBelow1 w1 _; have hp2 : Blk w2 w1.heap.size 24 #[.int .u32 167772160, .int .i64 8] := hw2 ▸ Blk.new w1 _ _; obtain ⟨w3, hw3⟩ : ∃ W, w2.alloc (.cells #[.int .u32 167772160, .int .i64 8, .int .i64 0, .int .i64 0, .slice none 0 0, .int .u32 0, .int .u32 0, .int .u32 0, .int .u32 0, .int .u32 0, .slice none 0 0] 71) = W := ⟨_, rfl⟩
  have hb3 : Below w2.heap.size w2 w3 := hw3 ▸ blkBelow1 w2 _; have hl3 : Blk w3 w2.heap.size 71 #[.int .u32 167772160, .int .i64 8, .int .i64 0, .int .i64 0, .slice none 0 0, .int .u32 0, .int .u32 0, .int .u32 0, .int .u32 0, .int .u32 0, .slice none 0 0] := hw3 ▸ Blk.new w2 _ _; have hs1 := hb1.size; have hs2 := hb2.size; have hs3 := hb3.size; have hpl := hp2.lt; have hq3 : RQ (fun j => w.heap.size ≤ j ∧ j < w1.heap.size) r 0 0 [] [] w3 := ((hq1.cap (fun j hj hl => ⟨hj, hl⟩)).below hb2).below hb3; have HQ3 := hide hq3; have HPb3 := hide (hp2.below hb3 hp2.lt); have HB3 := hide (hb1.trans ((hb2.trans (hb3.mono hs2)).mono hb1.size))
  have HAim := hide (qaim_any (some ⟨w2.heap.size, 0, none⟩) 1 1 [⟨167772160, 8, X00⟩] hq3 ⟨⟨rfl, Nat.le_refl _, by unfold maxLen; omega, fun _ => ⟨_, _, rfl, hl3.lt, fun k x hx => by
    have hk0 : k = 0 := by
      have := (List.getElem?_eq_some_iff.1 hx).1; simp at this; exact this
    subst hk0; simp only [List.getElem?_cons_zero, Option.some.injEq] at hx; subst hx; refine ⟨[.int .u32 167772160, .int .i64 8, .int .i64 0, .int .i64 0, .slice none 0 0, .int .u32 0, .int .u32 0, .int .u32 0, .int .u32 0, .int .u32 0, .slice none 0 0], rfl, fun w2 _ => ⟨none, 0, 0, none, 0, 0, rfl, LstAt.none_, rfl, Nat.le_refl _, Nat.zero_le _, by simp [X00], fun h => absurd h (by omega)⟩, fun j v hj => ?_⟩; rw [Nat.zero_mul, Nat.add_zero, Nat.zero_add, hl3.cell j]
    simpa using hj⟩⟩, fun _ a e hO => by cases e; have h := hO.2; simp only at h; omega⟩ (fun x hx => by
      simp only [List.mem_singleton] at hx; subst hx; exact ⟨⟨167772160, rfl, by omega⟩, by decide, by decide, by decide, by decide⟩) (by omega))
  rw [aim_X00] at HAim; have HW2 := hide hw2; have HW3 := hide hw3; have q0 : w2.cell? ⟨w1.heap.size, 0, none⟩ = some (.int .u32 167772160) := hp2.cell 0; have q1 : w2.cell? ⟨w1.heap.size, 1, none⟩ = some (.int .i64 8) := hp2.cell 1; clear hq1 hb1 hw2 hb2 hp2 hw3 hb3 hl3 hq3
  go_upto_region 3 with fail
  rw [HW2.out]
  go_wp2_with fail
  rw [HW3.out]; refine HAim.out.mono ?_; rintro e w4 ⟨rfl, hq4, hc4⟩; have HB4 := hide (HB3.out.trans (chg_to_below hc4 (by omega) (fun k hk => hk.1))); have HPb4 := hide (chg_blk hc4 HPb3.out (fun h => by have := h.2; omega)); have hs4 := hc4.size; have HHe := hide (qhere_any hq4 (by decide)); clear hq4 hc4 q0 q1
  go_wp2_with fail
  refine HHe.out.mono ?_; rintro e w5 ⟨A5, n5, c5, rfl, hl5, hq5, _, hc5⟩; have e5 : [(167772160, 8, X00)].filter (lackL []) = [(167772160, 8, X00)] := rfl; rw [e5] at hl5 hq5; obtain rfl : n5 = 1 := hl5.1.symm; obtain ⟨g3, o3, z, B1, k1, c1, B2, m2, d2, rfl, hg3, hz, _, _, hcs⟩ := TZat hl5 (show 0 < 1 by omega); simp only [List.getElem?_cons_zero, Option.some.injEq] at hz; subst hz; have HE0 : Hid (w5.cell? ⟨g3, o3, none⟩ = some (.int .u32 167772160)) := hide (by have := hcs 0 _ rfl; simpa using this); have HE1 : Hid (w5.cell? ⟨g3, o3 + 1, none⟩ = some (.int .i64 8)) := hide (by have := hcs 1 _ rfl; simpa using this); have HG3 := hide hg3; have hs5 := hc5.size; have HB5 := hide (HB4.out.trans (chg_to_below hc5 (by omega) (fun k hk => hk.elim (fun h => h.1) (fun h => by omega)))); have HPb := hide (chg_blk hc5 HPb4.out (fun h => h.elim (fun h => by have := h.2; omega) (fun h => by omega))); have HQ : Hid (RQ (OrNew (OrNew (fun j => w.heap.size ≤ j ∧ j < w1.heap.size) w3) w4) r 0 0 [(167772160, 8, X00)] [(167772160, 8, X00)] w5) := hide hq5; have hnc5 := hl5.2.1; have hmx5 := hl5.2.2.1; unfold maxLen at hmx5; obtain ⟨pb, hpb⟩ : ∃ b, w1.heap.size = b := ⟨_, rfl⟩
  rw [hpb] at HPb ⊢; clear hl5 hq5 hc5 hcs hg3 e5 HPb3 HPb4
  go_upto_region 5 with fail
  have Hmn := hide (show AllMono [(isV (.slice (some ⟨g3, o3, none⟩) 1 c5)), (isV (.int .i64 1)), (isV (.bool true)), (isV (.bool true)), (isV (.slice (some ⟨g3, o3, none⟩) 1 c5)), (isV (ptv g3 o3)), (isV (ptv g3 o3)), (isV (.agg #[.int .u32 167772160, .int .i64 8])), (isV (.agg #[.int .u32 167772160, .int .i64 8])), (isV (.bool true)), (isV (.bool true)), (isV (.bool true)), (isV (ptv r 0)), (fun v _ => ∃ A c, v = .slice A 1 c), (isV (.int .i64 1)), (isV (.bool true)), (isV (.bool true)), (isV (.bool true)), (isV (ptv r 0)), (fun v _ => ∃ A c, v = .slice A 0 c), (isV (.int .i64 0)), (isV (.bool true)), (isV (.bool true))] from by repeat (first | exact trivial | refine ⟨fun _ _ _ _ h => h, ?_⟩)); refine wp_region_relT 23 _ (by kernel_rfl) (by kernel_rfl) (by kernel_rfl) (by kernel_rfl) (by kernel_rfl) (relMono _ Hmn.out) ⟨?_, ?_, ?_, ?_, ?_, ?_, ?_, ?_, ?_, ?_, ?_, ?_, ?_, ?_, ?_, ?_, ?_, ?_, ?_, ?_, ?_, ?_, ?_, trivial⟩ ?_
  · exact relStep_plain rfl fun Ac w5 hp => pureM (.slice (some ⟨g3, o3, none⟩) 1 c5) 3 (hp.out 3 (by rfl))
  · exact relStep_plain rfl fun Ac w5 hp => pure1 (.int .i64 1) 13 (.slice (some ⟨g3, o3, none⟩) 1 c5) (hp.d 0)
  · exact relStep_plain rfl fun Ac w5 hp => pure1 (.bool true) 14 (.int .i64 1) (hp.d 1)
  · exact relStep_plain rfl fun Ac w5 hp => pureM (.bool true) 15 (hp.d 2)
  · exact rsG 3 true fun Ac w5 hp => pureM (.slice (some ⟨g3, o3, none⟩) 1 c5) 3 (hp.out 3 (by rfl))
  · exact rsG 3 true fun Ac w5 hp => pure1 (ptv g3 o3) 17 (.slice (some ⟨g3, o3, none⟩) 1 c5) (hp.d 4)
  · exact rsG 3 true fun Ac w5 hp => pureM (ptv g3 o3) 18 (hp.d 5)
  · refine rsG 3 true ?_; intro Ac w5 hp; have hb := hp.bel; have e0 : w5.cell? ⟨g3, o3, none⟩ = some (.int .u32 167772160) := (hb.cell HG3.out).trans HE0.out; have e1 : w5.cell? ⟨g3, o3 + 1, none⟩ = some (.int .i64 8) := (hb.cell HG3.out).trans HE1.out; exact pure1 (.agg #[.int .u32 167772160, .int .i64 8]) 19 (ptv g3 o3) (hp.d 6)
  · refine rsG 3 true ?_; intro Ac w5 hp; have hb := hp.bel; have hp5 := HPb.out.below hb HPb.out.lt; have p0 : w5.cell? ⟨pb, 0, none⟩ = some (.int .u32 167772160) := hp5.cell 0; have p1 : w5.cell? ⟨pb, 1, none⟩ = some (.int .i64 8) := hp5.cell 1; exact pure1 (.agg #[.int .u32 167772160, .int .i64 8]) 2 (ptv pb 0) (hp.out 2 (by rfl))
  · exact rsG 3 true fun Ac w5 hp => pure2 (.bool true) 20 (.agg #[.int .u32 167772160, .int .i64 8]) (hp.d 7) 21 (.agg #[.int .u32 167772160, .int .i64 8]) (hp.d 8)
  · exact relStep_plain rfl fun Ac w5 hp => pure2 (.bool true) 16 (.bool true) (hp.d 3) 22 (.bool true) (hp.d 9)
  · exact relStep_plain rfl fun Ac w5 hp => pureM (.bool true) 23 (hp.d 10)
  · exact rsG 11 true fun Ac w5 hp => pureM (ptv r 0) 1 (hp.out 1 (by rfl))
  · refine rsG 11 true ?_; intro Ac w5 hp; have hb := hp.bel; have a25 : Ac.eval (.tmp 25) = .pointer (some ⟨r, 0, none⟩) := hp.d 12; obtain ⟨ρ, hρ, hc, hf, hgl⟩ := evalX Ac; rw [hρ] at a25; refine relCall hρ 30 #[.pointer (some ⟨r, 0, none⟩)] (by simp [go_sem, ↓IntWalk.iteOmega, *]) ?_; refine (qtold_any (HQ.out.below hb)).mono ?_; rintro e w6 ⟨A6, n6, c6, rfl, hl6, hb6⟩; obtain rfl : n6 = 1 := hl6.1.symm; exact ⟨_, rfl, ⟨A6, c6, rfl⟩, hb6⟩
  · refine rsG 11 true ?_; intro Ac w5 hp; obtain ⟨A7, c7, a26⟩ := hp.d 13; change Ac.eval (.tmp 26) = _ at a26; exact relPureX (.int .i64 1) (fun ρ hρ h1 h2 h3 => by rw [hρ] at a26; simp [go_sem, ↓IntWalk.iteOmega, *]) rfl
  · exact rsG 11 true fun Ac w5 hp => pure1 (.bool true) 27 (.int .i64 1) (hp.d 14)
  · exact relStep_plain rfl fun Ac w5 hp => pure2 (.bool true) 24 (.bool true) (hp.d 11) 28 (.bool true) (hp.d 15)
  · exact relStep_plain rfl fun Ac w5 hp => pureM (.bool true) 29 (hp.d 16)
  · exact rsG 17 true fun Ac w5 hp => pureM (ptv r 0) 1 (hp.out 1 (by rfl))
  · refine rsG 17 true ?_; intro Ac w5 hp; have hb := hp.bel; have a31 : Ac.eval (.tmp 31) = .pointer (some ⟨r, 0, none⟩) := hp.d 18; obtain ⟨ρ, hρ, hc, hf, hgl⟩ := evalX Ac; rw [hρ] at a31; refine relCall hρ 25 #[.pointer (some ⟨r, 0, none⟩)] (by simp [go_sem, ↓IntWalk.iteOmega, *]) ?_; refine (qpend_any (HQ.out.below hb) (by decide)).mono ?_; rintro e w6 ⟨A6, n6, c6, rfl, hl6, hb6⟩; obtain rfl : n6 = 0 := (by have h1 := hl6.1; rw [HSm.out] at h1; exact h1.symm)
    exact ⟨_, rfl, ⟨A6, c6, rfl⟩, hb6⟩
  · refine rsG 17 true ?_; intro Ac w5 hp; obtain ⟨A8, c8, a32⟩ := hp.d 19; change Ac.eval (.tmp 32) = _ at a32; exact relPureX (.int .i64 0) (fun ρ hρ h1 h2 h3 => by rw [hρ] at a32; simp [go_sem, ↓IntWalk.iteOmega, *]) rfl
  · exact rsG 17 true fun Ac w5 hp => pure1 (.bool true) 33 (.int .i64 0) (hp.d 20)
  · exact relStep_plain rfl fun Ac w5 hp => pure2 (.bool true) 30 (.bool true) (hp.d 17) 34 (.bool true) (hp.d 21)
  intro u w8 hb7 hall; have e35 : u 22 = .bool true := relAll_at hall (i := 22) (by decide +kernel); clear hall; simp only [List.drop_succ_cons, List.drop_zero, List.take_succ_cons, List.take_zero, putAll, Act.put, List.setIfInBounds_toArray, List.set_cons_zero, List.set_cons_succ, Nat.zero_add, Nat.reduceAdd, e35]; have HB8 := hide (HB5.out.trans (hb7.mono HB5.out.size)); clear hb7; go_wp2; go_ret; exact ⟨rfl, HB8.out⟩
end Go.Proofs.YtcinjckajnnhmaaGreat
namespace Go.Proofs.YtcinjckajnnhmaaGreat
open Go.RowKit Go.WideShapes Go.ChangeShapes
attribute [local go_sem] Oper.semAt_some
set_option maxRecDepth 100000 in
set_option maxHeartbeats 8000000 in
theorem refPrefixes36_any (A : Option Addr) (n c : Nat) (L : List (Nat × Nat × AT)) (w : World) (h : LstAt 11 tdR w A n c (L.map tdZ)) (hn : n ≤ 20000) :
  Calls Tryz.prog 33 #[.slice A n c] w fun e w' => ∃ A' n' c', e = .returned (.slice A' n' c') ∧ w'.ownsRow w.heap.size 24 2 (.slice A' n' c') n' (pxC (keyL L)) ∧ Below w.heap.size w w' := by
 obtain ⟨i0, hi, hz0, hz1, hz2⟩ := info_parts pxInfo; have hln : L.length = n := (by have := h.1; rwa [List.length_map] at this)
 have hnc := h.2.1; have hmx := h.2.2.1; unfold maxLen at hmx; have HL := hide h; have HLn := hide hln; obtain ⟨w0, hw0⟩ : ∃ W, w.alloc (.cells #[] 24) = W := ⟨_, rfl⟩
 have hb0 : Below w.heap.size w w0 := hw0 ▸ blkBelow1 w _; have HO0 : Hid (w0.ownsRow w.heap.size 24 2 (.slice (some ⟨w.heap.size, 0, none⟩) 0 0) 0 []) := hide (hw0 ▸ World.ownsRow_lit w #[] 0 (Nat.le_refl _) (by unfold maxLen; omega) rfl); have HB0 := hide hb0; have HW0 := hide hw0; clear h hln hw0 hb0
 go_enter Tryz.func33, Tryz.ntmps33
 go_wp2; rw [HW0.out]
 go_loopw [3, 4] (fun vo iv wr => ∃ (q : Nat) (A1 : Option Addr) (c1 : Nat), q ≤ n ∧ iv = .int .i64 (q : Nat) ∧ vo = .slice A1 q c1 ∧ wr.ownsRow w.heap.size 24 2 (.slice A1 q c1) q (pxC (keyL (L.take q))) ∧ Below w.heap.size w wr) (fun _ iv _ => n - (intOf iv).toNat)
 case atStart => exact ⟨0, some ⟨w.heap.size, 0, none⟩, 0, Nat.zero_le _, rfl, rfl, HO0.out, HB0.out⟩
 case round =>
  obtain ⟨q, A1, c1, hq, rfl, rfl, hown, hbel⟩ := hrel; have HO := hide hown; have HBe := hide hbel; have hsr := hbel.size; by_cases hlt : q < n
  ·obtain ⟨g, o, z, B1, k1, e1, B2, k2, d2, rfl, hg, hz, _, _, hcs⟩ := TZat (HL.out.below tdMono hbel) hlt; have HTk : Hid (L.take (q + 1) = L.take q ++ [z]) := hide (by rw [List.take_add_one, hz]; rfl); obtain ⟨a, n0, X⟩ := z; have f0 : wr.cell? ⟨g, o + q * 11, none⟩ = some (.int .u32 (a : Int)) := hcs 0 _ rfl; have f1 : wr.cell? ⟨g, o + q * 11 + 1, none⟩ = some (.int .i64 (n0 : Int)) := hcs 1 _ rfl; have q1 : (q : Int) < (n : Int) := (by omega)
   have q0 : (0 : Int) ≤ (q : Int) := (by omega)
   have hwq : IntKind.i64.wrap ((q : Int) + 1) = (q : Int) + 1 := (by rw [IntKind.wrap_i64]; omega)
   clear hown hbel hz hcs
   go_wp2_with (at_builtin; refine wpList_append_any _ rfl (.tmp 12) (.tmp 18) 45 rfl w.heap.size 24 i0 _ 2 16 Tryz.underlying45 hi hz0 hz1 hz2 rfl (by decide) (.slice A1 q c1) q _ rfl (HO.out.alloc _) (wr.heap.size + 1) (some ⟨wr.heap.size, 0, none⟩) 1 1 [.int .u32 (a : Int), .int .i64 (n0 : Int)] rfl (reads_blkN (Blk.new _ _ _) (by simp) rfl rfl) (by simp [Value.oneCell']) (by unfold maxLen; omega) (by omega) (by simp; omega) ?_; intro v' w9 h5 h6 h7; obtain ⟨A4, c4, rfl⟩ := own_slice h5; have HO9 := hide h5; have HB9 := hide ((HBe.out.trans ((Below.refl w.heap.size wr).alloc (by omega) _)).grown h6 (by simp; omega) (fun k hk => own_low_block HO.out k hk)); clear h5 h6 h7)
   go_roundw
   case rel =>
    refine ⟨q + 1, A4, c4, by omega, by go_num, rfl, ?_, HB9.out⟩; have e2 : ∀ K : List (Nat × Nat × AT), pxC (keyL (K ++ [(a, n0, X)])) = pxC (keyL K) ++ [.int .u32 (a : Int), .int .i64 (n0 : Int)] := fun K => by simp [keyL, pxC, List.flatMap_append]
    rw [HTk.out, e2]; exact HO9.out
   case measure => simp [intOf]; omega
  ·obtain rfl : q = n := (by omega)
   have e1 : decide ((q : Int) < (q : Int)) = false := (by simp)
   rw [List.take_of_length_le (by rw [HLn.out]; exact Nat.le_refl _)] at hown; have HO := hide hown; clear hown hbel hlt; go_wp2; go_ret; exact ⟨A1, q, c1, rfl, HO.out, HBe.out⟩
set_option maxRecDepth 100000 in
set_option maxHeartbeats 8000000 in
theorem refSame07_eq (A B : Option Addr) (n c m d : Nat) (K : List (Nat × Nat)) (w : World) (h : LstAt 2 pxR w A n c K) (h' : LstAt 2 pxR w B m d K) :
  Calls Tryz.prog 35 #[.slice A n c, .slice B m d] w (GoodP true w) := by
 obtain rfl : n = m := h.1.symm.trans h'.1; have hnc := h.2.1; have hmx := h.2.2.1; have hnd := h'.2.1; have hmx2 := h'.2.2.1; unfold maxLen at hmx hmx2; have HL1 := hide h; have HL2 := hide h'; clear h h'
 go_enter Tryz.func35, Tryz.ntmps35
 go_wp2
 go_loopw [5] (fun iv wr => ∃ q : Nat, q ≤ n ∧ iv = .int .i64 (q : Nat) ∧ Below w.heap.size w wr) (fun iv _ => n - (intOf iv).toNat)
 case atStart => exact ⟨0, Nat.zero_le _, rfl, Below.refl _ _⟩
 case round =>
  obtain ⟨q, hq, rfl, hbel⟩ := hrel; have HBe := hide hbel; by_cases hlt : q < n
  ·obtain ⟨g, o, a, n0, rfl, hg, hx, f0, f1⟩ := PXat (HL1.out.below pxMono hbel) hlt; obtain ⟨g2, o2, a2, m2, rfl, hg2, hx2, y0, y1⟩ := PXat (HL2.out.below pxMono hbel) hlt; rw [hx] at hx2; simp only [Option.some.injEq, Prod.mk.injEq] at hx2; obtain ⟨rfl, rfl⟩ := hx2; have F0 := hide f0; have F1 := hide f1; have Y0 := hide y0; have Y1 := hide y1; have i1 : (q : Int) < (n : Int) := (by omega)
   have i0 : (0 : Int) ≤ (q : Int) := (by omega)
   have hwi : IntKind.i64.wrap ((q : Int) + 1) = (q : Int) + 1 := (by rw [IntKind.wrap_i64]; omega)
   clear hbel hx f0 f1 y0 y1; go_wp2; have Hmn := hide (show AllMono [(isV (.slice (some ⟨g, o, none⟩) n c)), (isV (.int .i64 (q : Int))), (isV (ptv g (o + q * 2))), (isV (.agg #[.int .u32 (a : Int), .int .i64 (n0 : Int)])), (isV (.slice (some ⟨g2, o2, none⟩) n d)), (isV (.int .i64 (q : Int))), (isV (ptv g2 (o2 + q * 2))), (isV (.agg #[.int .u32 (a : Int), .int .i64 (n0 : Int)])), (isV (.bool false))] from by repeat (first | exact trivial | refine ⟨fun _ _ _ _ h => h, ?_⟩)); refine wp_region_rel _ (by kernel_rfl) (by kernel_rfl) (relMono _ Hmn.out) ⟨?_, ?_, ?_, ?_, ?_, ?_, ?_, ?_, ?_, trivial⟩ ?_
   ·exact relStep_plain rfl fun Ac w5 hp => pureM (.slice (some ⟨g, o, none⟩) n c) 0 (hp.out 0 (by rfl))
   ·exact relStep_plain rfl fun Ac w5 hp => pureM (.int .i64 (q : Int)) 5 (hp.out 5 (by rfl))
   ·exact relStep_plain rfl fun Ac w5 hp => pure2 (ptv g (o + q * 2)) 17 (.slice (some ⟨g, o, none⟩) n c) (hp.d 0) 18 (.int .i64 (q : Int)) (hp.d 1)
   ·refine relStep_plain rfl ?_; intro Ac w5 hp; have hb := hp.bel; have f0 : w5.cell? ⟨g, o + q * 2, none⟩ = some (.int .u32 (a : Int)) := (hb.cell hg).trans F0.out; have f1 : w5.cell? ⟨g, o + q * 2 + 1, none⟩ = some (.int .i64 (n0 : Int)) := (hb.cell hg).trans F1.out; exact pure1 (.agg #[.int .u32 (a : Int), .int .i64 (n0 : Int)]) 19 (ptv g (o + q * 2)) (hp.d 2)
   ·exact relStep_plain rfl fun Ac w5 hp => pureM (.slice (some ⟨g2, o2, none⟩) n d) 1 (hp.out 1 (by rfl))
   ·exact relStep_plain rfl fun Ac w5 hp => pureM (.int .i64 (q : Int)) 5 (hp.out 5 (by rfl))
   ·exact relStep_plain rfl fun Ac w5 hp => pure2 (ptv g2 (o2 + q * 2)) 21 (.slice (some ⟨g2, o2, none⟩) n d) (hp.d 4) 22 (.int .i64 (q : Int)) (hp.d 5)
   ·refine relStep_plain rfl ?_; intro Ac w5 hp; have hb := hp.bel; have y0 : w5.cell? ⟨g2, o2 + q * 2, none⟩ = some (.int .u32 (a : Int)) := (hb.cell hg2).trans Y0.out; have y1 : w5.cell? ⟨g2, o2 + q * 2 + 1, none⟩ = some (.int .i64 (n0 : Int)) := (hb.cell hg2).trans Y1.out; exact pure1 (.agg #[.int .u32 (a : Int), .int .i64 (n0 : Int)]) 23 (ptv g2 (o2 + q * 2)) (hp.d 6)
   ·exact relStep_plain rfl fun Ac w5 hp => pure2 (.bool false) 20 (.agg #[.int .u32 (a : Int), .int .i64 (n0 : Int)]) (hp.d 3) 24 (.agg #[.int .u32 (a : Int), .int .i64 (n0 : Int)]) (hp.d 7)
   intro u w8 hb7 hall; have e25 : u 8 = .bool false := relAll_at hall (i := 8) (by decide +kernel); clear hall; simp only [List.drop_succ_cons, List.drop_zero, List.take_succ_cons, List.take_zero, putAll, Act.put, List.setIfInBounds_toArray, List.set_cons_zero, List.set_cons_succ, Nat.zero_add, Nat.reduceAdd, e25]; have HB8 := hide (HBe.out.trans (hb7.mono HBe.out.size)); clear hb7; go_wp2
   go_roundw
   case rel => exact ⟨q + 1, by omega, by go_num, HB8.out⟩
   case measure => simp [intOf]; omega
  ·obtain rfl : q = n := (by omega)
   have e1 : decide ((q : Int) < (q : Int)) = false := (by simp)
   clear hbel hlt; go_wp2; go_ret; exact ⟨rfl, HBe.out⟩
set_option maxRecDepth 100000 in
theorem refIn36_any (n : Int) (w : World) : Calls Tryz.prog 32 #[.int .i64 n] w fun e w' => e = .returned (.int .i64 (inZ n : Nat)) ∧ w' = w := by
 by_cases h1 : n < 0
 ·have e : inZ n = 0 := (by unfold inZ; rw [if_pos h1])
  rw [e]; clear e
  go_enter Tryz.func32, Tryz.ntmps32
  go_wp2; go_ret; simp [*]
 ·by_cases h2 : 65535 < n
  ·have e : inZ n = 65535 := (by unfold inZ; rw [if_neg h1, if_pos h2])
   have h3 : 0 ≤ n := (by omega)
   rw [e]; clear e
   go_enter Tryz.func32, Tryz.ntmps32
   go_wp2; go_ret; simp [*]
  ·have e : ((inZ n : Nat) : Int) = n := (by unfold inZ; rw [if_neg h1, if_neg h2]; omega)
   have h3 : 0 ≤ n := (by omega)
   have h4 : n ≤ 65535 := (by omega)
   rw [e]; clear e
   go_enter Tryz.func32, Tryz.ntmps32
   go_wp2; go_ret; simp [*]
set_option maxRecDepth 100000 in
set_option maxHeartbeats 8000000 in
theorem setB_any (r : Nat) (v0 v1 : Option Addr) (m l : Nat) (n : Int) (w : World) (hk : Blk w r 119 #[.pointer v0, .pointer v1, .int .i64 (m : Nat), .int .i64 (l : Nat)]) :
  Calls Tryz.prog 39 #[.pointer (some ⟨r, 0, none⟩), .int .i64 n] w fun e w' => e = .returned (.tuple #[]) ∧ Blk w' r 119 #[.pointer v0, .pointer v1, .int .i64 (inZ n : Nat), .int .i64 (min l (inZ n) : Nat)] ∧ ChgS (fun k => k = r) w w' := by
 have HI := hide (ribin_any n); obtain ⟨M, hM⟩ : ∃ N : Nat, inZ n = N := ⟨_, rfl⟩
 obtain ⟨X, hX⟩ : ∃ N : Nat, min l M = N := ⟨_, rfl⟩
 rw [hM] at HI ⊢; rw [hX]; have HMn : Hid (min (l : Int) (M : Int) = (X : Int)) := hide (by rw [← hX]; omega); have HK := hide hk; have zf := fun i => hk.frozen i; have z2 : w.cell? ⟨r, 2, none⟩ = some (.int .i64 (m : Nat)) := hk.cell 2; clear hM hX hk
 go_enter Tryz.func39, Tryz.ntmps39
 go_wp2_with fail
 refine (HI.out _).mono ?_; rintro e w1 ⟨rfl, rfl⟩
 go_upto_region 2 with fail
 obtain ⟨w2, hw2⟩ : ∃ W, w1.setCell ⟨r, 2, none⟩ (.int .i64 (M : Nat)) = W := ⟨_, rfl⟩
 have HR2 : Hid (Blk w2 r 119 #[.pointer v0, .pointer v1, .int .i64 (M : Nat), .int .i64 (l : Nat)]) := hide (hw2 ▸ HK.out.set_ 2 _); have HC2 : Hid (ChgS (fun k => k = r) w1 w2) := hide (hw2 ▸ chg_set (S := fun k => k = r) (p := ⟨r, 2, none⟩) rfl _); rw [hw2]; clear hw2 z2 zf; have Hmn := hide (show AllMono [(isV (ptv r 0)), (isV (ptv r 0)), (isV (ptv r 0)), (isV (ptv r 3)), (isV (.int .i64 (l : Nat))), (isV (ptv r 0)), (isV (ptv r 0)), (isV (ptv r 2)), (isV (.int .i64 (M : Nat))), (isV (.int .i64 (X : Nat))), (isV (ptv r 0)), (isV (ptv r 3))] from by repeat (first | exact trivial | refine ⟨fun _ _ _ _ h => h, ?_⟩)); refine wp_region_relT 12 _ (by kernel_rfl) (by kernel_rfl) (by kernel_rfl) (by kernel_rfl) (by kernel_rfl) (relMono _ Hmn.out) ⟨?_, ?_, ?_, ?_, ?_, ?_, ?_, ?_, ?_, ?_, ?_, ?_, trivial⟩ ?_
 ·exact relStep_plain rfl fun Ac w5 hp => pureM (ptv r 0) 0 (hp.out 0 (by rfl))
 ·exact relStep_plain rfl fun Ac w5 hp => pureM (ptv r 0) 0 (hp.out 0 (by rfl))
 ·exact relStep_plain rfl fun Ac w5 hp => pureM (ptv r 0) 12 (hp.d 1)
 ·exact relStep_plain rfl fun Ac w5 hp => pure1 (ptv r 3) 13 (ptv r 0) (hp.d 2)
 ·refine relStep_plain rfl ?_; intro Ac w5 hp; have hb := hp.bel; have hr5 := HR2.out.below hb HR2.out.lt; have z3 : w5.cell? ⟨r, 3, none⟩ = some (.int .i64 (l : Nat)) := hr5.cell 3; exact pure1 (.int .i64 (l : Nat)) 14 (ptv r 3) (hp.d 3)
 ·exact relStep_plain rfl fun Ac w5 hp => pureM (ptv r 0) 0 (hp.out 0 (by rfl))
 ·exact relStep_plain rfl fun Ac w5 hp => pureM (ptv r 0) 16 (hp.d 5)
 ·exact relStep_plain rfl fun Ac w5 hp => pure1 (ptv r 2) 17 (ptv r 0) (hp.d 6)
 ·refine relStep_plain rfl ?_; intro Ac w5 hp; have hb := hp.bel; have hr5 := HR2.out.below hb HR2.out.lt; have z2 : w5.cell? ⟨r, 2, none⟩ = some (.int .i64 (M : Nat)) := hr5.cell 2; exact pure1 (.int .i64 (M : Nat)) 18 (ptv r 2) (hp.d 7)
 ·refine relStep_plain rfl ?_; intro Ac w5 hp; have hmn := HMn.out; exact pure2 (.int .i64 (X : Nat)) 15 (.int .i64 (l : Nat)) (hp.d 4) 19 (.int .i64 (M : Nat)) (hp.d 8)
 ·exact relStep_plain rfl fun Ac w5 hp => pureM (ptv r 0) 11 (hp.d 0)
 ·exact relStep_plain rfl fun Ac w5 hp => pure1 (ptv r 3) 21 (ptv r 0) (hp.d 10)
 intro u w8 hb7 hall; have e20 : u 9 = .int .i64 (X : Nat) := relAll_at hall (i := 9) (by decide +kernel); have e22 : u 11 = .pointer (some ⟨r, 3, none⟩) := relAll_at hall (i := 11) (by decide +kernel); clear hall; simp only [List.drop_succ_cons, List.drop_zero, List.take_succ_cons, List.take_zero, putAll, Act.put, List.setIfInBounds_toArray, List.set_cons_zero, List.set_cons_succ, Nat.zero_add, Nat.reduceAdd, e20, e22]; have HR8 := hide (HR2.out.below hb7 HR2.out.lt); have HC8 : Hid (ChgS (fun k => k = r) w1 w8) := hide (chg_trans HC2.out (chg_below (S := fun k => k = r) hb7) (fun k h => .inl h)); have y3 : w8.cell? ⟨r, 3, none⟩ = some (.int .i64 (l : Nat)) := HR8.out.cell 3; have yf := fun i => HR8.out.frozen i; obtain ⟨w9, hw9⟩ : ∃ W, w8.setCell ⟨r, 3, none⟩ (.int .i64 (X : Nat)) = W := ⟨_, rfl⟩
 have HR9 : Hid (Blk w9 r 119 #[.pointer v0, .pointer v1, .int .i64 (M : Nat), .int .i64 (X : Nat)]) := hide (hw9 ▸ HR8.out.set_ 3 _); have HC9 : Hid (ChgS (fun k => k = r) w1 w9) := hide (chg_trans HC8.out (hw9 ▸ chg_set (S := fun k => k = r) (p := ⟨r, 3, none⟩) rfl _) (fun k h => .inl h)); have HW9 := hide hw9; clear hw9 hb7; go_wp2; rw [HW9.out]; refine bodyPost_end (results_none rfl _ _ _) rfl ?_; exact ⟨rfl, HR9.out, HC9.out⟩
set_option maxRecDepth 100000 in
set_option maxHeartbeats 8000000 in
theorem clearB_any (r : Nat) (v0 v1 : Option Addr) (m l : Nat) (w : World) (hk : Blk w r 119 #[.pointer v0, .pointer v1, .int .i64 (m : Nat), .int .i64 (l : Nat)]) :
  Calls Tryz.prog 38 #[.pointer (some ⟨r, 0, none⟩)] w fun e w' => e = .returned (.tuple #[]) ∧ Blk w' r 119 #[.pointer v0, .pointer (some ⟨w.heap.size, 0, none⟩), .int .i64 (m : Nat), .int .i64 ((0 : Nat) : Int)] ∧ Blk w' w.heap.size 201 #[.pointer none] ∧ ChgS (fun k => k = r) w w' := by
 have HN := hide newA_any; have HK := hide hk; have hrl := hk.lt; clear hk
 go_enter Tryz.func38, Tryz.ntmps38
 go_wp2_with fail
 refine (HN.out _).mono ?_; rintro e w1 ⟨rfl, hk1, hb1⟩; have hr1 := HK.out.below hb1 hrl; have z1 : w1.cell? ⟨r, 1, none⟩ = some (.pointer v1) := hr1.cell 1; have z3 : w1.cell? ⟨r, 3, none⟩ = some (.int .i64 (l : Nat)) := hr1.cell 3; have zf := fun i => hr1.frozen i; obtain ⟨w2, hw2⟩ : ∃ W, (w1.setCell ⟨r, 1, none⟩ (.pointer (some ⟨w.heap.size, 0, none⟩))).setCell ⟨r, 3, none⟩ (.int .i64 0) = W := ⟨_, rfl⟩
 have HR2 : Hid (Blk w2 r 119 #[.pointer v0, .pointer (some ⟨w.heap.size, 0, none⟩), .int .i64 (m : Nat), .int .i64 ((0 : Nat) : Int)]) := hide (hw2 ▸ (hr1.set_ 1 _).set_ 3 _); have HG2 : Hid (Blk w2 w.heap.size 201 #[.pointer none]) := hide (hw2 ▸ (hk1.far (p := ⟨r, 1, none⟩) (by show w.heap.size ≠ r; omega) _).far (p := ⟨r, 3, none⟩) (by show w.heap.size ≠ r; omega) _); have HC2 : Hid (ChgS (fun k => k = r) w w2) := hide (hw2 ▸ chg_trans (chg_trans (chg_below (S := fun k => k = r) hb1) (chg_set (S := fun k => k = r) (p := ⟨r, 1, none⟩) rfl _) (fun k h => .inl h)) (chg_set (S := fun k => k = r) (p := ⟨r, 3, none⟩) rfl _) (fun k h => .inl h)); have HW2 := hide hw2; clear hw2 hk1 hb1 hr1; go_wp2
 first
  | rw [HW2.out]
  | (rw [World.setCell_comm]; rw [HW2.out])
 refine bodyPost_end (results_none rfl _ _ _) rfl ?_; exact ⟨rfl, HR2.out, HG2.out, HC2.out⟩
section
variable {O O' : Nat → Prop} {r m l : Nat} {LA LT : List (Nat × Nat × AT)} {w w' : World}
theorem qset_any (n : Int) (h : RQ O r m l LA LT w) :
  Calls Tryz.prog 39 #[.pointer (some ⟨r, 0, none⟩), .int .i64 n] w fun e w' => e = .returned (.tuple #[]) ∧ RQ O r (inZ n) (min l (inZ n)) LA LT w' ∧ ChgS O w w' := by
 obtain ⟨hO, ga, gt, hk⟩ := h.turns; refine (setB_any r _ _ m l n w hk).mono ?_; rintro e w' ⟨rfl, hk', hc⟩; refine ⟨rfl, h.own (inZ n) (min l (inZ n)) (fun ga' gt' hk2 => ?_) hc, chg_mono hc (fun k hk => .inl (by rw [hk]; exact hO))⟩; have := blk_det hk hk2; simp only [Array.mk.injEq, List.cons.injEq, Value.pointer.injEq, Option.some.injEq, Addr.mk.injEq, and_true] at this; rw [← this.1, ← this.2]; exact hk'
theorem qclear_any (h : RQ O r m l LA LT w) :
  Calls Tryz.prog 38 #[.pointer (some ⟨r, 0, none⟩)] w fun e w' => e = .returned (.tuple #[]) ∧ RQ (OrNew O w) r m 0 LA [] w' ∧ ChgS O w w' := by
 obtain ⟨ga, gt, Fa, Ft, ta, tt, h1, h2, h3, h4⟩ := h; refine (clearB_any r _ _ m l w h1.blk).mono ?_; rintro e w' ⟨rfl, hk', hg, hc⟩; have hrl := h1.blk.lt; refine ⟨rfl, ⟨ga, w.heap.size, Fa, fun _ => False, ta, .nil, ⟨hk', h1.aim.chg hc (fun j hj e => h1.rBa (e ▸ hj)) (fun j hj e => h1.rFa (e ▸ hj)) (fun e => h1.rga e.symm), ⟨hg, TrA.nil_, by simp, by simp [trB], by simp, by simp [trL], by simp [trCnt]⟩, h1.na, by simp [NrmA, trL], h1.rFa, by simp, h1.rga, by omega, h1.rBa, by simp [trB], fun j hj => ?_⟩, h2, rfl, fun j hj => ?_⟩, chg_mono hc (fun k hk => .inl (by rw [hk]; exact h4 r (.inl rfl)))⟩
 ·rcases hj with rfl | hj
  ·exact ⟨fun h => by have := h1.aim.low _ h; omega, fun e => by have := h1.aim.root.lt; omega, fun h => by have := h1.aim.tree.mem.lt _ h; omega⟩
  ·simp [trB] at hj
 ·rcases hj with rfl | rfl | hj
  ·exact .inl (h4 _ (.inl rfl))
  ·exact .inr (Nat.le_refl _)
  ·simp [trB] at hj
end
end Go.Proofs.YtcinjckajnnhmaaGreat
namespace Go.Proofs.YtcinjckajnnhmaaGreat
open Go.RowKit Go.WideShapes Go.ChangeShapes
attribute [local go_sem] Oper.semAt_some
abbrev Sl := Option Addr × Nat × Nat
abbrev slV (s : Sl) : Value := .slice s.1 s.2.1 s.2.2
abbrev LFs (F : Nat → Prop) (w : World) (s : Sl) (L : List (Nat × Nat × AT)) : Prop := LF F w s.1 s.2.1 s.2.2 (L.map tdZ)
def PlS (w : World) (r b : Nat) (w1 : World) (lf tm : Nat) (RA RT LA LT LW : List (Nat × Nat × AT)) (sa sw sx : Sl) : Prop :=
  ∃ O FA : Nat → Prop, RQ O r tm lf RA RT w1 ∧ LFs FA w1 sa LA ∧ LFs FA w1 sw LT ∧ LFs FA w1 sx LW ∧ (∀ j, O j → w.heap.size ≤ j ∧ j < b) ∧ b ≤ w1.heap.size ∧ (∀ j, FA j → j < w1.heap.size ∧ ¬ O j) ∧ Below w.heap.size w w1 ∧ w.heap.size ≤ b
section
variable {w w1 w2 : World} {r b lf tm : Nat} {RA RT LA LT LW L : List (Nat × Nat × AT)} {sa sw sx : Sl}
theorem PlS.below (h : PlS w r b w1 lf tm RA RT LA LT LW sa sw sx) (hb : Below w1.heap.size w1 w2) : PlS w r b w2 lf tm RA RT LA LT LW sa sw sx := by
 obtain ⟨O, FA, h1, h2, h3, h4, h5, h6, h7, h8, h9⟩ := h; exact ⟨O, FA, h1.below hb, LF.below h2 hb, LF.below h3 hb, LF.below h4 hb, h5, Nat.le_trans h6 hb.size, fun j hj => ⟨Nat.lt_of_lt_of_le (h7 j hj).1 hb.size, (h7 j hj).2⟩, h8.trans (hb.mono h8.size), h9⟩
theorem PlS.bel (h : PlS w r b w1 lf tm RA RT LA LT LW sa sw sx) : Below w.heap.size w w1 := by
 obtain ⟨O, FA, h1, h2, h3, h4, h5, h6, h7, h8, h9⟩ := h; exact h8
theorem PlS.le (h : PlS w r b w1 lf tm RA RT LA LT LW sa sw sx) : b ≤ w1.heap.size := by
 obtain ⟨O, FA, h1, h2, h3, h4, h5, h6, h7, h8, h9⟩ := h; exact h6
theorem PlS.rq (h : PlS w r b w1 lf tm RA RT LA LT LW sa sw sx) : ∃ O, RQ O r tm lf RA RT w1 := by
 obtain ⟨O, FA, h1, h2, h3, h4, h5, h6, h7, h8, h9⟩ := h; exact ⟨O, h1⟩
theorem PlS.lsts (h : PlS w r b w1 lf tm RA RT LA LT LW sa sw sx) : LstAt 11 tdR w1 sa.1 sa.2.1 sa.2.2 (LA.map tdZ) ∧ LstAt 11 tdR w1 sw.1 sw.2.1 sw.2.2 (LT.map tdZ) ∧ LstAt 11 tdR w1 sx.1 sx.2.1 sx.2.2 (LW.map tdZ) := by
 obtain ⟨O, FA, h1, h2, h3, h4, h5, h6, h7, h8, h9⟩ := h; exact ⟨lst_of_f h2.lst, lst_of_f h3.lst, lst_of_f h4.lst⟩
def NewL (w1 w2 : World) (s : Sl) (F : Nat → Prop) (L : List (Nat × Nat × AT)) : Prop := ∃ xs, w2.ownsRow w1.heap.size 71 11 (slV s) s.2.1 xs ∧ Chunks 11 (tdF F) w1 xs (L.map tdZ) ∧ Below w1.heap.size w1 w2
theorem newl_lf {F : Nat → Prop} {s : Sl} (h : NewL w1 w2 s F L) (hF : ∀ j, F j → j < w1.heap.size) : LFs (fun j => F j ∨ (w1.heap.size ≤ j ∧ j < w2.heap.size)) w2 s L := by
 obtain ⟨xs, h1, h2, h3⟩ := h; exact LF.of_own h1 h2 hF h3
theorem PlS.opn (h : PlS w r b w1 lf tm RA RT LA LT LW sa sw sx) : ∃ FA : Nat → Prop, LFs FA w1 sa LA ∧ LFs FA w1 sw LT ∧ LFs FA w1 sx LW ∧ (∀ j, FA j → j < w1.heap.size) ∧
  (∀ w2 s L, NewL w1 w2 s FA L → PlS w r b w2 lf tm RA RT L LT LW s sw sx ∧ PlS w r b w2 lf tm RA RT LA L LW sa s sx ∧ PlS w r b w2 lf tm RA RT LA LT L sa sw s) := by
 obtain ⟨O, FA, h1, h2, h3, h4, h5, h6, h7, h8, h9⟩ := h; refine ⟨FA, h2, h3, h4, fun j hj => (h7 j hj).1, fun w2 s L hn => ?_⟩; have hl := newl_lf hn (fun j hj => (h7 j hj).1); obtain ⟨xs, _, _, hb⟩ := hn; have hG : ∀ j, (FA j ∨ (w1.heap.size ≤ j ∧ j < w2.heap.size)) → j < w2.heap.size ∧ ¬ O j := fun j hj => hj.elim (fun h => ⟨Nat.lt_of_lt_of_le (h7 j h).1 hb.size, (h7 j h).2⟩) (fun h => ⟨h.2, fun ho => by have := (h5 j ho).2; omega⟩); have e2 := (LF.below h2 hb).more (F' := fun j => FA j ∨ (w1.heap.size ≤ j ∧ j < w2.heap.size)) (fun j hj => .inl hj); have e3 := (LF.below h3 hb).more (F' := fun j => FA j ∨ (w1.heap.size ≤ j ∧ j < w2.heap.size)) (fun j hj => .inl hj); have e4 := (LF.below h4 hb).more (F' := fun j => FA j ∨ (w1.heap.size ≤ j ∧ j < w2.heap.size)) (fun j hj => .inl hj); have hq := h1.below hb; have h6' := Nat.le_trans h6 hb.size; have h8' := h8.trans (hb.mono h8.size); exact ⟨⟨O, _, hq, hl, e3, e4, h5, h6', hG, h8', h9⟩, ⟨O, _, hq, e2, hl, e4, h5, h6', hG, h8', h9⟩, ⟨O, _, hq, e2, e3, hl, h5, h6', hG, h8', h9⟩⟩
theorem PlS.rib (h : PlS w r b w1 lf tm RA RT LA LT LW sa sw sx) : ∃ O : Nat → Prop, RQ O r tm lf RA RT w1 ∧ (∀ j, O j → j < b) ∧
  ∀ w2 lf' tm' RA' RT', RQ (OrNew O w1) r tm' lf' RA' RT' w2 → ChgS O w1 w2 → PlS w r w2.heap.size w2 lf' tm' RA' RT' LA LT LW sa sw sx ∧ ChgS (fun j => j < b) w1 w2 := by
 obtain ⟨O, FA, h1, h2, h3, h4, h5, h6, h7, h8, h9⟩ := h; refine ⟨O, h1, fun j hj => (h5 j hj).2, fun w2 lf' tm' RA' RT' hq hc => ⟨⟨fun j => (O j ∨ w1.heap.size ≤ j) ∧ j < w2.heap.size, FA, hq.cap (fun j hj hl => ⟨hj, hl⟩), LF.chg h2 hc (fun j hj => (h7 j hj).2), LF.chg h3 hc (fun j hj => (h7 j hj).2), LF.chg h4 hc (fun j hj => (h7 j hj).2), fun j hj => ⟨hj.1.elim (fun h => (h5 j h).1) (fun h => by omega), hj.2⟩, Nat.le_refl _, fun j hj => ⟨Nat.lt_of_lt_of_le (h7 j hj).1 hc.size, fun h => h.1.elim (h7 j hj).2 (fun h => by have := (h7 j hj).1; omega)⟩, h8.trans (chg_to_below hc h8.size (fun k hk => (h5 k hk).1)), Nat.le_trans h9 (Nat.le_trans h6 hc.size)⟩, chg_mono hc (fun k hk => .inl (h5 k hk).2)⟩⟩
theorem PlS.wasNil (h : PlS w r b w1 lf tm RA RT LA LT LW sa sw sx) (A : Option Addr) : PlS w r b w1 lf tm RA RT LA [] LW sa (A, 0, 0) sx := by
 obtain ⟨O, FA, h1, h2, h3, h4, h5, h6, h7, h8, h9⟩ := h; exact ⟨O, FA, h1, h2, ⟨⟨rfl, Nat.le_refl _, Nat.zero_le _, fun h => absurd h (by simp)⟩, fun h => absurd h (by simp)⟩, h4, h5, h6, h7, h8, h9⟩
theorem PlS.wantNil (h : PlS w r b w1 lf tm RA RT LA LT LW sa sw sx) (A : Option Addr) : PlS w r b w1 lf tm RA RT LA LT [] sa sw (A, 0, 0) := by
 obtain ⟨O, FA, h1, h2, h3, h4, h5, h6, h7, h8, h9⟩ := h; exact ⟨O, FA, h1, h2, h3, ⟨⟨rfl, Nat.le_refl _, Nat.zero_le _, fun h => absurd h (by simp)⟩, fun h => absurd h (by simp)⟩, h5, h6, h7, h8, h9⟩
theorem pl_keep (h : PlS w r b w1 lf tm RA RT LA LT LW sa sw sx) (hn : sw.2.1 ≤ 20000) : Calls Tryz.prog 34 #[slV sw, slV sa, .bool true] w1 fun e w2 => ∃ s : Sl, e = .returned (slV s) ∧ PlS w r b w2 lf tm RA RT LA (LT.filter (fun z => (lkL z.1 z.2.1 LA).isSome)) LW sa s sx := by
 obtain ⟨FA, h2, h3, h4, hF, hN⟩ := h.opn; refine (refKeep36_any FA sw.1 sa.1 sw.2.1 sw.2.2 sa.2.1 sa.2.2 LT LA true w1 h3.lst (lst_of_f h2.lst) hn).mono ?_; rintro e w2 ⟨A, n, c, xs, rfl, ho, hc, hb⟩; have e1 : (fun z : Nat × Nat × AT => (lkL z.1 z.2.1 LA).isSome == true) = (fun z => (lkL z.1 z.2.1 LA).isSome) := (by funext z; simp)
 rw [e1] at hc; exact ⟨(A, n, c), rfl, (hN w2 (A, n, c) _ ⟨xs, ho, hc, hb⟩).2.1⟩
theorem pl_gone (h : PlS w r b w1 lf tm RA RT LA LT LW sa sw sx) (hn : sw.2.1 ≤ 20000) : Calls Tryz.prog 34 #[slV sw, slV sa, .bool false] w1 fun e w2 => ∃ s : Sl, e = .returned (slV s) ∧ LstAt 11 tdR w2 s.1 s.2.1 s.2.2 ((LT.filter (fun z => !(lkL z.1 z.2.1 LA).isSome)).map tdZ) ∧ Below w1.heap.size w1 w2 := by
 obtain ⟨FA, h2, h3, h4, hF, hN⟩ := h.opn; refine (refKeep36_any FA sw.1 sa.1 sw.2.1 sw.2.2 sa.2.1 sa.2.2 LT LA false w1 h3.lst (lst_of_f h2.lst) hn).mono ?_; rintro e w2 ⟨A, n, c, xs, rfl, ho, hc, hb⟩; have e1 : (fun z : Nat × Nat × AT => (lkL z.1 z.2.1 LA).isSome == false) = (fun z => !(lkL z.1 z.2.1 LA).isSome) := (by funext z; simp)
 rw [e1] at hc; exact ⟨(A, n, c), rfl, lst_of_f (LF.of_own ho hc hF hb).lst, hb⟩
theorem pl_want (h : PlS w r b w1 lf tm RA RT LA LT LW sa sw sx) (hn : sa.2.1 ≤ 20000) (hpl : ∀ z ∈ LA, z.2.2.path.length ≤ 100000) : Calls Tryz.prog 36 #[slV sa, slV sw] w1 fun e w2 => ∃ s : Sl, e = .returned (slV s) ∧ PlS w r b w2 lf tm RA RT LA LT (LA.filter (lackL LT)) sa sw s ∧ LstAt 11 tdR w2 s.1 s.2.1 s.2.2 ((LA.filter (lackL LT)).map tdZ) ∧ Below w1.heap.size w1 w2 := by
 obtain ⟨FA, h2, h3, h4, hF, hN⟩ := h.opn; refine (refLacks36_any FA sa.1 sw.1 sa.2.1 sa.2.2 sw.2.1 sw.2.2 LA LT w1 h2.lst (lst_of_f h3.lst) hpl hn).mono ?_; rintro e w2 ⟨A, n, c, xs, rfl, ho, hc, hb⟩; exact ⟨(A, n, c), rfl, (hN w2 (A, n, c) _ ⟨xs, ho, hc, hb⟩).2.2, lst_of_f (LF.of_own ho hc hF hb).lst, hb⟩
theorem pl_lacks2 (h : PlS w r b w1 lf tm RA RT LA LT LW sa sw sx) (hn : sw.2.1 ≤ 20000) (hpl : ∀ z ∈ LT, z.2.2.path.length ≤ 100000) : Calls Tryz.prog 36 #[slV sw, slV sa] w1 fun e w2 => ∃ s : Sl, e = .returned (slV s) ∧ LstAt 11 tdR w2 s.1 s.2.1 s.2.2 ((LT.filter (lackL LA)).map tdZ) ∧ Below w1.heap.size w1 w2 := by
 obtain ⟨FA, h2, h3, h4, hF, hN⟩ := h.opn; refine (refLacks36_any FA sw.1 sa.1 sw.2.1 sw.2.2 sa.2.1 sa.2.2 LT LA w1 h3.lst (lst_of_f h2.lst) hpl hn).mono ?_; rintro e w2 ⟨A, n, c, xs, rfl, ho, hc, hb⟩; exact ⟨(A, n, c), rfl, lst_of_f (LF.of_own ho hc hF hb).lst, hb⟩
theorem pl_put (h : PlS w r b w1 lf tm RA RT LA LT LW sa sw sx) {k : Nat} (hk : k < sx.2.1) (hs : LT.Pairwise PLt) (hpg : ∀ z ∈ LT, z.1 < 4294967296) (hpw : ∀ z ∈ LW, z.1 < 4294967296) (hn : sw.2.1 ≤ 20000) : ∃ (g o : Nat) (z : Nat × Nat × AT) (B1 : Option Addr) (k1 c1 : Nat) (B2 : Option Addr) (m2 d2 : Nat), sx.1 = some ⟨g, o, none⟩ ∧ LW[k]? = some z ∧ (∀ (j : Nat) (v : Value), [.int .u32 (z.1 : Int), .int .i64 (z.2.1 : Int), .int .i64 z.2.2.has, .int .i64 z.2.2.org, .slice B1 k1 c1, .int .u32 z.2.2.hop, .int .u32 z.2.2.med, .int .u32 z.2.2.pref, .int .u32 z.2.2.aas, .int .u32 z.2.2.aid, .slice B2 m2 d2][j]? = some v → w1.cell? ⟨g, o + k * 11 + j, none⟩ = some v) ∧
  Calls Tryz.prog 37 #[slV sw, .agg #[.int .u32 (z.1 : Int), .int .i64 (z.2.1 : Int), .int .i64 z.2.2.has, .int .i64 z.2.2.org, .slice B1 k1 c1, .int .u32 z.2.2.hop, .int .u32 z.2.2.med, .int .u32 z.2.2.pref, .int .u32 z.2.2.aas, .int .u32 z.2.2.aid, .slice B2 m2 d2]] w1 fun e w2 => ∃ s : Sl, e = .returned (slV s) ∧ PlS w r b w2 lf tm RA RT LA (putZ LT z) LW sa s sx := by
 obtain ⟨FA, h2, h3, h4, hF, hN⟩ := h.opn; obtain ⟨g, o, z, B1, k1, c1, B2, m2, d2, e, hg, hz, hf, _, _, hcs⟩ := TFat h4.lst hk; refine ⟨g, o, z, B1, k1, c1, B2, m2, d2, e, hz, hcs, ?_⟩; refine (refPut36_any FA sw.1 sw.2.1 sw.2.2 LT z.1 z.2.1 z.2.2 B1 k1 c1 B2 m2 d2 w1 h3.lst hf hs hpg (hpw z (List.mem_of_getElem? hz)) hn).mono ?_; rintro e w2 ⟨A, n, c, xs, rfl, ho, hc, hb⟩; exact ⟨(A, n, c), rfl, (hN w2 (A, n, c) _ ⟨xs, ho, hc, hb⟩).2.1⟩
theorem PlS.newAim (h : PlS w r b w1 lf tm RA RT LA LT LW sa sw sx) {s : Sl} (hl : LF (fun j => w1.heap.size ≤ j ∧ j < w2.heap.size) w2 s.1 s.2.1 s.2.2 (L.map tdZ)) (hb : Below w1.heap.size w1 w2) : PlS w r b w2 lf tm RA RT L LT LW s sw sx := by
 obtain ⟨O, FA, h1, h2, h3, h4, h5, h6, h7, h8, h9⟩ := h; refine ⟨O, fun j => FA j ∨ (w1.heap.size ≤ j ∧ j < w2.heap.size), h1.below hb, hl.more (fun j hj => .inr hj), (LF.below h3 hb).more (fun j hj => .inl hj), (LF.below h4 hb).more (fun j hj => .inl hj), h5, Nat.le_trans h6 hb.size, fun j hj => hj.elim (fun h => ⟨Nat.lt_of_lt_of_le (h7 j h).1 hb.size, (h7 j h).2⟩) (fun h => ⟨h.2, fun ho => by have := (h5 j ho).2; omega⟩), h8.trans (hb.mono h8.size), h9⟩
theorem pl_Aim (h : PlS w r b w1 lf tm RA RT LA LT LW sa sw sx) {A : Option Addr} {k c : Nat} {D : List TD} {xs : List Value} (hb : Below w1.heap.size w1 w2) (hl : LOw 11 71 tdR w2 w1.heap.size w1.heap.size A k c D xs) (hR : ∀ x ∈ D, TdOk x) (hk : k ≤ 20000) :
  Calls Tryz.prog 20 #[.pointer (some ⟨r, 0, none⟩), .slice A k c] w2 fun e w3 => e = .returned (.tuple #[]) ∧ PlS w r w3.heap.size w3 lf tm (aimL D) RT LA LT LW sa sw sx ∧ ChgS (fun j => j < b) w2 w3 := by
 obtain ⟨O, hq, hO, hR2⟩ := (h.below hb).rib; have hle := h.le; refine (qaim_any A k c D hq ((LF.of_low hl).more (fun j hj ho => by have := hO j ho; omega)) hR hk).mono ?_; rintro e w3 ⟨rfl, hq3, hc3⟩; exact ⟨rfl, hR2 w3 lf tm _ _ hq3 hc3⟩
theorem pl_Gone (h : PlS w r b w1 lf tm RA RT LA LT LW sa sw sx) : Calls Tryz.prog 22 #[.pointer (some ⟨r, 0, none⟩)] w1 fun e w2 => ∃ s : Sl, e = .returned (slV s) ∧ LstAt 2 pxR w2 s.1 s.2.1 s.2.2 (keyL (RT.filter (fun z => !(lkL z.1 z.2.1 RA).isSome))) ∧ PlS w r w2.heap.size w2 lf tm RA (RT.filter (fun z => (lkL z.1 z.2.1 RA).isSome)) LA LT LW sa sw sx ∧ ChgS (fun j => j < b) w1 w2 := by
 obtain ⟨O, hq, hO, hR2⟩ := h.rib; refine (qgone_any hq).mono ?_; rintro e w2 ⟨A, n, c, rfl, hl, hq2, hc2⟩; obtain ⟨h3, h4⟩ := hR2 w2 lf tm _ _ hq2 hc2; exact ⟨(A, n, c), rfl, hl, h3, h4⟩
theorem pl_Here (h : PlS w r b w1 0 tm RA RT LA LT LW sa sw sx) (hn : RT.length + RA.length < 90000) : Calls Tryz.prog 23 #[.pointer (some ⟨r, 0, none⟩)] w1 fun e w2 => ∃ s : Sl, e = .returned (slV s) ∧ LstAt 11 tdR w2 s.1 s.2.1 s.2.2 ((RA.filter (lackL RT)).map tdZ) ∧ PlS w r w2.heap.size w2 (if (RA.filter (lackL RT)).length = 0 then 0 else tm) tm RA ((RA.filter (lackL RT)).foldl putZ RT) LA LT LW sa sw sx := by
 obtain ⟨O, hq, hO, hR2⟩ := h.rib; refine (qhere_any hq hn).mono ?_; rintro e w2 ⟨A, n, c, rfl, hl, hq2, _, hc2⟩; exact ⟨(A, n, c), rfl, hl, (hR2 w2 _ tm _ _ hq2 hc2).1⟩
theorem pl_HereL (h : PlS w r b w1 (lf + 1) tm RA RT LA LT LW sa sw sx) : Calls Tryz.prog 23 #[.pointer (some ⟨r, 0, none⟩)] w1 fun e w2 => e = .returned (.slice none 0 0) ∧ w2 = w1 := by
 obtain ⟨O, hq, hO, hR2⟩ := h.rib; exact qhereL_any hq
theorem pl_Tick (h : PlS w r b w1 lf tm RA RT LA LT LW sa sw sx) (hl : lf ≤ 65535) : Calls Tryz.prog 28 #[.pointer (some ⟨r, 0, none⟩)] w1 fun e w2 => e = .returned (.tuple #[]) ∧ PlS w r w2.heap.size w2 (lf - 1) tm RA RT LA LT LW sa sw sx := by
 obtain ⟨O, hq, hO, hR2⟩ := h.rib; refine (qtick_any hq hl).mono ?_; rintro e w2 ⟨rfl, hq2, hc2⟩; exact ⟨rfl, (hR2 w2 _ tm _ _ (hq2.more (fun j hj => .inl hj)) hc2).1⟩
theorem pl_Clear (h : PlS w r b w1 lf tm RA RT LA LT LW sa sw sx) : Calls Tryz.prog 38 #[.pointer (some ⟨r, 0, none⟩)] w1 fun e w2 => e = .returned (.tuple #[]) ∧ PlS w r w2.heap.size w2 0 tm RA [] LA LT LW sa sw sx := by
 obtain ⟨O, hq, hO, hR2⟩ := h.rib; refine (qclear_any hq).mono ?_; rintro e w2 ⟨rfl, hq2, hc2⟩; exact ⟨rfl, (hR2 w2 _ tm _ _ hq2 hc2).1⟩
theorem pl_Set (n : Int) (h : PlS w r b w1 lf tm RA RT LA LT LW sa sw sx) : Calls Tryz.prog 39 #[.pointer (some ⟨r, 0, none⟩), .int .i64 n] w1 fun e w2 => e = .returned (.tuple #[]) ∧ PlS w r w2.heap.size w2 (min lf (inZ n)) (inZ n) RA RT LA LT LW sa sw sx ∧ ChgS (fun j => j < b) w1 w2 := by
 obtain ⟨O, hq, hO, hR2⟩ := h.rib; refine (qset_any n hq).mono ?_; rintro e w2 ⟨rfl, hq2, hc2⟩; exact ⟨rfl, hR2 w2 _ _ _ _ (hq2.more (fun j hj => .inl hj)) hc2⟩
end
end Go.Proofs.YtcinjckajnnhmaaGreat
namespace Go.Proofs.YtcinjckajnnhmaaGreat
open Go.RowKit Go.WideShapes Go.ChangeShapes
attribute [local go_sem] Oper.semAt_some
theorem foldZ_len : ∀ (W L : List (Nat × Nat × AT)), (W.foldl putZ L).length ≤ L.length + W.length
 | [], L => by simp
 | z :: W, L => by
  have h1 := foldZ_len W (putZ L z)
  have h2 : ∀ (a n : Nat) (y : AT) (L : List (Nat × Nat × AT)), (putL a n y L).length ≤ L.length + 1 := fun a n y L => by
   induction L with
   | nil => simp [putL]
   | cons z L ih =>
    unfold putL; split
    ·simp
    ·split
     ·simp
     ·simp only [List.length_cons]; omega
  have h3 := h2 z.1 z.2.1 z.2.2 L; rw [List.foldl_cons, List.length_cons]; unfold putZ at h1 ⊢; omega
theorem foldZ_all {p : Nat × Nat × AT → Prop} : ∀ (W L : List (Nat × Nat × AT)), L.Pairwise PLt → (∀ z ∈ W, p z) → (∀ z ∈ L, p z) → ∀ z ∈ W.foldl putZ L, p z
  | [], L, _, _, h => h
  | y :: W, L, hs, hW, hL => foldZ_all W _ (putL_sorted hs) (fun z hz => hW z (List.mem_cons_of_mem _ hz)) (fun z hz => by
      rcases (putL_mem hs z).1 hz with rfl | ⟨hz, _⟩
      · exact hW y List.mem_cons_self
      · exact hL z hz)
theorem pg_lt {L : List (Nat × Nat × AT)} (h : ∀ z ∈ L, PG z.1 z.2.1 ∧ z.2.2.path.length ≤ 100000) : ∀ z ∈ L, z.1 < 4294967296 := fun z hz => (h z hz).1.1
set_option maxRecDepth 100000 in
set_option maxHeartbeats 32000000 in
theorem riboutPlays_any (m0 : Int) (A1 : Option Addr) (n1 c1 : Nat) (acts : List AC) (w : World) (h1 : LstAt 3 acR w A1 n1 c1 acts) :
    Calls Tryz.prog 5 #[.int .i64 m0, .slice A1 n1 c1] w fun e w' => e = .returned (.bool true) ∧ Below w.heap.size w w' := by
  have H1 := hide h1; have hnc1 := h1.2.1; have hmx1 := h1.2.2.1; unfold maxLen at hmx1; have HNw := hide (qnew_any m0 w); have HIn := hide (fun n W => refIn36_any n W); have HLv := hide lives36G_any; obtain ⟨TM, hTM⟩ : ∃ N : Nat, inZ m0 = N := ⟨_, rfl⟩
  have HTM : Hid (TM ≤ 65535) := hide (hTM ▸ inZ_le m0); rw [hTM] at HNw; have HTe := hide hTM; clear h1 hTM
  go_enter Tryz.func5, Tryz.ntmps5
  go_wp2_with fail
  refine HNw.out.mono ?_; rintro e w1 ⟨r, rfl, hq1, hb1⟩; have HQ1 := hide hq1; have HB1 := hide hb1; clear hq1 hb1
  go_wp2_with fail
  refine (HIn.out _ _).mono ?_; rintro e w2 ⟨rfl, hw2⟩; rw [HTe.out]; have hb2 : Below w1.heap.size w1 w2 := (by rw [hw2]; exact blkBelow2 w1 _ _)
  have HP2 : Hid (PlS w r w1.heap.size w2 0 TM [] [] [] [] [] (some ⟨w1.heap.size, 0, none⟩, 0, 0) (some ⟨w1.heap.size + 1, 0, none⟩, 0, 0) (none, 0, 0)) := hide ⟨fun j => w.heap.size ≤ j ∧ j < w1.heap.size, fun _ => False, ((HQ1.out.cap (fun j hj hl => ⟨hj, hl⟩)).below hb2), ⟨⟨rfl, Nat.le_refl _, Nat.zero_le _, fun h => absurd h (by simp)⟩, fun h => absurd h (by simp)⟩, ⟨⟨rfl, Nat.le_refl _, Nat.zero_le _, fun h => absurd h (by simp)⟩, fun h => absurd h (by simp)⟩, LF.nil, fun j hj => hj, hb2.size, fun j hj => hj.elim, HB1.out.trans (hb2.mono HB1.out.size), HB1.out.size⟩; clear hw2 hb2; go_wp2
  go_loopw [6, 7, 8, 9, 10] (fun s6 s7 s8 s9 iv wr => ∃ (i lf tm b : Nat) (LA LT : List (Nat × Nat × AT)) (Aa : Option Addr) (na ca : Nat) (Aw : Option Addr) (nw cw : Nat), i ≤ n1 ∧ i ≤ 30 ∧ iv = .int .i64 (i : Nat) ∧ s6 = .slice Aa na ca ∧ s7 = .slice Aw nw cw ∧ s8 = .int .i64 (lf : Nat) ∧ s9 = .int .i64 (tm : Nat) ∧ PlS w r b wr lf tm LA LT LA LT [] (Aa, na, ca) (Aw, nw, cw) (none, 0, 0) ∧ lf ≤ 65535 ∧ tm ≤ 65535 ∧ LA.length ≤ 12 ∧ LT.length ≤ 12 * i) (fun _ _ _ _ iv _ => n1 - (intOf iv).toNat)
  case atStart => exact ⟨0, 0, TM, _, [], [], _, 0, 0, _, 0, 0, Nat.zero_le _, Nat.zero_le _, rfl, rfl, rfl, rfl, rfl, HP2.out, Nat.zero_le _, HTM.out, by simp, by simp⟩
  case round =>
    obtain ⟨i, lf, tm, b, LA, LT, Aa, na, ca, Aw, nw, cw, hi, hi30, rfl, rfl, rfl, rfl, rfl, hp, hlf, htm, hLA, hLT⟩ := hrel; have HP := hide hp; have hbel := hp.bel; have HBe := hide hbel; have HBle := hide hp.le; have hna : na ≤ 12 := (by have := hp.lsts.1.1; rw [List.length_map] at this; have e : LA.length = na := this; omega)
    have hnw : nw ≤ 360 := (by have := hp.lsts.2.1.1; rw [List.length_map] at this; have e : LT.length = nw := this; omega)
    obtain ⟨O1, hrq⟩ := hp.rq; have HSo := hide hrq.sorted; have HPg := hide hrq.pg; clear hp hrq; by_cases hlt : i < n1 ∧ i < 30
    · obtain ⟨hlt, hl30⟩ := hlt; obtain ⟨g, o, x, vs, rfl, hg, hx, _, ⟨B, kn, c, rfl, hlq⟩, hcs⟩ := H1.out.at_ hlt; have hcs : ∀ (j : Nat) (v : Value), [Value.int .i64 x.k, .int .i64 x.n, .slice B kn c][j]? = some v → wr.cell? ⟨g, o + i * 3 + j, none⟩ = some v := fun j v hv => (hbel.cell (by exact hg)).trans (hcs j v hv); have HLq : Hid (∀ W, Below w.heap.size w W → LstAt 11 tdQ W B kn c x.l) := hide (fun W hb => hlq.below tdqMono hb); have f0 : wr.cell? ⟨g, o + i * 3, none⟩ = some (.int .i64 x.k) := hcs 0 _ rfl; have f1 : wr.cell? ⟨g, o + i * 3 + 1, none⟩ = some (.int .i64 x.n) := hcs 1 _ rfl; have f2 : wr.cell? ⟨g, o + i * 3 + 2, none⟩ = some (.slice B kn c) := hcs 2 _ rfl; have q1 : (i : Int) < (n1 : Int) := (by omega)
      have q30 : (i : Int) < 30 := (by omega)
      have q0 : (0 : Int) ≤ (i : Int) := (by omega)
      have hwq : IntKind.i64.wrap ((i : Int) + 1) = (i : Int) + 1 := (by rw [IntKind.wrap_i64]; omega)
      obtain ⟨L, hL⟩ : ∃ L, (x.l.take 12).map cutTD = L := ⟨_, rfl⟩
      have HOk : Hid (∀ x ∈ L, TdOk x ∧ x.at_.path.length ≤ 100000) := hide (hL ▸ lstq_ok hlq); have HLl : Hid (L.length ≤ 12) := hide (by rw [← hL, List.length_map, List.length_take]; omega); have HFw := hide (fun W (hb : Below w.heap.size w W) => few36_any B kn c x.l W (lstq_of (HLq.out W hb))); rw [hL] at HFw; obtain ⟨w3, hw3⟩ : ∃ W, wr.alloc (.cells #[.int .i64 x.k, .int .i64 x.n, .slice B kn c] 57) = W := ⟨_, rfl⟩
      have hb3 : Below wr.heap.size wr w3 := hw3 ▸ blkBelow1 wr _; have HBx : Hid (Blk w3 wr.heap.size 57 #[.int .i64 x.k, .int .i64 x.n, .slice B kn c]) := hide (hw3 ▸ Blk.new wr _ _); have HP3 := hide (HP.out.below hb3); have HB3 := hide hb3; have HW3 := hide hw3; have hs3 := hb3.size; have y0 : w3.cell? ⟨wr.heap.size, 0, none⟩ = some (.int .i64 x.k) := HBx.out.cell 0; have y1 : w3.cell? ⟨wr.heap.size, 1, none⟩ = some (.int .i64 x.n) := HBx.out.cell 1; have y2 : w3.cell? ⟨wr.heap.size, 2, none⟩ = some (.slice B kn c) := HBx.out.cell 2; clear hbel hx hlq hcs hL hw3 hb3
      go_upto_block 2 with fail
      rw [HW3.out]; clear f0 f1 f2
      go_cut [6, 7, 8, 9, 37] (fun s6 s7 s8 s9 s37 wc => ∃ (lf tm b : Nat) (LA LT : List (Nat × Nat × AT)) (Aa : Option Addr) (na ca : Nat) (Aw : Option Addr) (nw cw : Nat), s6 = .slice Aa na ca ∧ s7 = .slice Aw nw cw ∧ s8 = .int .i64 (lf : Nat) ∧ s9 = .int .i64 (tm : Nat) ∧ PlS w r b wc lf tm LA LT LA LT [] (Aa, na, ca) (Aw, nw, cw) (none, 0, 0) ∧ lf ≤ 65535 ∧ tm ≤ 65535 ∧ LA.length ≤ 12 ∧ LT.length ≤ 12 * (i + 1))
      case first =>
        by_cases hk1 : x.k = 1
        · have k1 : decide (x.k = 1) = true := decide_eq_true hk1; have k1b : (x.k == 1) = true := (by simpa using hk1)
          have HG := hide (pl_gone HP3.out (show (Aw, nw, cw).2.1 ≤ 20000 from (by show nw ≤ 20000; omega)))
          go_wp2_with fail
          refine HG.out.mono ?_; rintro e w4 ⟨⟨A4, n4, c4⟩, he, hl4, hb4⟩; have he : e = .returned (.slice A4 n4 c4) := he; subst he
          have hn4 : n4 ≤ 20000 := by
            have h1 := hl4.1; rw [List.length_map] at h1; have h2 := List.length_filter_le (fun z => !(lkL z.1 z.2.1 LA).isSome) LT; have h1 : _ = n4 := h1; omega
          have HPr := hide (refPrefixes36_any A4 n4 c4 _ w4 hl4 hn4); have HP4 := hide (HP3.out.below hb4); have hle4 : b ≤ w4.heap.size := HP4.out.le; clear hl4 hb4
          go_wp2_with fail
          refine HPr.out.mono ?_; rintro e w5 ⟨A5, n5, c5, rfl, ho5, hb5⟩; have HO5 := hide ho5; have HP5 := hide (HP4.out.below hb5); have HGo := hide (pl_Gone HP5.out); clear ho5 hb5
          go_wp2_with fail
          refine HGo.out.mono ?_; rintro e w6 ⟨⟨A6, n6, c6⟩, he, hl6, hp6, hc6⟩; have he : e = .returned (.slice A6 n6 c6) := he; subst he; have HSm := hide (refSame07_eq A6 A5 n6 c6 n5 c5 _ w6 hl6 (own_pxs (own_chg HO5.out hc6 (fun j hj h => by omega)))); have HP6 := hide hp6; clear hl6 hp6 hc6
          go_wp2_with fail
          refine HSm.out.mono ?_; rintro e w7 ⟨rfl, hb7⟩; have HP7 := hide (HP6.out.below hb7); have HKe := hide (pl_keep HP7.out (show (Aw, nw, cw).2.1 ≤ 20000 from (by show nw ≤ 20000; omega))); clear hb7
          go_wp2_with fail
          refine HKe.out.mono ?_; rintro e w8 ⟨⟨A8, n8, c8⟩, he, hp8⟩; have he : e = .returned (.slice A8 n8 c8) := he; subst he; have HP8 := hide hp8; have hfl := List.length_filter_le (fun z => (lkL z.1 z.2.1 LA).isSome) LT; have HFl := hide hfl; clear hp8 hfl; go_wp2
          go_meet
          exact ⟨lf, tm, _, LA, _, Aa, na, ca, A8, n8, c8, rfl, rfl, rfl, rfl, HP8.out, hlf, htm, hLA, by have := HFl.out; omega⟩
        · have k1 : decide (x.k = 1) = false := decide_eq_false hk1; have k1b : (x.k == 1) = false := (by simpa using hk1)
          by_cases hk2 : x.k = 2
          · have k2 : decide (x.k = 2) = true := decide_eq_true hk2; have k2b : (x.k == 2) = true := (by simpa using hk2)
            obtain ⟨w4, hw4⟩ : ∃ W, w3.alloc (.cells #[] 71) = W := ⟨_, rfl⟩
            have hb4 : Below w3.heap.size w3 w4 := hw4 ▸ blkBelow1 w3 _; have HP4 := hide (HP3.out.below hb4); have HW4 := hide hw4; have hs4 := hb4.size; clear hw4 hb4; by_cases hl0 : lf = 0
            · subst hl0; have HWa := hide (pl_want HP4.out (show (Aa, na, ca).2.1 ≤ 20000 from (by show na ≤ 20000; omega)) (fun z hz => (HPg.out.1 z hz).2))
              go_wp2_with fail
              rw [HW4.out]; refine HWa.out.mono ?_; rintro e w5 ⟨⟨A5, n5, c5⟩, he, hp5, hl5, hb5⟩; have he : e = .returned (.slice A5 n5 c5) := he; subst he; obtain ⟨WL, hWL⟩ : ∃ l, LA.filter (lackL LT) = l := ⟨_, rfl⟩
              have HWm : Hid (∀ z ∈ WL, z ∈ LA) := hide (fun z hz => by rw [← hWL] at hz; exact (List.mem_filter.1 hz).1); have HWl : Hid (WL.length ≤ LA.length) := hide (by rw [← hWL]; exact List.length_filter_le _ _); rw [hWL] at hp5; have HHe := hide (pl_Here hp5 (by omega)); rw [hWL] at HHe; clear hp5 hl5 hb5 hWL
              go_wp2_with fail
              refine HHe.out.mono ?_; rintro e w6 ⟨⟨A6, n6, c6⟩, he, hl6, hp6⟩; have he : e = .returned (.slice A6 n6 c6) := he; subst he; have HSm := hide (toldSame_eq A6 A5 n6 c6 n5 c5 WL w6 hl6 hp6.lsts.2.2 (fun z hz => (HPg.out.1 z (HWm.out z hz)).2)); have hn5 : WL.length = n5 := (by have := hp6.lsts.2.2.1; rw [List.length_map] at this; exact this)
              have hc5 : n5 ≤ c5 := hp6.lsts.2.2.2.1; have hx5 : c5 ≤ maxLen := hp6.lsts.2.2.2.2.1; unfold maxLen at hx5; have HP6 := hide hp6; have HN5 := hide hn5; clear hl6 hp6 hn5
              go_wp2_with fail
              refine HSm.out.mono ?_; rintro e w7 ⟨rfl, hb7⟩; have HP7 := hide (HP6.out.below hb7); clear hb7; go_wp2
              go_loopw [7, 14] (fun s7 kv wr => ∃ (k : Nat) (b : Nat) (Aw : Option Addr) (nw cw : Nat), k ≤ n5 ∧ kv = .int .i64 (k : Nat) ∧ s7 = .slice Aw nw cw ∧ PlS w r b wr (if WL.length = 0 then 0 else tm) tm LA (WL.foldl putZ LT) LA ((WL.take k).foldl putZ LT) WL (Aa, na, ca) (Aw, nw, cw) (A5, n5, c5)) (fun _ kv _ => n5 - (intOf kv).toNat)
              case atStart => exact ⟨0, _, Aw, nw, cw, Nat.zero_le _, rfl, rfl, HP7.out⟩
              case round =>
                obtain ⟨k, b9, Aw9, nw9, cw9, hk, rfl, rfl, hpk⟩ := hrel; have HPk := hide hpk
                have hnw9 : nw9 ≤ 20000 := by
                  have h1 := hpk.lsts.2.1.1; rw [List.length_map] at h1; have h2 := foldZ_len (WL.take k) LT; rw [List.length_take] at h2; have h1 : _ = nw9 := h1; have h3 := HWl.out; omega
                by_cases hkl : k < n5
                · obtain ⟨g5, o5, z, C1, k3, e3, C2, k4, d4, hA5, hz, hcz, hput⟩ := pl_put hpk (k := k) hkl (foldZ_sorted _ _ HSo.out.2) (foldZ_all _ _ HSo.out.2 (fun z hz => pg_lt HPg.out.1 z (HWm.out z (List.mem_of_mem_take hz))) (pg_lt HPg.out.2)) (fun z hz => pg_lt HPg.out.1 z (HWm.out z hz)) hnw9; have hA5 : A5 = some ⟨g5, o5, none⟩ := hA5; subst hA5; have HTk : Hid (WL.take (k + 1) = WL.take k ++ [z]) := hide (by rw [List.take_add_one, hz]; rfl); have HPut := hide hput; have f0 : wr.cell? ⟨g5, o5 + k * 11, none⟩ = some (.int .u32 (z.1 : Int)) := hcz 0 _ rfl; have f1 : wr.cell? ⟨g5, o5 + k * 11 + 1, none⟩ = some (.int .i64 (z.2.1 : Int)) := hcz 1 _ rfl; have f2 : wr.cell? ⟨g5, o5 + k * 11 + 2, none⟩ = some (.int .i64 z.2.2.has) := hcz 2 _ rfl; have f3 : wr.cell? ⟨g5, o5 + k * 11 + 3, none⟩ = some (.int .i64 z.2.2.org) := hcz 3 _ rfl; have f4 : wr.cell? ⟨g5, o5 + k * 11 + 4, none⟩ = some (.slice C1 k3 e3) := hcz 4 _ rfl; have f5 : wr.cell? ⟨g5, o5 + k * 11 + 5, none⟩ = some (.int .u32 z.2.2.hop) := hcz 5 _ rfl; have f6 : wr.cell? ⟨g5, o5 + k * 11 + 6, none⟩ = some (.int .u32 z.2.2.med) := hcz 6 _ rfl; have f7 : wr.cell? ⟨g5, o5 + k * 11 + 7, none⟩ = some (.int .u32 z.2.2.pref) := hcz 7 _ rfl; have f8 : wr.cell? ⟨g5, o5 + k * 11 + 8, none⟩ = some (.int .u32 z.2.2.aas) := hcz 8 _ rfl; have f9 : wr.cell? ⟨g5, o5 + k * 11 + 9, none⟩ = some (.int .u32 z.2.2.aid) := hcz 9 _ rfl; have f10 : wr.cell? ⟨g5, o5 + k * 11 + 10, none⟩ = some (.slice C2 k4 d4) := hcz 10 _ rfl; have r1 : (k : Int) < (n5 : Int) := (by omega)
                  have r0 : (0 : Int) ≤ (k : Int) := (by omega)
                  have hwr : IntKind.i64.wrap ((k : Int) + 1) = (k : Int) + 1 := (by rw [IntKind.wrap_i64]; omega)
                  clear hpk hz hcz hput
                  go_wp2_with fail
                  refine HPut.out.mono ?_; rintro e w9 ⟨⟨A9, n9, c9⟩, he, hp9⟩; have he : e = .returned (.slice A9 n9 c9) := he; subst he; have HP9 := hide hp9; clear hp9 f0 f1 f2 f3 f4 f5 f6 f7 f8 f9 f10; go_wp2
                  go_roundw
                  case rel => exact ⟨k + 1, _, A9, n9, c9, by omega, by go_num, rfl, by rw [HTk.out, List.foldl_append]; exact HP9.out⟩
                  case measure => simp [intOf]; omega
                · obtain rfl : k = n5 := (by omega)
                  have e1 : decide ((k : Int) < (k : Int)) = false := (by simp)
                  have HPe : Hid (PlS w r b9 wr (if WL.length = 0 then 0 else tm) tm LA (WL.foldl putZ LT) LA (WL.foldl putZ LT) [] (Aa, na, ca) (Aw9, nw9, cw9) (none, 0, 0)) := hide (by
                    rw [List.take_of_length_le (by rw [HN5.out]; exact Nat.le_refl _)] at hpk; exact hpk.wantNil none)
                  have HLe : Hid ((WL.foldl putZ LT).length ≤ 12 * (i + 1)) := hide (by have := foldZ_len WL LT; have := HWl.out; omega); clear hpk hkl HPk; by_cases hz0 : k = 0
                  · subst hz0; have HPe2 := HPe.out; rw [if_pos HN5.out] at HPe2; have HPe3 := hide HPe2; clear HPe2; go_wp2
                    go_meet
                    exact ⟨0, tm, _, LA, _, Aa, na, ca, Aw9, nw9, cw9, rfl, rfl, rfl, rfl, HPe3.out, Nat.zero_le _, htm, hLA, HLe.out⟩
                  · have HPe2 := HPe.out; rw [if_neg (by rw [HN5.out]; exact hz0)] at HPe2; have HPe3 := hide HPe2; have d24 : decide (0 < (k : Int)) = true := decide_eq_true (by omega); have d24' : decide (0 < k) = true := decide_eq_true (by omega); have p24 : 0 < k := (by omega)
                    clear HPe2; go_wp2
                    go_meet
                    exact ⟨tm, tm, _, LA, _, Aa, na, ca, Aw9, nw9, cw9, rfl, rfl, rfl, rfl, HPe3.out, htm, htm, hLA, HLe.out⟩
            · obtain ⟨lq, rfl⟩ : ∃ q, lf = q + 1 := ⟨lf - 1, by omega⟩
              have d16 : decide (((lq + 1 : Nat) : Int) = 0) = false := decide_eq_false (by omega); have d16b : (((lq + 1 : Nat) : Int) == 0) = false := (by simp; omega)
              obtain ⟨LF1, hLF⟩ : ∃ x : Int, ((lq + 1 : Nat) : Int) = x := ⟨_, rfl⟩
              rw [hLF] at d16 d16b ⊢; have HLF := hide hLF; have p16 : ¬ LF1 = 0 := (by omega)
              have HHe := hide (pl_HereL HP4.out); clear hLF
              go_wp2_with fail
              rw [HW4.out]; refine HHe.out.mono ?_; rintro e w6 ⟨rfl, rfl⟩; have HSm := hide (toldSame_eq none (some ⟨w3.heap.size, 0, none⟩) 0 0 0 0 [] w6 LstAt.none_ ⟨rfl, Nat.le_refl _, Nat.zero_le _, fun h => absurd h (by simp)⟩ (by simp))
              go_wp2_with fail
              refine HSm.out.mono ?_; rintro e w7 ⟨rfl, hb7⟩; have HP7 := hide (HP4.out.below hb7); clear hb7; go_wp2
              go_loopw [7, 14] (fun s7 kv wr => kv = .int .i64 0 ∧ s7 = .slice Aw nw cw ∧ wr = w7) (fun _ _ _ => 0)
              case atStart => exact ⟨rfl, rfl, rfl⟩
              case round =>
                obtain ⟨rfl, rfl, rfl⟩ := hrel; go_wp2
                go_meet
                exact ⟨lq + 1, tm, _, LA, LT, Aa, na, ca, Aw, nw, cw, rfl, rfl, by rw [HLF.out], rfl, HP7.out, hlf, htm, hLA, by omega⟩
          · have k2 : decide (x.k = 2) = false := decide_eq_false hk2; have k2b : (x.k == 2) = false := (by simpa using hk2)
            by_cases hk3 : x.k = 3
            · have k3 : decide (x.k = 3) = true := decide_eq_true hk3; have k3b : (x.k == 3) = true := (by simpa using hk3)
              have HTi := hide (pl_Tick HP3.out hlf); by_cases hl0 : lf = 0
              · subst hl0
                go_wp2_with fail
                refine HTi.out.mono ?_; rintro e w4 ⟨rfl, hp4⟩; have HP4 := hide hp4; clear hp4; go_wp2
                go_meet
                exact ⟨0, tm, _, LA, LT, Aa, na, ca, Aw, nw, cw, rfl, rfl, rfl, rfl, HP4.out, Nat.zero_le _, htm, hLA, by omega⟩
              · have d28 : decide (0 < (lf : Int)) = true := decide_eq_true (by omega); have d28' : decide (0 < lf) = true := decide_eq_true (by omega); have p28 : 0 < lf := (by omega)
                have hwl : IntKind.i64.wrap ((lf : Int) - 1) = ((lf - 1 : Nat) : Int) := (by rw [IntKind.wrap_i64]; omega)
                go_wp2_with fail
                refine HTi.out.mono ?_; rintro e w4 ⟨rfl, hp4⟩; have HP4 := hide hp4; clear hp4; go_wp2
                go_meet
                exact ⟨lf - 1, tm, _, LA, LT, Aa, na, ca, Aw, nw, cw, rfl, rfl, rfl, rfl, HP4.out, by omega, htm, hLA, by omega⟩
            · have k3 : decide (x.k = 3) = false := decide_eq_false hk3; have k3b : (x.k == 3) = false := (by simpa using hk3)
              by_cases hk4 : x.k = 4
              · have k4 : decide (x.k = 4) = true := decide_eq_true hk4; have k4b : (x.k == 4) = true := (by simpa using hk4)
                have HCl := hide (pl_Clear HP3.out)
                go_wp2_with fail
                refine HCl.out.mono ?_; rintro e w4 ⟨rfl, hp4⟩; obtain ⟨w5, hw5⟩ : ∃ W, w4.alloc (.cells #[] 71) = W := ⟨_, rfl⟩
                have HP5 : Hid (PlS w r w4.heap.size w5 0 tm LA [] LA [] [] (Aa, na, ca) (some ⟨w4.heap.size, 0, none⟩, 0, 0) (none, 0, 0)) := hide ((hp4.below (hw5 ▸ blkBelow1 w4 _)).wasNil _); have HW5 := hide hw5; clear hp4 hw5; go_wp2; rw [HW5.out]
                go_meet
                exact ⟨0, tm, _, LA, [], Aa, na, ca, _, 0, 0, rfl, rfl, rfl, rfl, HP5.out, Nat.zero_le _, htm, hLA, by simp⟩
              · have k4 : decide (x.k = 4) = false := decide_eq_false hk4; have k4b : (x.k == 4) = false := (by simpa using hk4)
                by_cases hk5 : x.k = 5
                · have k5 : decide (x.k = 5) = true := decide_eq_true hk5; have k5b : (x.k == 5) = true := (by simpa using hk5)
                  have HSe := hide (pl_Set x.n HP3.out); obtain ⟨NT, hNT⟩ : ∃ N : Nat, inZ x.n = N := ⟨_, rfl⟩
                  have HNT : Hid (NT ≤ 65535) := hide (hNT ▸ inZ_le x.n); have HNe := hide hNT; rw [hNT] at HSe; clear hNT
                  go_wp2_with fail
                  refine HSe.out.mono ?_; rintro e w4 ⟨rfl, hp4, hc4⟩; have HP4 := hide hp4; have hBx4 : w4.cell? ⟨wr.heap.size, 1, none⟩ = some (.int .i64 x.n) := (chg_blk hc4 HBx.out (Nat.not_lt.2 HBle.out)).cell 1; clear hp4 hc4
                  go_wp2_with fail
                  refine (HIn.out _ _).mono ?_; rintro e w5 ⟨rfl, rfl⟩; rw [HNe.out]; by_cases hgt : NT < lf
                  · have d36 : decide ((NT : Int) < (lf : Int)) = true := decide_eq_true (by omega); have d36' : decide (NT < lf) = true := decide_eq_true hgt; have HP6 : Hid (PlS w r w5.heap.size w5 NT NT LA LT LA LT [] (Aa, na, ca) (Aw, nw, cw) (none, 0, 0)) := hide (by have := HP4.out; rwa [Nat.min_eq_right (by omega)] at this); go_wp2
                    go_meet
                    exact ⟨NT, NT, _, LA, LT, Aa, na, ca, Aw, nw, cw, rfl, rfl, rfl, rfl, HP6.out, HNT.out, HNT.out, hLA, by omega⟩
                  · have d36 : decide ((NT : Int) < (lf : Int)) = false := decide_eq_false (by omega); have d36' : decide (NT < lf) = false := decide_eq_false hgt; have HP6 : Hid (PlS w r w5.heap.size w5 lf NT LA LT LA LT [] (Aa, na, ca) (Aw, nw, cw) (none, 0, 0)) := hide (by have := HP4.out; rwa [Nat.min_eq_left (by omega)] at this); go_wp2
                    go_meet
                    exact ⟨lf, NT, _, LA, LT, Aa, na, ca, Aw, nw, cw, rfl, rfl, rfl, rfl, HP6.out, hlf, HNT.out, hLA, by omega⟩
                · have k5 : decide (x.k = 5) = false := decide_eq_false hk5; have k5b : (x.k == 5) = false := (by simpa using hk5)
                  go_wp2_with fail
                  refine (HFw.out _ HP3.out.bel).mono ?_; rintro e w4 ⟨A4, n4, c4, xs4, rfl, hl4, hb4⟩; have hn4 : n4 ≤ 20000 := (by have h1 := (hl4.lst (by decide)).1; have h2 := HLl.out; omega)
                  have HAi := hide (pl_Aim HP3.out hb4 hl4 (fun x hx => (HOk.out x hx).1) hn4); have HBx4 := hide (HBx.out.below hb4 HBx.out.lt); have HP4 := hide (HP3.out.below hb4); clear hl4 hb4
                  go_wp2_with fail
                  refine HAi.out.mono ?_; rintro e w5 ⟨rfl, hp5, hc5⟩; have hBx5 : w5.cell? ⟨wr.heap.size, 2, none⟩ = some (.slice B kn c) := (chg_blk hc5 HBx4.out (Nat.not_lt.2 HBle.out)).cell 2; have HP5 := hide hp5; have hB5 : Below w.heap.size w w5 := hp5.bel; have HF5 := hide (HFw.out w5 hB5); clear hp5 hB5 hc5
                  go_wp2_with fail
                  refine HF5.out.mono ?_; rintro e w6 ⟨A6, n6, c6, xs6, rfl, hl6, hb6⟩; have hn6 : n6 ≤ 10000 := (by have h1 := (hl6.lst (by decide)).1; have h2 := HLl.out; omega)
                  have HRa := hide (refAim36_any A6 n6 c6 L w6 (hl6.lst (by decide)) HOk.out hn6); have HP6 := hide (HP5.out.below hb6); clear hl6 hb6
                  go_wp2_with fail
                  refine HRa.out.mono ?_; rintro e w7 ⟨A7, n7, c7, rfl, hl7, hb7⟩; have HP7 := hide (HP6.out.newAim (s := (A7, n7, c7)) hl7 hb7); have HL7 : Hid ((aimL L).length ≤ 12) := hide (by have := aimL_len L; have := HLl.out; omega); clear hl7 hb7; go_wp2
                  go_meet
                  exact ⟨lf, tm, _, aimL L, LT, A7, n7, c7, Aw, nw, cw, rfl, rfl, rfl, rfl, HP7.out, hlf, htm, HL7.out, by omega⟩
      case rest =>
        obtain ⟨lf2, tm2, b2, LA2, LT2, Aa2, na2, ca2, Aw2, nw2, cw2, rfl, rfl, rfl, rfl, hp2, hlf2, htm2, hLA2, hLT2⟩ := hcut; obtain ⟨w8, h8⟩ : ∃ W, W = wc := ⟨_, rfl⟩
        subst h8; have HP8 := hide hp2; have hna2 : na2 ≤ 12 := (by have := hp2.lsts.1.1; rw [List.length_map] at this; have e : LA2.length = na2 := this; omega)
        have hnw2 : nw2 ≤ 360 := (by have := hp2.lsts.2.1.1; rw [List.length_map] at this; have e : LT2.length = nw2 := this; omega)
        obtain ⟨O8, hrq8⟩ := hp2.rq; have HPg2 := hide hrq8.pg; have HWa := hide (pl_want hp2 (show (Aa2, na2, ca2).2.1 ≤ 20000 from (by show na2 ≤ 20000; omega)) (fun z hz => (HPg2.out.1 z hz).2)); obtain ⟨KA, hKA⟩ : ∃ l, LA2.filter (lackL LT2) = l := ⟨_, rfl⟩
        obtain ⟨KT, hKT⟩ : ∃ l, LT2.filter (lackL LA2) = l := ⟨_, rfl⟩
        have HKA := hide hKA; have HKT := hide hKT; have HlA : Hid (KA.length ≤ 12) := hide (by rw [← hKA]; have := List.length_filter_le (lackL LT2) LA2; omega); have HlT : Hid (KT.length ≤ 360) := hide (by rw [← hKT]; have := List.length_filter_le (lackL LA2) LT2; omega)
        have HgK : Hid (∀ x ∈ keyL KA ++ keyL KT, PG x.1 x.2) := hide (fun x hx => by
          rw [← hKA, ← hKT] at hx; rcases List.mem_append.1 hx with hx | hx
          · obtain ⟨z, hz, rfl⟩ := keyL_mem.1 hx; exact (HPg2.out.1 z (List.mem_filter.1 hz).1).1
          · obtain ⟨z, hz, rfl⟩ := keyL_mem.1 hx; exact (HPg2.out.2 z (List.mem_filter.1 hz).1).1)
        rw [hKA] at HWa; clear hp2 hrq8 hKA hKT
        go_wp2_with fail
        refine HWa.out.mono ?_; rintro e w9 ⟨⟨A9, n9, c9⟩, he, _, hl9, hb9⟩; have he : e = .returned (.slice A9 n9 c9) := he; subst he; have hn9 : n9 ≤ 12 := (by have h1 := hl9.1; rw [List.length_map] at h1; have h1 : _ = n9 := h1; have := HlA.out; omega)
        have HPa := hide (refPrefixes36_any A9 n9 c9 KA w9 hl9 (by omega)); have HP9 := hide (HP8.out.below hb9); clear hl9 hb9
        go_wp2_with fail
        refine HPa.out.mono ?_; rintro e w10 ⟨A10, n10, c10, rfl, ho10, hb10⟩; have HO10 := hide ho10; have HB10 := hide hb10; have hs10 := hb10.size; have HP10 := hide (HP9.out.below hb10); have hn10 : n10 ≤ 12 := (by have h1 := (own_pxs ho10).1; unfold keyL at h1; rw [List.length_map] at h1; have := HlA.out; omega)
        have HLk := hide (pl_lacks2 HP10.out (show (Aw2, nw2, cw2).2.1 ≤ 20000 from (by show nw2 ≤ 20000; omega)) (fun z hz => (HPg2.out.2 z hz).2)); rw [HKT.out] at HLk; clear ho10 hb10
        go_wp2_with fail
        refine HLk.out.mono ?_; rintro e w11 ⟨⟨A11, n11, c11⟩, he, hl11, hb11⟩; have he : e = .returned (.slice A11 n11 c11) := he; subst he; have hn11 : n11 ≤ 360 := (by have h1 := hl11.1; rw [List.length_map] at h1; have h1 : _ = n11 := h1; have := HlT.out; omega)
        have HPb := hide (refPrefixes36_any A11 n11 c11 KT w11 hl11 (by omega)); have HO11 := hide (own_below HO10.out hb11); have HB11 := hide (HB10.out.trans (hb11.mono HB10.out.size)); clear hl11 hb11
        go_wp2_with fail
        refine HPb.out.mono ?_; rintro e w12 ⟨A12, n12, c12, rfl, ho12, hb12⟩; have HO12 := hide (own_below HO11.out hb12); have HB12 := hide (HB11.out.trans (hb12.mono HB11.out.size)); have HR12 : Hid (Reads w12 w12.heap.size 2 A12 n12 (pxC (keyL KT))) := hide (reads_own_ (by decide) ho12)
        have HU12 : Hid (∀ u ∈ pxC (keyL KT), u.oneCell' = true) := hide (fun u hu => by
          unfold pxC at hu; obtain ⟨x, _, hu⟩ := List.mem_flatMap.1 hu; rcases List.mem_cons.1 hu with rfl | hu
          · rfl
          · rw [List.mem_singleton.1 hu]; rfl)
        have hn12 : n12 ≤ 360 := (by have h1 := (own_pxs ho12).1; unfold keyL at h1; rw [List.length_map] at h1; have := HlT.out; omega)
        have hs912 : w9.heap.size ≤ w12.heap.size := HB12.out.size; obtain ⟨i0, hi0, hz0, hz1, hz2⟩ := info_parts pxInfo; clear ho12 hb12
        go_wp2_with (at_builtin; refine wpList_append_any _ rfl (.tmp 119) (.tmp 123) 45 rfl w9.heap.size 24 i0 _ 2 16 Tryz.underlying45 hi0 hz0 hz1 hz2 rfl (by decide) (.slice A10 n10 c10) n10 _ rfl HO12.out w12.heap.size A12 n12 c12 _ rfl HR12.out HU12.out (by unfold maxLen; omega) (by omega) hs912 ?_; intro v' w13 h5 h6 h7; obtain ⟨A13, c13, rfl⟩ := own_slice h5; have HO13 := hide h5; have HG13 := hide h6; clear h5 h6 h7)
        have HB13 : Hid (Below w9.heap.size w9 w13) := hide (HB12.out.trans ((Below.refl w9.heap.size w12).grown HG13.out hs912 (fun k hk => own_low_block HO12.out k hk))); have HP13 := hide (HP9.out.below HB13.out); have HL13 : Hid (LstAt 2 pxR w13 A13 (n10 + n12) c13 (keyL KA ++ keyL KT)) := hide (LstAt.of_own (by decide) HO13.out ((pxC_chunks w13 _).app_ (pxC_chunks w13 _))); have HSr := hide (refSort07_any A13 (n10 + n12) c13 (keyL KA ++ keyL KT) w13 HL13.out HgK.out (by omega)); refine HSr.out.mono ?_; rintro e w14 ⟨A14, n14, c14, rfl, hl14, hb14⟩; have HP14 := hide (HP13.out.below hb14); have HL14 := hide hl14; obtain ⟨O14, hq14⟩ := HP14.out.rq; have HTo := hide (qtold_any hq14); clear hl14 hb14 hq14
        go_wp2_with fail
        refine HTo.out.mono ?_; rintro e w15 ⟨A15, n15, c15, rfl, hl15, hb15⟩; have HP15 := hide (HP14.out.below hb15); have HL15 := hide (HL14.out.below pxMono hb15); have HSm := hide (toldSame_eq A15 Aw2 n15 c15 nw2 cw2 LT2 w15 hl15 HP15.out.lsts.2.1 (fun z hz => (HPg2.out.2 z hz).2)); clear hl15 hb15
        go_wp2_with fail
        refine HSm.out.mono ?_; rintro e w16 ⟨rfl, hb16⟩; have HP16 := hide (HP15.out.below hb16); have HL16 := hide (HL15.out.below pxMono hb16); obtain ⟨O16, hq16⟩ := HP16.out.rq; have HPe := hide (qpend_any hq16 (by omega)); rw [HKA.out, HKT.out] at HPe; clear hb16 hq16
        go_wp2_with fail
        refine HPe.out.mono ?_; rintro e w17 ⟨A17, n17, c17, rfl, hl17, hb17⟩; have HP17 := hide (HP16.out.below hb17); have HSn := hide (refSame07_eq A17 A14 n17 c17 n14 c14 _ w17 hl17 (HL16.out.below pxMono hb17)); clear hl17 hb17
        go_wp2_with fail
        refine HSn.out.mono ?_; rintro e w18 ⟨rfl, hb18⟩; have HP18 := hide (HP17.out.below hb18); obtain ⟨O18, hq18⟩ := HP18.out.rq; have HLf := hide (qleft_any hq18); clear hb18 hq18
        go_wp2_with fail
        refine HLf.out.mono ?_; rintro e w19 ⟨rfl, rfl⟩; go_wp2
        go_roundw
        case rel =>
          repeat apply Exists.intro
          exact ⟨by omega, by omega, by go_num, rfl, rfl, rfl, rfl, HP18.out, hlf2, htm2, hLA2, hLT2⟩
        case measure => simp [intOf]; omega
    · have HBm := hide hbel; clear hbel; by_cases hin : i < n1
      · have d2 : decide ((i : Int) < (n1 : Int)) = true := decide_eq_true (by omega); have d3 : decide ((i : Int) < 30) = false := decide_eq_false (by omega); clear hlt
        go_wp2_with fail
        refine (HLv.out _).mono ?_; rintro e w20 ⟨rfl, hb20⟩; have HB20 := hide (HBm.out.trans (hb20.mono HBm.out.size)); clear hb20; go_wp2; go_ret; exact ⟨rfl, HB20.out⟩
      · have d2 : decide ((i : Int) < (n1 : Int)) = false := decide_eq_false (by omega); clear hlt
        go_wp2_with fail
        refine (HLv.out _).mono ?_; rintro e w20 ⟨rfl, hb20⟩; have HB20 := hide (HBm.out.trans (hb20.mono HBm.out.size)); clear hb20; go_wp2; go_ret; exact ⟨rfl, HB20.out⟩
abbrev atL (h o : Int) (A : Option Addr) (n c : Nat) (hp md pf aa ai : Int) (B : Option Addr) (m d : Nat) : List Value := [.int .i64 h, .int .i64 o, .slice A n c, .int .u32 hp, .int .u32 md, .int .u32 pf, .int .u32 aa, .int .u32 ai, .slice B m d]
end Go.Proofs.YtcinjckajnnhmaaGreat
namespace Go.Proofs.YtcinjckajnnhmaaGreat
open Go.RowKit Go.WideShapes Go.ChangeShapes
set_option maxRecDepth 100000 in
theorem u32s_opens {H : Type} {enc : TypeId × Value → H} {W : World} {f : Nat} {v : Value} {x : DataW H × List MemPlace} (h : DataW.trod enc Tryz.prog W 0 (fun _ => true) true f 26 [v] = some x) :
  ∃ A n c l, v = .slice A n c ∧ U32s W A n c l := by
 have h1' : ∃ A n c, v = .slice A n c := by
  rcases DataW.trod_slice Tryz.underlying26 h with ⟨e, _⟩ | ⟨a, len, cap, elems, rest, n, _, e, _⟩
  ·exact ⟨none, 0, 0, by simpa using e⟩
  ·exact ⟨some a, len, cap, by simpa using e⟩
 obtain ⟨A, m, c, rfl⟩ := h1'; obtain ⟨l, hl⟩ := u32s_open (A := A) (n := m) (c := c) ⟨f, by simpa [Value.cells] using h⟩; exact ⟨A, m, c, l, rfl, hl⟩
set_option maxRecDepth 100000 in
theorem segs_open {H : Type} {enc : TypeId × Value → H} {W : World} {A : Option Addr} {n c : Nat} {d : DataW H} {p : List MemPlace}
    (h : DataW.Trod enc Tryz.prog W 0 (fun _ => true) true 25 (.slice A n c) d p) : ∃ l : List SG, LstAt 2 sgR W A n c l := by
  obtain ⟨fuel, hf⟩ := h
  obtain ⟨A', n', c', l, e, hl⟩ := lst_open (R := sgR) (sz := 2) Tryz.underlying25 (by kernel_rfl) (by decide) (fun f cs x hx => by
    obtain ⟨z0, z1, n, _, hl, g0, g1⟩ := trod_struct2 Tryz.underlying133 hx; have c2 : Tryz.prog.cellsOf 133 = 2 := (by kernel_rfl)
    have ci : Tryz.prog.cellsOf 3 = 1 := (by kernel_rfl)
    have cs1 : Tryz.prog.cellsOf 26 = 1 := (by kernel_rfl)
    rw [c2] at hl
    match cs, hl with
    | [v0, v1], _ =>
      simp only [ci, cs1, List.drop_zero, List.drop_succ_cons, List.take_succ_cons, List.take_zero] at g0 g1; obtain ⟨k, e0, _⟩ := DataW.trod_int Tryz.underlying3 g0; obtain ⟨A, m, c, l, rfl, hl⟩ := u32s_opens g1; simp only [List.cons.injEq, and_true] at e0; subst e0; exact ⟨⟨k, l⟩, A, m, c, rfl, hl⟩) hf
  obtain ⟨rfl, rfl, rfl⟩ : A = A' ∧ n = n' ∧ c = c' := (by simpa [Value.cells] using e)
  exact ⟨l, hl⟩
end Go.Proofs.YtcinjckajnnhmaaGreat
