import Derived.Test.YtcinjckajnnhmaaGreatRs7
import Derived.WalkKit
import Derived.ProofKit
import Derived.OpenShut
import Derived.Below
import Derived.Laws.OwnMore
import Derived.Laws.Rows
import Derived.Laws.MakeOwn
import Derived.Deep.AppendLies
import Derived.Deep.Draws
import Derived.Deep.OwnRows
import Derived.Deep.QuietTactic
import Derived.Maps.AppendAt
import Derived.RegionTactic
import Derived.OwnWalk
import Derived.ChangeSame
import Derived.Outline
import Derived.BigQuiet
import Derived.WalkMore
import Derived.ScopeJumps
import Derived.WalkLawsBesides
import Derived.WalkSpells
import Derived.Laws.BitsLemmas
import Derived.Laws.BitsAllLaws
import Derived.WideKeyArgs
import Derived.Deep.DeepHandedRow
import Derived.Deep.DeepWitnessRowRef
import Derived.Lib.LaidTab
import Derived.Lib.AppendIntMem
import Derived.LaidMore
import Derived.MakeChecks
import Derived.Lib.Itoa
import Derived.Lib.ItoaMem
import Derived.Deep.Quiet
import Derived.Deep.Slices
import Derived.BigRegion
import Derived.Orders
import Derived.OrdersIn
import Derived.RangeFuncCalls
import Derived.Shelf.RegionOpen
import Derived.StillTailTactics
import Derived.Lib.PathFns
import Derived.Lib.IndexBytes
import Derived.RangeFuncWrites
import Derived.RangeFuncNested
import Derived.RangeFuncBound
import Derived.RangeFuncLeaves
import Derived.RangeFuncBox
import Derived.Shelf.Abstract
import Derived.OwnWalkIn
import Derived.TacticsInMore
import Derived.LoopNIn
import Derived.LoopIn
import Derived.Lib.SmallJoins
import Derived.Lib.ParseIntBCases
import Derived.Lib.IndexMore
import Derived.Shelf.Vars
import Derived.Lib.AtoiAllCases
import Derived.SliceStrings
import Derived.Deep.RegionLaw
import Derived.Sort.LotA
import Derived.BigRegionIn
import Derived.Deep.RegionHeld3
import Derived.RangeFuncOwn
import Derived.Sort.WalkA6
import Derived.Sort.WalkB3
import Derived.Sort.WalkC4
import Derived.Sort.WalkA14
import Derived.Sort.Walk11
import Derived.Sort.Walk7
import Derived.Sort.Walk13
import Derived.Sort.Row
import Derived.Lib.Walk
import Derived.Lib.Strings
import Derived.BigGuard
import Derived.BigCall
import Derived.CellFam
import Derived.Deep.LoopGhost
import Derived.Sort.LotC
import Derived.Deep.RegionWith
import Derived.RowKit
import Derived.Sort.LotD3
import Derived.Sort.LotD4
import Derived.Sort.Grow
import Derived.Sort.AtCall
import Derived.Sort.LotD5
import Derived.Laws.Bits64
import Derived.Laws.Bits64b
import Derived.Sort.EncStr
import Derived.Sort.LotD1
import Derived.Sort.LotB
import Derived.Deep.Cut
import Derived.Sort.Walk13a
import Derived.Sort.AssemblyPlain
import Derived.Shelf.Spec.SlicesInsertGrow
import Derived.Deep.MidRow
import Derived.Lib.RowBridge
import Derived.Laws.CopyOwn
import Derived.Lib.AppendZerosOnto
import Derived.Deep.DeepCutAuto
import Derived.Lib.Bytealg
import Derived.Shelf.Strings.SplitShaped
import Derived.Shelf.Strings.Prefix
import Derived.Shelf.Small.Strs
import Derived.Deep.CutBlock
set_option linter.unusedSimpArgs false
set_option linter.unusedVariables false
namespace Go.Proofs.YtcinjckajnnhmaaGreat
open Go.RowKit Go.WideShapes Go.ChangeShapes
attribute [local go_sem] Oper.semAt_some
abbrev atL9 (h o : Int) (A : Option Addr) (n c : Nat) (hp md pf aa ai : Int) (B : Option Addr) (m d : Nat) : List Value := [.int .i64 h, .int .i64 o, .slice A n c, .int .u32 hp, .int .u32 md, .int .u32 pf, .int .u32 aa, .int .u32 ai, .slice B m d]
set_option maxHeartbeats 4000000 in
theorem storeA9 {w : World} {R : Nat} {u0 u1 u2 u3 u4 u5 u6 u7 u8 : Value} {h o : Int} {A : Option Addr} {n c : Nat} {hp md pf aa ai : Int} {B : Option Addr} {m d : Nat} (hk : Blk w R 28 #[u0, u1, u2, u3, u4, u5, u6, u7, u8]) :
  (Instr.storeAt 28 (.pointer (some ⟨R, 0, none⟩)) (atV h o A n c hp md pf aa ai B m d)).run Tryz.prog w = .ok () (w.setCells R 0 (atL9 h o A n c hp md pf aa ai B m d)) := by
 obtain ⟨z0, z1, z2, z3, z4, z5, z6, z7, z8⟩ := blk9 hk; have zf := fun i => hk.frozen i; simp [go_sem, z0, z1, z2, z3, z4, z5, z6, z7, z8, zf, World.setCells]
def BoxAt (B : Nat) (w : World) (R : Nat) : Prop := B ≤ R ∧ ∃ u0 u1 u2 u3 u4 u5 u6 u7 u8, Blk w R 28 #[u0, u1, u2, u3, u4, u5, u6, u7, u8]
def EffBox (B0 : Nat) (w w' : World) : Prop := ∃ R h o A n c hp md pf aa ai B m d, BoxAt B0 w R ∧ w' = w.setCells R 0 (atL9 h o A n c hp md pf aa ai B m d)
theorem boxAt_below {B R : Nat} {w w' : World} (h : BoxAt B w R) (hb : Below w.heap.size w w') : BoxAt B w' R := by
 obtain ⟨h1, u0, u1, u2, u3, u4, u5, u6, u7, u8, h2⟩ := h; exact ⟨h1, u0, u1, u2, u3, u4, u5, u6, u7, u8, h2.below hb h2.lt⟩
theorem boxAt_eff {B R : Nat} {w w' : World} (h : BoxAt B w R) (he : EffBox B w w') : BoxAt B w' R := by
 obtain ⟨h1, u0, u1, u2, u3, u4, u5, u6, u7, u8, h2⟩ := h; obtain ⟨R2, h, o, A, n, c, hp, md, pf, aa, ai, Bq, m, d, ⟨hb2, v0, v1, v2, v3, v4, v5, v6, v7, v8, hk2⟩, rfl⟩ := he; by_cases e : R = R2
 ·subst e; exact ⟨h1, _, _, _, _, _, _, _, _, _, blk_sets (atL9 h o A n c hp md pf aa ai Bq m d) [] [u0, u1, u2, u3, u4, u5, u6, u7, u8] h2 rfl⟩
 ·exact ⟨h1, _, _, _, _, _, _, _, _, _, blk_sets_far e _ 0 h2⟩
theorem effBox_below {B : Nat} {w w' : World} (he : EffBox B w w') (hB : B ≤ w.heap.size) : Below B w w' := by
 obtain ⟨R2, h, o, A, n, c, hp, md, pf, aa, ai, Bq, m, d, ⟨hb2, _⟩, rfl⟩ := he; exact below_sets _ 0 (Below.refl B w) hb2
def EV (b : Bool) (v : Value) (_ : World) : Prop := ∃ h o A n c hp md pf aa ai B m d, v = .tuple #[atV h o A n c hp md pf aa ai B m d, .bool b]
def AVal (v : Value) (_ : World) : Prop := ∃ h o A n c hp md pf aa ai B m d, v = atV h o A n c hp md pf aa ai B m d
theorem tget_any (F : Nat → Prop) (g c k : Nat) (t : Tr AT) (w : World) (hc : PG c k) (h : TrT F w g t) :
  Calls Tryz.prog 82 #[.pointer (some ⟨g, 0, none⟩), .agg #[.int .u32 (c : Int), .int .i64 (k : Int)]] w fun e w' => ∃ v, e = .returned v ∧ EV (trGet c k t).isSome v w' ∧ Below w.heap.size w w' := by
 refine (getA_any (R := atR) g c k t w hc h.root h.tree.mem h.tree.wf h.low).mono ?_; rintro e w' ⟨hb, hm⟩
 cases hg : trGet c k t with
 | none =>
  rw [hg] at hm; exact ⟨_, hm, ⟨0, 0, none, 0, 0, 0, 0, 0, 0, 0, none, 0, 0, rfl⟩, hb⟩
 | some x =>
  rw [hg] at hm; obtain ⟨v0, v1, v2, v3, v4, v5, v6, v7, v8, rfl, hfr⟩ := hm; obtain ⟨XA, xn, xc, XB, xm, xd, hv, _, _⟩ := frs_here hfr; rw [hv]; exact ⟨_, rfl, ⟨_, _, _, _, _, _, _, _, _, _, _, _, _, rfl⟩, hb⟩
theorem cut_list {α : Type} {a n : Nat} {t t' : Tr α} (hw : trWf t) (hw' : trWf t') (hg : ∀ c k, trGet c k t' = if a = c ∧ n = k then none else trGet c k t) : trL t' = cutL a n (trL t) := by
 have hs := trL_sorted t hw; refine plt_ext _ _ (trL_sorted t' hw') (hs.sublist List.filter_sublist) fun z => ?_; obtain ⟨c, k, y⟩ := z; unfold cutL; rw [trL_mem t' hw', hg, List.mem_filter, trL_mem t hw]; by_cases e : a = c ∧ n = k
 ·simp [e]
 ·simp [e]
theorem trcut_any (F : Nat → Prop) (g a n : Nat) (t : Tr AT) (w : World) (ha : PG a n) (hT : TrT F w g t) :
  Calls Tryz.prog 83 #[.pointer (some ⟨g, 0, none⟩), .agg #[.int .u32 (a : Int), .int .i64 (n : Int)]] w fun e w' =>
   (∃ v q, e = .returned (.tuple #[v, .bool q])) ∧ ∃ t2, trL t2 = cutL a n (trL t) ∧ TrT F w' g t2 ∧ (∀ j ∈ trB t2, j ∈ trB t) ∧ ChgS (fun j => j = g ∨ j ∈ trB t) w w' ∧ trCnt t2 ≤ trCnt t := by
 refine (tcutA_any (R := atR) g a n t w ha hT.root hT.tree hT.low hT.gF hT.gB (by have := hT.cnt; omega)).mono ?_; rintro e w' ⟨he, t2, hw2, hg2, hk2, hA2, hB2, hc2, hn2⟩; have hl := cut_list hT.tree.wf hw2 hg2; refine ⟨he, t2, hl, ⟨hk2, hA2, hT.gF, fun h => hT.gB (hB2 g h), fun j hj => Nat.lt_of_lt_of_le (hT.low j hj) hc2.size, fun z hz => ?_, Nat.le_trans hn2 hT.cnt⟩, hB2, hc2, hn2⟩; rw [hl] at hz; exact hT.ok z (List.mem_filter.1 hz).1
theorem own_chg {S : Nat → Prop} {w w' : World} {base e sz n : Nat} {v : Value} {xs : List Value} (h : w.ownsRow base e sz v n xs) (hc : ChgS S w w') (hS : ∀ j, base ≤ j → ¬ S j) : w'.ownsRow base e sz v n xs :=
 ⟨h.1, h.2.imp id (fun ⟨g, cap, cur, e1, e2, e3, rest⟩ => ⟨g, cap, cur, e1, e2, (hc.block g (heap_lt e3) (hS g e2)).trans e3, rest⟩)⟩
theorem cutL_none {α : Type} {a n : Nat} : ∀ {L : List (Nat × Nat × α)}, (∀ z ∈ L, ¬ (a = z.1 ∧ n = z.2.1)) → cutL a n L = L := fun {L} h => by
 unfold cutL; rw [List.filter_eq_self]; intro z hz; simp only [Bool.not_eq_true', decide_eq_false_iff_not]; exact h z hz
theorem gone_step {α : Type} {p : Nat × Nat × α → Bool} {P D : List (Nat × Nat × α)} {z : Nat × Nat × α} (hs : (P ++ z :: D).Pairwise PLt) : cutL z.1 z.2.1 (P.filter p ++ z :: D) = P.filter p ++ D := by
 have h2 := List.pairwise_append.1 hs; have h3 := List.pairwise_cons.1 h2.2.1
 have e1 : cutL z.1 z.2.1 (P.filter p) = P.filter p := cutL_none fun y hy => by
  have := h2.2.2 y (List.mem_filter.1 hy).1 z List.mem_cons_self; unfold PLt at this; omega
 have e2 : cutL z.1 z.2.1 D = D := cutL_none fun y hy => by
  have := h3.1 y hy; unfold PLt at this; omega
 unfold cutL at e1 e2 ⊢; rw [List.filter_append, List.filter_cons, e1, e2]
 simp
def GoneR (r ga gt m l : Nat) (Fa Ft : Nat → Prop) (ta tt : Tr AT) (L : List (Nat × Nat × AT)) (w w' : World) : Prop := ∃ tt', RSt r ga gt m l Fa Ft ta tt' w' ∧ (∀ j, WrB r gt tt' j → WrB r gt tt j) ∧ trL tt' = L.filter (fun z => (trGet z.1 z.2.1 ta).isSome) ∧ trCnt tt' ≤ trCnt tt ∧ ChgS (WrB r gt tt) w w'
set_option maxRecDepth 100000 in
set_option maxHeartbeats 8000000 in
theorem goneG_any (r ga gt m l : Nat) (Fa Ft : Nat → Prop) (ta tt : Tr AT) (w : World) (h : RSt r ga gt m l Fa Ft ta tt w) :
    Calls Tryz.prog 22 #[.pointer (some ⟨r, 0, none⟩)] w fun e w' => ∃ A n c, e = .returned (.slice A n c) ∧ LstAt 2 pxR w' A n c (keyL ((trL tt).filter (fun z => !(trGet z.1 z.2.1 ta).isSome))) ∧ GoneR r ga gt m l Fa Ft ta tt (trL tt) w w' := by
  obtain ⟨i0, hi, hz0, hz1, hz2⟩ := info_parts pxInfo; have HAl := hide (allA_any (R := atR) gt tt w h.told.root h.told.tree.mem h.told.low (Nat.le_trans h.told.cnt (by decide))); have hkl : (trL tt).length = trCnt tt := trL_len tt; have hcn := h.told.cnt; have HSo := hide (trL_sorted tt h.told.tree.wf); have HPG : Hid (∀ z ∈ trL tt, PG z.1 z.2.1) := hide (fun z hz => trGet_pg tt h.told.tree.wf ((trL_mem tt h.told.tree.wf).1 hz)); obtain ⟨L, hL⟩ : ∃ L, trL tt = L := ⟨_, rfl⟩
  obtain ⟨N, hN⟩ : ∃ N, trCnt tt = N := ⟨_, rfl⟩
  rw [hL] at HAl hkl HSo HPG ⊢; rw [hN] at HAl hkl hcn; have HL := hide hL; have HN := hide hN; have HKl := hide hkl; have HR0 := hide h.blk; have HS := hide h; have hrl := h.blk.lt; have hgl := h.told.root.lt; have HBl := hide h.told.tree.mem.lt; have z1 : w.cell? ⟨r, 1, none⟩ = some (.pointer (some ⟨gt, 0, none⟩)) := h.blk.cell 1; clear h hL hN hkl
  go_enter Tryz.func22, Tryz.ntmps22
  go_wp2_with fail
  refine HAl.out.mono ?_; rintro e w1 ⟨hb1, Aq, cq, rfl, hoq⟩; have HB1 := hide hb1; have hs1 := hb1.size; have HOq := hide hoq; have HR1 := hide (HR0.out.below hb1 hrl); have HT1 := hide (HS.out.told.below hb1); have HTa1 := hide (HS.out.aim.below hb1); have hcq : N ≤ cq := (own_pxs hoq).2.1; have hcm := (own_pxs hoq).2.2.1; unfold maxLen at hcm; have hr1 : r < w1.heap.size := (by omega)
  have hg1 : gt < w1.heap.size := (by omega)
  clear hb1 hoq z1; go_wp2
  go_loopw [3, 16] (fun vo iv wr => ∃ (q n1 : Nat) (A1 : Option Addr) (c1 : Nat) (t : Tr AT), q ≤ N ∧ n1 ≤ q ∧ iv = .int .i64 (q : Nat) ∧ vo = .slice A1 n1 c1 ∧ wr.ownsRow w1.heap.size 24 2 (.slice A1 n1 c1) n1 (pxC (keyL ((L.take q).filter (fun z => !(trGet z.1 z.2.1 ta).isSome)))) ∧ Blk wr r 119 #[.pointer (some ⟨ga, 0, none⟩), .pointer (some ⟨gt, 0, none⟩), .int .i64 (m : Nat), .int .i64 (l : Nat)] ∧ TrT Ft wr gt t ∧ (∀ j ∈ trB t, j ∈ trB tt) ∧ trL t = (L.take q).filter (fun z => (trGet z.1 z.2.1 ta).isSome) ++ L.drop q ∧ trCnt t ≤ N ∧ ChgS (fun j => j = gt ∨ j ∈ trB tt) w1 wr) (fun _ iv _ => N - (intOf iv).toNat)
  case atStart => exact ⟨0, 0, none, 0, tt, Nat.zero_le _, Nat.le_refl _, rfl, rfl, ⟨by simp [keyL, pxC], .inl ⟨rfl, rfl⟩⟩, HR1.out, HT1.out, fun j hj => hj, by rw [HL.out]; simp, by rw [HN.out]; exact Nat.le_refl _, chg_refl _ _⟩
  case round =>
    obtain ⟨q, n1, A1, c1, t, hq, hnq, rfl, rfl, hown, hrr, htt, htl, hLt, hct, hc2⟩ := hrel; have HO := hide hown; have HRr2 := hide hrr; have HTt := hide htt; have HTl := hide htl; have HLt := hide hLt; have HCt := hide hct; have HC2 := hide hc2; have HPq := hide (own_pxs (own_chg HOq.out hc2 (fun j hj hw => hw.elim (fun e => by omega) (fun hm => by have := HBl.out j hm; omega)))); have HTa := hide (HTa1.out.chg hc2 (fun j hj hw => (HS.out.ap j hw).2.2 hj) (fun j hj hw => (HS.out.ap j hw).1 hj) (fun hw => (HS.out.ap ga hw).2.1 rfl)); have hsr := hc2.size; clear hown hrr htt htl hLt hct hc2; by_cases hlt : q < N
    · obtain ⟨g3, o, a, n0, rfl, hg3, hx, f0, f1⟩ := PXat HPq.out hlt; unfold keyL at hx; rw [List.getElem?_map] at hx
      obtain ⟨z, hz⟩ : ∃ z, L[q]? = some z := by
        cases hz : L[q]? with
        | none => rw [hz] at hx; simp at hx
        | some z => exact ⟨z, rfl⟩
      rw [hz] at hx; simp only [Option.map_some, Option.some.injEq, Prod.mk.injEq] at hx; obtain ⟨rfl, rfl⟩ := hx; have HTk : Hid (L.take (q + 1) = L.take q ++ [z]) := hide (by rw [List.take_add_one, hz]; rfl)
      have HDr : Hid (L.drop q = z :: L.drop (q + 1)) := hide (by
        rw [List.getElem?_eq_some_iff] at hz; obtain ⟨h1, h2⟩ := hz; rw [← h2]; exact List.drop_eq_getElem_cons h1)
      have hPg := HPG.out z (List.mem_of_getElem? hz); obtain ⟨a, n0, X⟩ := z; simp only at hPg f0 f1; have HPg := hide hPg; have q1 : (q : Int) < (N : Int) := (by omega)
      have q0 : (0 : Int) ≤ (q : Int) := (by omega)
      have hwq : IntKind.i64.wrap ((q : Int) + 1) = (q : Int) + 1 := (by rw [IntKind.wrap_i64]; omega)
      obtain ⟨IS, hIS⟩ : ∃ b, (trGet a n0 ta).isSome = b := ⟨_, rfl⟩
      have HIS := hide hIS; clear hz hPg hIS; obtain ⟨w4, hw4⟩ : ∃ W, wr.alloc (.cells #[.int .u32 (a : Int), .int .i64 (n0 : Int)] 24) = W := ⟨_, rfl⟩
      have hb4 : Below wr.heap.size wr w4 := hw4 ▸ blkBelow1 wr _; have HBx : Hid (Blk w4 wr.heap.size 24 #[.int .u32 (a : Int), .int .i64 (n0 : Int)]) := hide (hw4 ▸ Blk.new wr _ _); have HRr := hide (HRr2.out.below hb4 HRr2.out.lt); have HTa := hide (HTa.out.below hb4); have HB4 := hide hb4; have HW4 := hide hw4; clear hb4 hw4
      go_upto_region 7 with fail
      rw [HW4.out]; refine wp_region_relG 12 w4.heap.size (Nat.le_refl _) [(fun v _ => v = .pointer (some ⟨r, 0, none⟩)), (fun v _ => v = .pointer (some ⟨r, 0, none⟩)), (fun v _ => v = .pointer (some ⟨r, 0, none⟩)), (fun v _ => v = .pointer (some ⟨ga, 0, none⟩)), (fun v _ => v = .agg #[.int .u32 (a : Int), .int .i64 (n0 : Int)]), (EV IS), (EV IS), (AVal), (fun v _ => v = .bool IS), (fun v w => ∃ R, v = .pointer (some ⟨R, 0, none⟩) ∧ BoxAt w4.heap.size w R), (fun _ W => True), (fun v _ => v = .bool IS)] (fun _ _ => True) (fun i Wa Wb => if i = 10 then EffBox w4.heap.size Wa Wb else Below Wa.heap.size Wa Wb) (by kernel_rfl) (by kernel_rfl) (by kernel_rfl) (by kernel_rfl) (by kernel_rfl) ?hE ?hR ?hP ?h0 ⟨?_, ?_, ?_, ?_, ?_, ?_, ?_, ?_, ?_, ?_, ?_, ?_, trivial⟩ ?_
      case hE =>
        intro i2 wa wb hB he; split at he
        · exact effBox_below he hB
        · exact he.mono hB
      case hR =>
        intro i2 j2 vq wa wb hij hB he h; split at he
        · rename_i hj2; subst hj2; refine keepAll_at (E := fun wa wb => EffBox w4.heap.size wa wb) (x := 10) (k := 0) ?_ (by omega) he h; exact ⟨fun _ v w1 w2 he h => h, fun _ v w1 w2 he h => h, fun _ v w1 w2 he h => h, fun _ v w1 w2 he h => h, fun _ v w1 w2 he h => h, fun _ v w1 w2 he h => h, fun _ v w1 w2 he h => h, fun _ v w1 w2 he h => h, fun _ v w1 w2 he h => h, fun _ v w1 w2 he h => by obtain ⟨R, e, h1⟩ := h; exact ⟨R, e, boxAt_eff h1 he⟩, fun hn => absurd rfl hn, fun _ v w1 w2 he h => h, trivial⟩
        · refine relMono _ ?_ i2 vq wa wb he h; exact ⟨fun _ _ _ _ h => h, fun _ _ _ _ h => h, fun _ _ _ _ h => h, fun _ _ _ _ h => h, fun _ _ _ _ h => h, fun v w1 w2 hb h => h, fun v w1 w2 hb h => h, fun v w1 w2 hb h => h, fun _ _ _ _ h => h, fun v w w2 hb ⟨R, e, h⟩ => ⟨R, e, boxAt_below h hb⟩, fun v w1 w2 hb h => trivial, fun _ _ _ _ h => h, trivial⟩
      case hP =>
        exact fun _ _ _ _ _ _ _ _ => trivial
      case h0 =>
        exact fun _ _ => trivial
      · refine relG_plain rfl rfl (fun _ _ h => h) ?_; intro Ac w5 hp; have a0 : Ac.eval (.tmp 0) = .pointer (some ⟨r, 0, none⟩) := hp.out 0 (by rfl); exact relPureX (.pointer (some ⟨r, 0, none⟩)) (fun ρ hρ h1 h2 h3 => by rw [hρ] at a0; simp [go_sem, ↓IntWalk.iteOmega, *]) rfl
      · refine relG_plain rfl rfl (fun _ _ h => h) ?_; intro Ac w5 hp; have a21 : Ac.eval (.tmp 21) = .pointer (some ⟨r, 0, none⟩) := hp.dep 0 (by kernel_rfl); exact relPureX (.pointer (some ⟨r, 0, none⟩)) (fun ρ hρ h1 h2 h3 => by rw [hρ] at a21; simp [go_sem, ↓IntWalk.iteOmega, *]) rfl
      · refine relG_plain rfl rfl (fun _ _ h => h) ?_; intro Ac w5 hp; have a22 : Ac.eval (.tmp 22) = .pointer (some ⟨r, 0, none⟩) := hp.dep 1 (by kernel_rfl); exact relPureX (.pointer (some ⟨r, 0, none⟩)) (fun ρ hρ h1 h2 h3 => by rw [hρ] at a22; simp [go_sem, ↓IntWalk.iteOmega, *]) rfl
      · refine relG_plain rfl rfl (fun _ _ h => h) ?_; intro Ac w5 hp; have hb := hp.bel; have a23 : Ac.eval (.tmp 23) = .pointer (some ⟨r, 0, none⟩) := hp.dep 2 (by kernel_rfl); have hr5 := HRr.out.below hb HRr.out.lt; have z0 : w5.cell? ⟨r, 0, none⟩ = some (.pointer (some ⟨ga, 0, none⟩)) := hr5.cell 0; exact relPureX (.pointer (some ⟨ga, 0, none⟩)) (fun ρ hρ h1 h2 h3 => by rw [hρ] at a23; simp [go_sem, ↓IntWalk.iteOmega, *]) rfl
      · refine relG_plain rfl rfl (fun _ _ h => h) ?_; intro Ac w5 hp; have hb := hp.bel; have a5 : Ac.eval (.tmp 5) = .pointer (some ⟨wr.heap.size, 0, none⟩) := hp.out 5 (by rfl); have hx5 := HBx.out.below hb HBx.out.lt; have z2 : w5.cell? ⟨wr.heap.size, 0, none⟩ = some (.int .u32 (a : Int)) := hx5.cell 0; have z3 : w5.cell? ⟨wr.heap.size, 1, none⟩ = some (.int .i64 (n0 : Int)) := hx5.cell 1; exact relPureX (.agg #[.int .u32 (a : Int), .int .i64 (n0 : Int)]) (fun ρ hρ h1 h2 h3 => by rw [hρ] at a5; simp [go_sem, ↓IntWalk.iteOmega, *]) rfl
      · refine relG_plain rfl rfl (fun _ _ h => h) ?_; intro Ac w5 hp; have hb := hp.bel; have a24 : Ac.eval (.tmp 24) = .pointer (some ⟨ga, 0, none⟩) := hp.dep 3 (by kernel_rfl); have a25 : Ac.eval (.tmp 25) = .agg #[.int .u32 (a : Int), .int .i64 (n0 : Int)] := hp.dep 4 (by kernel_rfl); obtain ⟨ρ, hρ, hc, hf, hgl⟩ := evalX Ac; rw [hρ] at a24 a25; refine relCall hρ 82 #[.pointer (some ⟨ga, 0, none⟩), .agg #[.int .u32 (a : Int), .int .i64 (n0 : Int)]] (by simp [go_sem, ↓IntWalk.iteOmega, *]) ?_; refine (tget_any Fa ga a n0 ta w5 HPg.out (HTa.out.below hb)).mono ?_; rintro e w6 ⟨v6, rfl, he6, hb6⟩; rw [HIS.out] at he6; exact ⟨_, rfl, he6, hb6⟩
      · refine relG_plain rfl rfl (fun _ _ h => h) ?_; intro Ac w5 hp; obtain ⟨hv, ov, Av, nv, cv, pv, mv, fv, sv, iv, Bv, kv, dv, a26⟩ := hp.dep 5 (by kernel_rfl); change Ac.eval (.tmp 26) = _ at a26; exact relPureX (.tuple #[atV hv ov Av nv cv pv mv fv sv iv Bv kv dv, .bool IS]) (fun ρ hρ h1 h2 h3 => by rw [hρ] at a26; simp [go_sem, ↓IntWalk.iteOmega, *]) ⟨hv, ov, Av, nv, cv, pv, mv, fv, sv, iv, Bv, kv, dv, rfl⟩
      · refine relG_plain rfl rfl (fun _ _ h => h) ?_; intro Ac w5 hp; obtain ⟨hy, oy, Ay, ny, cy, py, my, fy, sy, iy, By, ky, dy, a20⟩ := hp.dep 6 (by kernel_rfl); change Ac.eval (.tmp 20) = _ at a20; exact relPureX (atV hy oy Ay ny cy py my fy sy iy By ky dy) (fun ρ hρ h1 h2 h3 => by rw [hρ] at a20; simp [go_sem, ↓IntWalk.iteOmega, *]) ⟨hy, oy, Ay, ny, cy, py, my, fy, sy, iy, By, ky, dy, rfl⟩
      · refine relG_plain rfl rfl (fun _ _ h => h) ?_; intro Ac w5 hp; obtain ⟨hy, oy, Ay, ny, cy, py, my, fy, sy, iy, By, ky, dy, a20⟩ := hp.dep 6 (by kernel_rfl); change Ac.eval (.tmp 20) = _ at a20; exact relPureX (.bool IS) (fun ρ hρ h1 h2 h3 => by rw [hρ] at a20; simp [go_sem, ↓IntWalk.iteOmega, *]) rfl
      · refine relG_plain rfl rfl (fun _ _ h => h) ?_; intro Ac w5 hp; have hb := hp.bel; have hc := evalC Ac; have hf := evalF Ac; have hgl := evalG Ac; obtain ⟨ρ, hρ⟩ : ∃ ρ, Ac.eval = ρ := ⟨_, rfl⟩
        exact relVal hρ (.pointer (some ⟨w5.heap.size, 0, none⟩)) (w5.alloc (.cells #[.int .i64 0, .int .i64 0, .slice none 0 0, .int .u32 0, .int .u32 0, .int .u32 0, .int .u32 0, .int .u32 0, .slice none 0 0] 28)) (by simp [go_sem, ↓IntWalk.iteOmega, *]) ⟨_, rfl, hb.size, _, _, _, _, _, _, _, _, _, Blk.new w5 _ _⟩ ((Below.refl _ _).alloc (Nat.le_refl _) _)
      · refine relG_store rfl ?_; intro Ac w5 hp; obtain ⟨R6, a6, hR6⟩ := hp.dep 9 (by kernel_rfl); change Ac.eval (.tmp 6) = _ at a6; obtain ⟨hz, oz, Az, nz, cz, pz, mz, fz, sz, iz, Bz, kz, dz, a27⟩ := hp.dep 7 (by kernel_rfl); change Ac.eval (.tmp 27) = _ at a27; obtain ⟨hRb, u0, u1, u2, u3, u4, u5, u6, u7, u8, hK⟩ := hR6; exact ⟨_, .inl (exec_store rfl a6 a27 (storeA9 hK)), trivial, R6, hz, oz, Az, nz, cz, pz, mz, fz, sz, iz, Bz, kz, dz, ⟨hRb, u0, u1, u2, u3, u4, u5, u6, u7, u8, hK⟩, rfl⟩
      · refine relG_plain rfl rfl (fun _ _ h => h) ?_; intro Ac w5 hp; have a28 : Ac.eval (.tmp 28) = .bool IS := hp.dep 8 (by kernel_rfl); exact relPureX (.bool IS) (fun ρ hρ h1 h2 h3 => by rw [hρ] at a28; simp [go_sem, ↓IntWalk.iteOmega, *]) rfl
      intro u w8 hb7 hall; have e7 : u 11 = .bool IS := relAll_at hall (i := 11) (by decide +kernel); have efin : True := relAll_at hall (i := 10) (by decide +kernel); clear hall; simp only [List.drop_succ_cons, List.drop_zero, List.take_succ_cons, List.take_zero, putAll, Act.put, List.setIfInBounds_toArray, List.set_cons_zero, List.set_cons_succ, Nat.zero_add, Nat.reduceAdd, e7]; have hs4 := HB4.out.size; have hs8 := hb7.size; have HB8 := hide (HB4.out.trans (hb7.mono HB4.out.size)); have HRr9 := hide (HRr.out.below hb7 HRr.out.lt); have HBx9 := hide (HBx.out.below hb7 HBx.out.lt); have HO9 := hide (own_below HO.out HB8.out); have HT9 := hide (HTt.out.below HB8.out); clear hb7 f0 f1
      cases IS with
      | true =>
        go_wp2
        go_roundw
        case rel =>
          refine ⟨q + 1, n1, A1, c1, t, by omega, by omega, by go_num, rfl, ?_, HRr9.out, HT9.out, HTl.out, ?_, HCt.out, chg_trans HC2.out (chg_below (S := fun _ => False) HB8.out) (fun k h => h.elim)⟩
          · rw [HTk.out, List.filter_append]; have e : [(a, n0, X)].filter (fun z => !(trGet z.1 z.2.1 ta).isSome) = [] := (by rw [List.filter_cons]; simp only [HIS.out]; rfl)
            rw [e, List.append_nil]; exact HO9.out
          · rw [HLt.out, HTk.out, List.filter_append, HDr.out]; have e : [(a, n0, X)].filter (fun z => (trGet z.1 z.2.1 ta).isSome) = [(a, n0, X)] := (by rw [List.filter_cons]; simp only [HIS.out]; rfl)
            rw [e, List.append_assoc]
            rfl
        case measure => simp [intOf]; omega
      | false =>
        have y2 : w8.cell? ⟨wr.heap.size, 0, none⟩ = some (.int .u32 (a : Int)) := HBx9.out.cell 0; have y3 : w8.cell? ⟨wr.heap.size, 1, none⟩ = some (.int .i64 (n0 : Int)) := HBx9.out.cell 1; have hsw : w1.heap.size ≤ w8.heap.size := (by omega)
        go_upto_region 10 with (at_builtin; refine wpList_append_any _ rfl (.tmp 31) (.tmp 33) 45 rfl w1.heap.size 24 i0 _ 2 16 Tryz.underlying45 hi hz0 hz1 hz2 rfl (by decide) (.slice A1 n1 c1) n1 _ rfl (HO9.out.alloc _) (w8.heap.size + 1) (some ⟨w8.heap.size, 0, none⟩) 1 1 [.int .u32 (a : Int), .int .i64 (n0 : Int)] rfl (reads_blkN (Blk.new _ _ _) (by simp) rfl rfl) (by simp [Value.oneCell']) (by unfold maxLen; omega) (by omega) (by simp; omega) ?_; intro v' w9 h5 h6 h7; obtain ⟨A4, c4, rfl⟩ := own_slice h5; have HO4 := hide h5; have HG4 := hide h6; clear h5 h6 h7)
        have HB9 : Hid (Below w1.heap.size w8 w9) := hide (((Below.refl w1.heap.size w8).alloc hsw _).grown HG4.out (by simp; omega) (fun k hk => own_low_block HO9.out k hk)); have HRr9 := hide (HRr9.out.below HB9.out hr1); have HBx9 : Hid (Blk w9 wr.heap.size 24 #[.int .u32 (a : Int), .int .i64 (n0 : Int)]) := hide ((HBx9.out.alloc _).grown HG4.out (fun e => by have := own_block_lt HO.out _ e.symm; omega)); have HCg : Hid (ChgS (fun j => w1.heap.size ≤ j) w8 w9) := hide (chg_trans (chg_below (S := fun j => w1.heap.size ≤ j) (blkBelow1 w8 _)) (chg_grown (S := fun j => w1.heap.size ≤ j) HG4.out (fun k hk => own_low_block HO9.out k hk)) (fun k h => .inl h)); have HT10 := hide (HT9.out.chg HCg.out (fun j hj hw => by have := HBl.out j (HTl.out j hj); omega) (fun j hj hw => by have := HS.out.told.low j hj; omega) (by omega)); clear y2 y3; have Hmn := hide (show AllMono [(fun v _ => v = .pointer (some ⟨r, 0, none⟩)), (fun v _ => v = .pointer (some ⟨r, 0, none⟩)), (fun v _ => v = .pointer (some ⟨r, 1, none⟩)), (fun v _ => v = .pointer (some ⟨gt, 0, none⟩)), (fun v _ => v = .agg #[.int .u32 (a : Int), .int .i64 (n0 : Int)])] from by repeat (first | exact trivial | refine ⟨fun _ _ _ _ h => h, ?_⟩)); refine wp_region_relT 5 _ (by kernel_rfl) (by kernel_rfl) (by kernel_rfl) (by kernel_rfl) (by kernel_rfl) (relMono _ Hmn.out) ⟨?_, ?_, ?_, ?_, ?_, trivial⟩ ?_
        · refine relStep_plain rfl ?_; intro Ac w5 hp; have a0 : Ac.eval (.tmp 0) = .pointer (some ⟨r, 0, none⟩) := hp.out 0 (by rfl); exact relPureX (.pointer (some ⟨r, 0, none⟩)) (fun ρ hρ h1 h2 h3 => by rw [hρ] at a0; simp [go_sem, ↓IntWalk.iteOmega, *]) rfl
        · refine relStep_plain rfl ?_; intro Ac w5 hp; have a35 : Ac.eval (.tmp 35) = .pointer (some ⟨r, 0, none⟩) := hp.dep 0 (by kernel_rfl); exact relPureX (.pointer (some ⟨r, 0, none⟩)) (fun ρ hρ h1 h2 h3 => by rw [hρ] at a35; simp [go_sem, ↓IntWalk.iteOmega, *]) rfl
        · refine relStep_plain rfl ?_; intro Ac w5 hp; have a36 : Ac.eval (.tmp 36) = .pointer (some ⟨r, 0, none⟩) := hp.dep 1 (by kernel_rfl); exact relPureX (.pointer (some ⟨r, 1, none⟩)) (fun ρ hρ h1 h2 h3 => by rw [hρ] at a36; simp [go_sem, ↓IntWalk.iteOmega, *]) rfl
        · refine relStep_plain rfl ?_; intro Ac w5 hp; have hb := hp.bel; have a37 : Ac.eval (.tmp 37) = .pointer (some ⟨r, 1, none⟩) := hp.dep 2 (by kernel_rfl); have hr5 := HRr9.out.below hb HRr9.out.lt; have z1 : w5.cell? ⟨r, 1, none⟩ = some (.pointer (some ⟨gt, 0, none⟩)) := hr5.cell 1; exact relPureX (.pointer (some ⟨gt, 0, none⟩)) (fun ρ hρ h1 h2 h3 => by rw [hρ] at a37; simp [go_sem, ↓IntWalk.iteOmega, *]) rfl
        · refine relStep_plain rfl ?_; intro Ac w5 hp; have hb := hp.bel; have a5 : Ac.eval (.tmp 5) = .pointer (some ⟨wr.heap.size, 0, none⟩) := hp.out 5 (by rfl); have hx5 := HBx9.out.below hb HBx9.out.lt; have z2 : w5.cell? ⟨wr.heap.size, 0, none⟩ = some (.int .u32 (a : Int)) := hx5.cell 0; have z3 : w5.cell? ⟨wr.heap.size, 1, none⟩ = some (.int .i64 (n0 : Int)) := hx5.cell 1; exact relPureX (.agg #[.int .u32 (a : Int), .int .i64 (n0 : Int)]) (fun ρ hρ h1 h2 h3 => by rw [hρ] at a5; simp [go_sem, ↓IntWalk.iteOmega, *]) rfl
        intro u w11 hb7 hall; have e38 : u 3 = .pointer (some ⟨gt, 0, none⟩) := relAll_at hall (i := 3) (by decide +kernel); have e39 : u 4 = .agg #[.int .u32 (a : Int), .int .i64 (n0 : Int)] := relAll_at hall (i := 4) (by decide +kernel); clear hall; simp only [List.drop_succ_cons, List.drop_zero, List.take_succ_cons, List.take_zero, putAll, Act.put, List.setIfInBounds_toArray, List.set_cons_zero, List.set_cons_succ, Nat.zero_add, Nat.reduceAdd, e38, e39]; have HB11 := hide hb7; have HCu := hide (trcut_any Ft gt a n0 t w11 HPg.out (HT10.out.below hb7)); have HR11 := hide (HRr9.out.below hb7 HRr9.out.lt); have HO11 := hide (own_below HO4.out hb7); clear hb7
        go_wp2_with fail
        refine HCu.out.mono ?_; rintro e w12 ⟨⟨v12, q12, rfl⟩, t2, hl2, hT2, hB2, hc12, hn2⟩; have HR12 := hide (chg_blk hc12 HR11.out (fun hw => hw.elim HS.out.rgt (fun hm => HS.out.rBt (HTl.out r hm)))); have HO12 := hide (own_chg HO11.out hc12 (fun j hj hw => hw.elim (fun e => by omega) (fun hm => by have := HBl.out j (HTl.out j hm); omega))); have HC12 : Hid (ChgS (fun j => j = gt ∨ j ∈ trB tt) w1 w12) := hide (chg_trans (chg_trans (chg_trans (chg_trans HC2.out (chg_below (S := fun _ => False) HB8.out) (fun k h => h.elim)) HCg.out (fun k h => .inr h)) (chg_below (S := fun _ => False) HB11.out) (fun k h => h.elim)) hc12 (fun k h => .inl (h.imp id (HTl.out k)))); have HT12 := hide hT2; have HTl12 : Hid (∀ j ∈ trB t2, j ∈ trB tt) := hide (fun j hj => HTl.out j (hB2 j hj)); have HN12 : Hid (trCnt t2 ≤ N) := hide (Nat.le_trans hn2 HCt.out)
        have HL12 : Hid (trL t2 = (L.take (q + 1)).filter (fun z => (trGet z.1 z.2.1 ta).isSome) ++ L.drop (q + 1)) := hide (by
          rw [hl2, HLt.out, HDr.out, HTk.out, List.filter_append]; have e : [(a, n0, X)].filter (fun z => (trGet z.1 z.2.1 ta).isSome) = [] := (by rw [List.filter_cons]; simp only [HIS.out]; rfl)
          rw [e, List.append_nil]; refine gone_step (z := (a, n0, X)) ?_; rw [← HDr.out, List.take_append_drop]; exact HSo.out)
        clear hl2 hT2 hB2 hc12 hn2; go_wp2
        go_roundw
        case rel =>
          refine ⟨q + 1, n1 + 1, A4, c4, t2, by omega, by omega, by go_num, rfl, ?_, HR12.out, HT12.out, HTl12.out, HL12.out, HN12.out, HC12.out⟩; have e : [(a, n0, X)].filter (fun z => !(trGet z.1 z.2.1 ta).isSome) = [(a, n0, X)] := (by rw [List.filter_cons]; simp only [HIS.out]; rfl)
          rw [HTk.out, List.filter_append, e]; have e2 : ∀ K : List (Nat × Nat × AT), pxC (keyL (K ++ [(a, n0, X)])) = pxC (keyL K) ++ [.int .u32 (a : Int), .int .i64 (n0 : Int)] := fun K => by simp [keyL, pxC, List.flatMap_append]
          rw [e2]; exact HO12.out
        case measure => simp [intOf]; omega
    · obtain rfl : q = N := (by omega)
      have e1 : decide ((q : Int) < (q : Int)) = false := (by simp)
      have htk : L.take q = L := List.take_of_length_le (by rw [HKl.out]; exact Nat.le_refl _); have hdr : L.drop q = [] := List.drop_eq_nil_of_le (by rw [HKl.out]; exact Nat.le_refl _); rw [htk] at HO HLt; rw [hdr, List.append_nil] at HLt; clear htk hdr; go_wp2; go_ret; refine ⟨A1, n1, c1, rfl, own_pxs HO.out, ?_⟩; unfold GoneR; refine ⟨t, ⟨HRr2.out, HTa.out, HTt.out, HS.out.na, fun z hz => ?_, HS.out.rFa, HS.out.rFt, HS.out.rga, HS.out.rgt, HS.out.rBa, fun hm => HS.out.rBt (HTl.out r hm), fun j hj => HS.out.ap j (hj.imp id (HTl.out j))⟩, fun j hj => ?_, HLt.out, by rw [HN.out]; exact HCt.out, chg_mono (chg_trans (chg_below (S := fun j => j = gt ∨ j ∈ trB tt) HB1.out) HC2.out (fun k h => .inl h)) (fun k h => .inl (.inr h))⟩
      · rw [HLt.out] at hz; exact HS.out.nt z (HL.out ▸ (List.mem_filter.1 hz).1)
      · exact hj.imp id (fun h => h.imp id (HTl.out j))
end Go.Proofs.YtcinjckajnnhmaaGreat
set_option linter.unusedSimpArgs false
set_option linter.unusedVariables false
namespace Go.Proofs.YtcinjckajnnhmaaGreat
open Go.RowKit Go.WideShapes Go.ChangeShapes
attribute [local go_sem] Oper.semAt_some
set_option maxRecDepth 100000 in
set_option maxHeartbeats 8000000 in
theorem putbadA_any (g a : Nat) (n : Int) (vh vo : Int) (vA : Option Addr) (vn vc : Nat) (vp vm vf vs vi : Int) (vB : Option Addr) (vk vd : Nat) (w : World) (ha : a < 4294967296) (h1 : -9223372036854775808 ≤ n) (h2 : n ≤ 9223372036854775807) (hb : goodB a n = false) :
  Calls Tryz.prog 80 #[.pointer (some ⟨g, 0, none⟩), .agg #[.int .u32 (a : Int), .int .i64 n], .agg #[.int .i64 vh, .int .i64 vo, .slice vA vn vc, .int .u32 vp, .int .u32 vm, .int .u32 vf, .int .u32 vs, .int .u32 vi, .slice vB vk vd]] w fun e w' => (∃ v q, e = .returned (.tuple #[v, .bool q])) ∧ Below w.heap.size w w' := by
 obtain ⟨w0, hw0⟩ : ∃ w0, ((w.alloc (.cells #[.int .u32 (a : Int), .int .i64 n] 24)).alloc (.cells #[.int .i64 vh, .int .i64 vo, .slice vA vn vc, .int .u32 vp, .int .u32 vm, .int .u32 vf, .int .u32 vs, .int .u32 vi, .slice vB vk vd] 28)).alloc (.cells #[.int .i64 0, .int .i64 0, .slice none 0 0, .int .u32 0, .int .u32 0, .int .u32 0, .int .u32 0, .int .u32 0, .slice none 0 0] 28) = w0 := ⟨_, rfl⟩
 have hb0 : Below w.heap.size w w0 := hw0 ▸ blkBelow3q w _ _ _; have HZ0 : Hid (Blk w0 (w.heap.size + 1 + 1) 28 #[.int .i64 0, .int .i64 0, .slice none 0 0, .int .u32 0, .int .u32 0, .int .u32 0, .int .u32 0, .int .u32 0, .slice none 0 0]) := hide (hw0 ▸ blk_new' _ _ (by simp)); have HGd := hide (Good_any a n ha h1 h2); rw [hb] at HGd; unfold pfx at HGd; have HW0 := hide hw0; have HB0 := hide hb0; clear hw0 hb0 ha h1 h2 hb
 go_enter Tryz.func80, Tryz.ntmps80
 go_wp2_with fail
 rw [HW0.out]; refine (HGd.out _).mono ?_; rintro e w1 ⟨rfl, hb1⟩; have HB1 := hide (HB0.out.trans (hb1.mono HB0.out.size)); have HZ1 := hide (HZ0.out.below hb1 HZ0.out.lt); have z0 : w1.cell? ⟨w.heap.size + 1 + 1, 0, none⟩ = some (.int .i64 0) := HZ1.out.cell 0; have z1 : w1.cell? ⟨w.heap.size + 1 + 1, 1, none⟩ = some (.int .i64 0) := HZ1.out.cell 1; have z2 : w1.cell? ⟨w.heap.size + 1 + 1, 2, none⟩ = some (.slice none 0 0) := HZ1.out.cell 2; have z3 : w1.cell? ⟨w.heap.size + 1 + 1, 3, none⟩ = some (.int .u32 0) := HZ1.out.cell 3; have z4 : w1.cell? ⟨w.heap.size + 1 + 1, 4, none⟩ = some (.int .u32 0) := HZ1.out.cell 4; have z5 : w1.cell? ⟨w.heap.size + 1 + 1, 5, none⟩ = some (.int .u32 0) := HZ1.out.cell 5; have z6 : w1.cell? ⟨w.heap.size + 1 + 1, 6, none⟩ = some (.int .u32 0) := HZ1.out.cell 6; have z7 : w1.cell? ⟨w.heap.size + 1 + 1, 7, none⟩ = some (.int .u32 0) := HZ1.out.cell 7; have z8 : w1.cell? ⟨w.heap.size + 1 + 1, 8, none⟩ = some (.slice none 0 0) := HZ1.out.cell 8; have zf := fun i => HZ1.out.frozen i; clear hb1; go_wp2; change bodyPost _ _ _ _ _ (w1.setCells (w.heap.size + 1 + 1) 0 [.int .i64 0, .int .i64 0, .slice none 0 0, .int .u32 0, .int .u32 0, .int .u32 0, .int .u32 0, .int .u32 0, .slice none 0 0]); obtain ⟨wF, hwF⟩ : ∃ x, w1.setCells (w.heap.size + 1 + 1) 0 [.int .i64 0, .int .i64 0, .slice none 0 0, .int .u32 0, .int .u32 0, .int .u32 0, .int .u32 0, .int .u32 0, .slice none 0 0] = x := ⟨_, rfl⟩
 have HFk := hide (hwF ▸ blk_sets [.int .i64 0, .int .i64 0, .slice none 0 0, .int .u32 0, .int .u32 0, .int .u32 0, .int .u32 0, .int .u32 0, .slice none 0 0] [] [.int .i64 0, .int .i64 0, .slice none 0 0, .int .u32 0, .int .u32 0, .int .u32 0, .int .u32 0, .int .u32 0, .slice none 0 0] HZ1.out rfl : Blk wF (w.heap.size + 1 + 1) 28 #[.int .i64 0, .int .i64 0, .slice none 0 0, .int .u32 0, .int .u32 0, .int .u32 0, .int .u32 0, .int .u32 0, .slice none 0 0]); have HFb := hide (hwF ▸ below_sets [.int .i64 0, .int .i64 0, .slice none 0 0, .int .u32 0, .int .u32 0, .int .u32 0, .int .u32 0, .int .u32 0, .slice none 0 0] 0 HB1.out (by omega) : Below w.heap.size w wF); rw [hwF]; clear hwF z0 z1 z2 z3 z4 z5 z6 z7 z8 zf; have z0 : wF.cell? ⟨w.heap.size + 1 + 1, 0, none⟩ = some (.int .i64 0) := HFk.out.cell 0; have z1 : wF.cell? ⟨w.heap.size + 1 + 1, 1, none⟩ = some (.int .i64 0) := HFk.out.cell 1; have z2 : wF.cell? ⟨w.heap.size + 1 + 1, 2, none⟩ = some (.slice none 0 0) := HFk.out.cell 2; have z3 : wF.cell? ⟨w.heap.size + 1 + 1, 3, none⟩ = some (.int .u32 0) := HFk.out.cell 3; have z4 : wF.cell? ⟨w.heap.size + 1 + 1, 4, none⟩ = some (.int .u32 0) := HFk.out.cell 4; have z5 : wF.cell? ⟨w.heap.size + 1 + 1, 5, none⟩ = some (.int .u32 0) := HFk.out.cell 5; have z6 : wF.cell? ⟨w.heap.size + 1 + 1, 6, none⟩ = some (.int .u32 0) := HFk.out.cell 6; have z7 : wF.cell? ⟨w.heap.size + 1 + 1, 7, none⟩ = some (.int .u32 0) := HFk.out.cell 7; have z8 : wF.cell? ⟨w.heap.size + 1 + 1, 8, none⟩ = some (.slice none 0 0) := HFk.out.cell 8; exact bodyPost_ret (v := .tuple #[.agg #[.int .i64 0, .int .i64 0, .slice none 0 0, .int .u32 0, .int .u32 0, .int .u32 0, .int .u32 0, .int .u32 0, .slice none 0 0], .bool false]) (by simp [results, Tryz.results80, go_sem, z0, z1, z2, z3, z4, z5, z6, z7, z8]) rfl ⟨⟨_, _, rfl⟩, HFb.out⟩
end Go.Proofs.YtcinjckajnnhmaaGreat
set_option linter.unusedSimpArgs false
set_option linter.unusedVariables false
namespace Go.Proofs.YtcinjckajnnhmaaGreat
open Go.RowKit Go.WideShapes Go.ChangeShapes
attribute [local go_sem] Oper.semAt_some
def TdOk (x : TD) : Prop := (∃ a : Nat, x.a = (a : Int) ∧ a < 4294967296) ∧ -9223372036854775808 ≤ x.n ∧ x.n ≤ 9223372036854775807 ∧ AtOk x.at_
def aimStep (f : Nat → Nat → Option AT) (x : TD) : Nat → Nat → Option AT := fun c k => if goodB x.a.toNat x.n = true ∧ x.a = (c : Int) ∧ x.n = (k : Int) then some (normA x.at_) else f c k
def aimF (L : List TD) : Nat → Nat → Option AT := L.foldl aimStep (fun _ _ => none)
theorem aimF_push (L : List TD) (x : TD) : aimF (L ++ [x]) = aimStep (aimF L) x := by unfold aimF; rw [List.foldl_append]; rfl
def AimT (w' : World) (g : Nat) (L : List TD) : Prop := ∃ t F, TrT F w' g t ∧ (∀ j, F j → g < j) ∧ (∀ j ∈ trB t, g < j) ∧ (∀ c k, trGet c k t = aimF L c k) ∧ trCnt t ≤ L.length
set_option maxRecDepth 100000 in
set_option maxHeartbeats 8000000 in
theorem aimG_any (r gt : Nat) (m l : Int) (po : Option Addr) (A : Option Addr) (k c : Nat) (L : List TD) (w : World) (hk : Blk w r 119 #[.pointer po, .pointer (some ⟨gt, 0, none⟩), .int .i64 m, .int .i64 l]) (hL : ∀ w', ChgS (fun k => k = r) w w' → LstAt 11 tdR w' A k c L) (hR : ∀ x ∈ L, TdOk x) (hkb : k ≤ 20000) :
    Calls Tryz.prog 20 #[.pointer (some ⟨r, 0, none⟩), .slice A k c] w fun e w' => e = .returned (.tuple #[]) ∧ Blk w' r 119 #[.pointer (some ⟨w.heap.size, 0, none⟩), .pointer (some ⟨gt, 0, none⟩), .int .i64 m, .int .i64 l] ∧ AimT w' w.heap.size L ∧ ChgS (fun k => k = r) w w' := by
  have HN := hide newA_any; have HK := hide hk; have HL := hide hL; have HRg := hide hR; have hrl := hk.lt; have h1c : k ≤ c := (hL w (chg_refl _ w)).2.1; have hlen : L.length = k := (hL w (chg_refl _ w)).1; have HLen := hide hlen; have hcm := (hL w (chg_refl _ w)).2.2.1; unfold maxLen at hcm; clear hk hL hR hlen
  go_enter Tryz.func20, Tryz.ntmps20
  go_wp2_with fail
  refine (HN.out _).mono ?_; rintro e w1 ⟨rfl, hk1, hb1⟩; have hr1 := HK.out.below hb1 hrl; have z0 : w1.cell? ⟨r, 0, none⟩ = some (.pointer po) := hr1.cell 0; have zf := hr1.frozen 0; obtain ⟨w2, hw2⟩ : ∃ W, w1.setCell ⟨r, 0, none⟩ (.pointer (some ⟨w.heap.size, 0, none⟩)) = W := ⟨_, rfl⟩
  have HRr2 : Hid (Blk w2 r 119 #[.pointer (some ⟨w.heap.size, 0, none⟩), .pointer (some ⟨gt, 0, none⟩), .int .i64 m, .int .i64 l]) := hide (hw2 ▸ hr1.set_ 0 _); have HG2 : Hid (Blk w2 w.heap.size 201 #[.pointer none]) := hide (hw2 ▸ hk1.far (p := ⟨r, 0, none⟩) (by show w.heap.size ≠ r; omega) _); have HC2 : Hid (ChgS (fun k => k = r) w w2) := hide (hw2 ▸ chg_trans (chg_below hb1) (chg_set (S := fun k => k = r) (p := ⟨r, 0, none⟩) rfl _) (fun k h => .inl h)); have HW2 := hide hw2; clear hw2 hk1 hb1 hr1; go_wp2; rw [HW2.out]; clear z0 zf
  go_loopw [14] (fun iv wr => ∃ (q : Nat) (t : Tr AT) (F : Nat → Prop), q ≤ k ∧ iv = .int .i64 (q : Nat) ∧ Blk wr r 119 #[.pointer (some ⟨w.heap.size, 0, none⟩), .pointer (some ⟨gt, 0, none⟩), .int .i64 m, .int .i64 l] ∧ TrT F wr w.heap.size t ∧ (∀ j, F j → w.heap.size < j) ∧ (∀ j ∈ trB t, w.heap.size < j) ∧ (∀ c k, trGet c k t = aimF (L.take q) c k) ∧ trCnt t ≤ q ∧ ChgS (fun k => k = r) w wr) (fun iv _ => k - (intOf iv).toNat)
  case atStart => exact ⟨0, .nil, fun _ => False, Nat.zero_le _, rfl, HRr2.out, ⟨HG2.out, TrA.nil_, fun h => h, by simp [trB], fun _ h => h.elim, by simp [trL], by simp [trCnt]⟩, fun _ h => h.elim, by simp [trB], fun _ _ => rfl, Nat.le_refl _, HC2.out⟩
  case round =>
    obtain ⟨q, t, F, hq, rfl, hrr, htt, hFl, htl, hsp, hct, hc2⟩ := hrel; have HRr2 := hide hrr; have HTt := hide htt; have HFl := hide hFl; have HTl := hide htl; have HSp := hide hsp; have HCt := hide hct; have HC2 := hide hc2; have HG2 := hide htt.root; clear hrr htt hFl htl hsp hct hc2; by_cases hlt : q < k
    · obtain ⟨g2, o, x, XA, xn, xc, XB, xm, xd, rfl, hg2, hx, hxr, hxu, hcs⟩ := TDat (q := q) (HL.out _ HC2.out) hlt; have HTk : Hid (L.take (q + 1) = L.take q ++ [x]) := hide (by rw [List.take_add_one, hx]; rfl); have hxm := HRg.out x (List.mem_of_getElem? hx); obtain ⟨xa, n0, X⟩ := x; obtain ⟨⟨a, ha, hab⟩, hn1, hn2, hok⟩ := hxm; simp only at ha hn1 hn2 hok hxr hxu hcs; subst ha; have HOk := hide hok; obtain ⟨Y, hY⟩ : ∃ Y, normA X = Y := ⟨_, rfl⟩
      have HY := hide hY; have q1 : (q : Int) < (k : Int) := (by omega)
      have q0 : (0 : Int) ≤ (q : Int) := (by omega)
      have hwq : IntKind.i64.wrap ((q : Int) + 1) = (q : Int) + 1 := (by rw [IntKind.wrap_i64]; omega)
      clear hx hok hY; have f0 : wr.cell? ⟨g2, o + q * 11, none⟩ = some (.int .u32 (a : Int)) := hcs 0 _ rfl; have f1 : wr.cell? ⟨g2, o + q * 11 + 1, none⟩ = some (.int .i64 n0) := hcs 1 _ rfl; have f2 : wr.cell? ⟨g2, o + q * 11 + 2, none⟩ = some (.int .i64 X.has) := hcs 2 _ rfl; have f3 : wr.cell? ⟨g2, o + q * 11 + 3, none⟩ = some (.int .i64 X.org) := hcs 3 _ rfl; have f4 : wr.cell? ⟨g2, o + q * 11 + 4, none⟩ = some (.slice XA xn xc) := hcs 4 _ rfl; have f5 : wr.cell? ⟨g2, o + q * 11 + 5, none⟩ = some (.int .u32 X.hop) := hcs 5 _ rfl; have f6 : wr.cell? ⟨g2, o + q * 11 + 6, none⟩ = some (.int .u32 X.med) := hcs 6 _ rfl; have f7 : wr.cell? ⟨g2, o + q * 11 + 7, none⟩ = some (.int .u32 X.pref) := hcs 7 _ rfl; have f8 : wr.cell? ⟨g2, o + q * 11 + 8, none⟩ = some (.int .u32 X.aas) := hcs 8 _ rfl; have f9 : wr.cell? ⟨g2, o + q * 11 + 9, none⟩ = some (.int .u32 X.aid) := hcs 9 _ rfl; have f10 : wr.cell? ⟨g2, o + q * 11 + 10, none⟩ = some (.slice XB xm xd) := hcs 10 _ rfl; obtain ⟨w3, hw3⟩ : ∃ W, wr.alloc (.cells #[.int .u32 (a : Int), .int .i64 n0, .int .i64 X.has, .int .i64 X.org, .slice XA xn xc, .int .u32 X.hop, .int .u32 X.med, .int .u32 X.pref, .int .u32 X.aas, .int .u32 X.aid, .slice XB xm xd] 71) = W := ⟨_, rfl⟩
      have hb3 : Below wr.heap.size wr w3 := hw3 ▸ blkBelow1 wr _; have HBx : Hid (Blk w3 wr.heap.size 71 #[.int .u32 (a : Int), .int .i64 n0, .int .i64 X.has, .int .i64 X.org, .slice XA xn xc, .int .u32 X.hop, .int .u32 X.med, .int .u32 X.pref, .int .u32 X.aas, .int .u32 X.aid, .slice XB xm xd]) := hide (hw3 ▸ Blk.new wr _ _); have HRr := hide (HRr2.out.below hb3 HRr2.out.lt); have HXr := hide (hxr.below sgMono hb3); have HXu := hide (hxu.below hb3); have HB3 := hide hb3; have HW3 := hide hw3; have hs0 := HC2.out.size; have hg0 := HG2.out.lt; clear hcs hxr hxu hb3 hw3
      go_upto_region 5 with fail
      rw [HW3.out]; have Hmn := hide (show AllMono [(fun v _ => v = .pointer (some ⟨r, 0, none⟩)), (fun v _ => v = .pointer (some ⟨r, 0, none⟩)), (fun v _ => v = .pointer (some ⟨r, 0, none⟩)), (fun v _ => v = .pointer (some ⟨w.heap.size, 0, none⟩)), (fun v _ => v = .pointer (some ⟨wr.heap.size, 0, none⟩)), (fun v _ => v = .agg #[.int .u32 (a : Int), .int .i64 n0]), (fun v _ => v = .pointer (some ⟨wr.heap.size, 2, none⟩)), (fun v _ => v = atV X.has X.org XA xn xc X.hop X.med X.pref X.aas X.aid XB xm xd), (fun v W2 => ∃ A n c B m d, v = atV Y.has Y.org A n c Y.hop Y.med Y.pref Y.aas Y.aid B m d ∧ (∃ xs, LOw 2 133 sgR W2 w3.heap.size w3.heap.size A n c Y.path xs) ∧ FrB w3.heap.size none (fun w => U32s w B m d Y.comms) W2)] from ⟨fun _ _ _ _ h => h, fun _ _ _ _ h => h, fun _ _ _ _ h => h, fun _ _ _ _ h => h, fun _ _ _ _ h => h, fun _ _ _ _ h => h, fun _ _ _ _ h => h, fun _ _ _ _ h => h, fun v wr w3 hb ⟨A, n, c, B, m, d, e, ⟨xs, h1⟩, h2⟩ => ⟨A, n, c, B, m, d, e, ⟨xs, h1.below hb⟩, h2.below hb⟩, trivial⟩); refine wp_region_relT 9 _ (by kernel_rfl) (by kernel_rfl) (by kernel_rfl) (by kernel_rfl) (by kernel_rfl) (relMono _ Hmn.out) ⟨?_, ?_, ?_, ?_, ?_, ?_, ?_, ?_, ?_, trivial⟩ ?_
      · refine relStep_plain rfl ?_; intro Ac w5 hp; have a0 : Ac.eval (.tmp 0) = .pointer (some ⟨r, 0, none⟩) := hp.out 0 (by rfl); exact relPureX (.pointer (some ⟨r, 0, none⟩)) (fun ρ hρ h1 h2 h3 => by rw [hρ] at a0; simp [go_sem, ↓IntWalk.iteOmega, *]) rfl
      · refine relStep_plain rfl ?_; intro Ac w5 hp; have a18 : Ac.eval (.tmp 18) = .pointer (some ⟨r, 0, none⟩) := hp.dep 0 (by kernel_rfl); exact relPureX (.pointer (some ⟨r, 0, none⟩)) (fun ρ hρ h1 h2 h3 => by rw [hρ] at a18; simp [go_sem, ↓IntWalk.iteOmega, *]) rfl
      · refine relStep_plain rfl ?_; intro Ac w5 hp; have a19 : Ac.eval (.tmp 19) = .pointer (some ⟨r, 0, none⟩) := hp.dep 1 (by kernel_rfl); exact relPureX (.pointer (some ⟨r, 0, none⟩)) (fun ρ hρ h1 h2 h3 => by rw [hρ] at a19; simp [go_sem, ↓IntWalk.iteOmega, *]) rfl
      · refine relStep_plain rfl ?_; intro Ac w5 hp; have hb := hp.bel; have a20 : Ac.eval (.tmp 20) = .pointer (some ⟨r, 0, none⟩) := hp.dep 2 (by kernel_rfl); have hr5 := HRr.out.below hb HRr.out.lt; have z0 : w5.cell? ⟨r, 0, none⟩ = some (.pointer (some ⟨w.heap.size, 0, none⟩)) := hr5.cell 0; exact relPureX (.pointer (some ⟨w.heap.size, 0, none⟩)) (fun ρ hρ h1 h2 h3 => by rw [hρ] at a20; simp [go_sem, ↓IntWalk.iteOmega, *]) rfl
      · refine relStep_plain rfl ?_; intro Ac w5 hp; have a5 : Ac.eval (.tmp 5) = .pointer (some ⟨wr.heap.size, 0, none⟩) := hp.out 5 (by rfl); exact relPureX (.pointer (some ⟨wr.heap.size, 0, none⟩)) (fun ρ hρ h1 h2 h3 => by rw [hρ] at a5; simp [go_sem, ↓IntWalk.iteOmega, *]) rfl
      · refine relStep_plain rfl ?_; intro Ac w5 hp; have hb := hp.bel; have a22 : Ac.eval (.tmp 22) = .pointer (some ⟨wr.heap.size, 0, none⟩) := hp.dep 4 (by kernel_rfl); have hx5 := HBx.out.below hb HBx.out.lt; have z1 : w5.cell? ⟨wr.heap.size, 0, none⟩ = some (.int .u32 (a : Int)) := hx5.cell 0; have z2 : w5.cell? ⟨wr.heap.size, 1, none⟩ = some (.int .i64 n0) := hx5.cell 1; exact relPureX (.agg #[.int .u32 (a : Int), .int .i64 n0]) (fun ρ hρ h1 h2 h3 => by rw [hρ] at a22; simp [go_sem, ↓IntWalk.iteOmega, *]) rfl
      · refine relStep_plain rfl ?_; intro Ac w5 hp; have a5 : Ac.eval (.tmp 5) = .pointer (some ⟨wr.heap.size, 0, none⟩) := hp.out 5 (by rfl); exact relPureX (.pointer (some ⟨wr.heap.size, 2, none⟩)) (fun ρ hρ h1 h2 h3 => by rw [hρ] at a5; simp [go_sem, ↓IntWalk.iteOmega, *]) rfl
      · refine relStep_plain rfl ?_; intro Ac w5 hp; have hb := hp.bel; have a24 : Ac.eval (.tmp 24) = .pointer (some ⟨wr.heap.size, 2, none⟩) := hp.dep 6 (by kernel_rfl); have hx5 := HBx.out.below hb HBx.out.lt; have z3 : w5.cell? ⟨wr.heap.size, 2, none⟩ = some (.int .i64 X.has) := hx5.cell 2; have z4 : w5.cell? ⟨wr.heap.size, 3, none⟩ = some (.int .i64 X.org) := hx5.cell 3; have z5 : w5.cell? ⟨wr.heap.size, 4, none⟩ = some (.slice XA xn xc) := hx5.cell 4; have z6 : w5.cell? ⟨wr.heap.size, 5, none⟩ = some (.int .u32 X.hop) := hx5.cell 5; have z7 : w5.cell? ⟨wr.heap.size, 6, none⟩ = some (.int .u32 X.med) := hx5.cell 6; have z8 : w5.cell? ⟨wr.heap.size, 7, none⟩ = some (.int .u32 X.pref) := hx5.cell 7; have z9 : w5.cell? ⟨wr.heap.size, 8, none⟩ = some (.int .u32 X.aas) := hx5.cell 8; have z10 : w5.cell? ⟨wr.heap.size, 9, none⟩ = some (.int .u32 X.aid) := hx5.cell 9; have z11 : w5.cell? ⟨wr.heap.size, 10, none⟩ = some (.slice XB xm xd) := hx5.cell 10; exact relPureX (atV X.has X.org XA xn xc X.hop X.med X.pref X.aas X.aid XB xm xd) (fun ρ hρ h1 h2 h3 => by rw [hρ] at a24; simp [go_sem, ↓IntWalk.iteOmega, *]) rfl
      · refine relStep_plain rfl ?_; intro Ac w5 hp; have hb := hp.bel; have a25 : Ac.eval (.tmp 25) = atV X.has X.org XA xn xc X.hop X.med X.pref X.aas X.aid XB xm xd := hp.dep 7 (by kernel_rfl); obtain ⟨ρ, hρ, hc, hf, hgl⟩ := evalX Ac; rw [hρ] at a25; refine relCall hρ 68 #[atV X.has X.org XA xn xc X.hop X.med X.pref X.aas X.aid XB xm xd] (by simp [go_sem, ↓IntWalk.iteOmega, *]) ?_; refine (attrNormX_any X (atV X.has X.org XA xn xc X.hop X.med X.pref X.aas X.aid XB xm xd) w5 ⟨XA, xn, xc, XB, xm, xd, rfl, HXr.out.below sgMono hb, HXu.out.below hb⟩ HOk.out.1 HOk.out.2).mono ?_; rintro e w6 ⟨v6, rfl, ⟨A6, n6, c6, xs6, B6, m6, d6, rfl, hl6, hu6⟩, hb6⟩; rw [HY.out] at hl6 hu6 ⊢; exact ⟨_, rfl, ⟨A6, n6, c6, B6, m6, d6, rfl, ⟨xs6, hl6.less hb.size hb.size⟩, hu6.less hb.size⟩, hb6⟩
      intro u w8 hb7 hall; have e21 : u 3 = .pointer (some ⟨w.heap.size, 0, none⟩) := relAll_at hall (i := 3) (by decide +kernel); have e23 : u 5 = .agg #[.int .u32 (a : Int), .int .i64 n0] := relAll_at hall (i := 5) (by decide +kernel); obtain ⟨A9, n9, c9, B9, m9, d9, e26, ⟨xs9, hl9⟩, hu9⟩ := relAll_at hall (i := 8) (by decide +kernel); change u 8 = _ at e26; clear hall; simp only [List.drop_succ_cons, List.drop_zero, List.take_succ_cons, List.take_zero, putAll, Act.put, List.setIfInBounds_toArray, List.set_cons_zero, List.set_cons_succ, Nat.zero_add, Nat.reduceAdd, e21, e23, e26]; have HG8 := hide ((HG2.out.below HB3.out hg0).below hb7 (HG2.out.below HB3.out hg0).lt); have hg3 : w.heap.size < w3.heap.size := (HG2.out.below HB3.out hg0).lt; have HR8 := hide (HRr.out.below hb7 HRr.out.lt); have HB8 := hide (HB3.out.trans (hb7.mono HB3.out.size)); have hs8 := hb7.size; have Hb7 := hide hb7; clear f0 f1 f2 f3 f4 f5 f6 f7 f8 f9 f10; have HT8 := hide ((HTt.out.below HB3.out).below hb7); have hlw : ∀ j ∈ trB t, j < w3.heap.size := fun j hj => Nat.lt_of_lt_of_le (HTt.out.tree.mem.lt j hj) HB3.out.size; have hrw : r < w.heap.size := hrl; have hs8w : w3.heap.size ≤ w8.heap.size := hs8; clear hb7; by_cases hgd : goodB a n0 = true
      · obtain ⟨hPg, hnn⟩ := pg_good hab hgd; obtain ⟨n1, hn1e⟩ : ∃ n1, n0.toNat = n1 := ⟨_, rfl⟩
        rw [hn1e] at hPg hnn; clear hn1e; subst hnn; have HPt := hide (trput_any F w.heap.size t a n1 w3.heap.size Y A9 n9 c9 B9 m9 d9 xs9 w8 HT8.out hPg (HY.out ▸ atok_norm HOk.out) hl9 hu9 hg3 hlw (by have := HCt.out; omega)); have HGd := hide hgd; clear hl9 hu9 hgd hPg hlw
        go_wp2_with fail
        refine HPt.out.mono ?_; rintro e w9 ⟨⟨v9, q9, rfl⟩, t2, hpr, ht9, hB9, hc9⟩; have HR9 := hide (chg_blk hc9 HR8.out (fun h => h.elim (fun h => by omega) (fun h => by have := HTl.out r h; omega))); have HT9 := hide ht9; have HF9 : Hid (∀ j, (F j ∨ (w3.heap.size ≤ j ∧ j < w8.heap.size)) → w.heap.size < j) := hide (fun j hj => hj.elim (HFl.out j) (fun h => by omega)); have HB9 : Hid (∀ j ∈ trB t2, w.heap.size < j) := hide (fun j hj => (hB9 j hj).elim (HTl.out j) (fun h => by omega))
        have HS9 : Hid (∀ c k, trGet c k t2 = aimF (L.take (q + 1)) c k) := hide (fun c2 k2 => by
          rw [hpr.get, HTk.out, aimF_push]; unfold aimStep; simp only [Int.toNat_natCast, HGd.out, true_and, HY.out, HSp.out, Int.ofNat_inj])
        have HN9 : Hid (trCnt t2 ≤ q + 1) := hide (by have h1 := hpr.cnt; have h2 := HCt.out; split at h1 <;> omega); have HC9 : Hid (ChgS (fun k => k = r) w w9) := hide (chg_trans (chg_trans HC2.out (chg_below (S := fun _ => False) HB8.out) (fun k h => h.elim)) hc9 (fun k h => .inr (h.elim (fun h => by omega) (fun h => by have := HTl.out k h; omega)))); clear hpr ht9 hB9 hc9; go_wp2
        go_roundw
        case rel => exact ⟨q + 1, t2, _, by omega, by go_num, HR9.out, HT9.out, HF9.out, HB9.out, HS9.out, HN9.out, HC9.out⟩
        case measure => simp [intOf]; omega
      · have hbd : goodB a n0 = false := (by simpa using hgd)
        have HPt := hide (putbadA_any w.heap.size a n0 Y.has Y.org A9 n9 c9 Y.hop Y.med Y.pref Y.aas Y.aid B9 m9 d9 w8 hab hn1 hn2 hbd); have HGd := hide hbd; clear hl9 hu9 hgd hbd hlw
        go_wp2_with fail
        refine HPt.out.mono ?_; rintro e w9 ⟨⟨v9, q9, rfl⟩, hb9⟩; have HR9 := hide (HR8.out.below hb9 HR8.out.lt); have HT9 := hide (HT8.out.below hb9)
        have HS9 : Hid (∀ c k, trGet c k t = aimF (L.take (q + 1)) c k) := hide (fun c2 k2 => by
          rw [HTk.out, aimF_push]; unfold aimStep; simp only [Int.toNat_natCast, HGd.out, Bool.false_eq_true, false_and, if_false, HSp.out])
        have HC9 : Hid (ChgS (fun k => k = r) w w9) := hide (chg_trans (chg_trans HC2.out (chg_below (S := fun _ => False) HB8.out) (fun k h => h.elim)) (chg_below (S := fun _ => False) hb9) (fun k h => h.elim)); have HN9 : Hid (trCnt t ≤ q + 1) := hide (by have := HCt.out; omega); clear hb9; go_wp2
        go_roundw
        case rel => exact ⟨q + 1, t, F, by omega, by go_num, HR9.out, HT9.out, HFl.out, HTl.out, HS9.out, HN9.out, HC9.out⟩
        case measure => simp [intOf]; omega
    · obtain rfl : q = k := (by omega)
      have e1 : decide ((q : Int) < (q : Int)) = false := (by simp)
      have HSf : Hid (∀ c k, trGet c k t = aimF L c k) := hide (by
        have h1 := HSp.out
        rwa [List.take_of_length_le (by rw [HLen.out]; exact Nat.le_refl _)] at h1)
      go_wp2; refine bodyPost_end (results_none rfl _ _ _) rfl ?_; exact ⟨rfl, HRr2.out, ⟨t, F, HTt.out, HFl.out, HTl.out, HSf.out, by rw [HLen.out]; exact HCt.out⟩, HC2.out⟩
end Go.Proofs.YtcinjckajnnhmaaGreat
set_option linter.unusedSimpArgs false
set_option linter.unusedVariables false
namespace Go.Proofs.YtcinjckajnnhmaaGreat
open Go.RowKit Go.WideShapes Go.ChangeShapes
section
variable {α : Type}
theorem lkL_putL {c k a n : Nat} {x : α} {L : List (Nat × Nat × α)} (hs : L.Pairwise PLt) : lkL c k (putL a n x L) = if a = c ∧ n = k then some x else lkL c k L := by
 refine Option.ext fun y => ?_; rw [lkL_mem (putL_sorted hs), putL_mem hs]; simp only [Prod.mk.injEq]; split
 ·rename_i e; obtain ⟨rfl, rfl⟩ := e; constructor
  ·rintro (⟨_, _, rfl⟩ | ⟨_, h⟩)
   ·rfl
   ·exact absurd ⟨rfl, rfl⟩ h
  ·intro h; injection h with h
   exact .inl ⟨rfl, rfl, h.symm⟩
 ·rename_i e; rw [lkL_mem hs]; constructor
  ·rintro (⟨rfl, rfl, _⟩ | ⟨h, _⟩)
   ·exact absurd ⟨rfl, rfl⟩ e
   ·exact h
  ·exact fun h => .inr ⟨h, e⟩
theorem lk_ext {L R : List (Nat × Nat × α)} (hL : L.Pairwise PLt) (hR : R.Pairwise PLt) (h : ∀ c k, lkL c k L = lkL c k R) : L = R := by
 refine plt_ext L R hL hR fun z => ?_; obtain ⟨c, k, x⟩ := z; rw [← lkL_mem hL, ← lkL_mem hR, h]
theorem lkL_key {c k : Nat} {x : α} {L : List (Nat × Nat × α)} (h : lkL c k L = some x) : (c, k, x) ∈ L := by
 unfold lkL at h; rw [Option.map_eq_some_iff] at h; obtain ⟨z, hz, rfl⟩ := h; have h1 := List.find?_some hz; have h2 := List.mem_of_find?_eq_some hz; simp only [decide_eq_true_eq] at h1; obtain ⟨rfl, rfl⟩ := h1; exact h2
theorem lkL_filter {c k : Nat} {p : Nat × Nat × α → Bool} {L : List (Nat × Nat × α)} (hs : L.Pairwise PLt) : lkL c k (L.filter p) = (lkL c k L).bind (fun x => if p (c, k, x) then some x else none) := by
 refine Option.ext fun y => ?_; rw [lkL_mem (hs.sublist List.filter_sublist), List.mem_filter, ← lkL_mem hs]
 cases h : lkL c k L with
 | none => simp
 | some x =>
  simp only [Option.some.injEq, Option.bind_some]; constructor
  ·rintro ⟨rfl, hp⟩; rw [if_pos hp]
  ·intro h; split at h
   ·rename_i hp; injection h with h
    subst h; exact ⟨rfl, hp⟩
   ·cases h
end
theorem foldZ_sorted : ∀ (W L : List (Nat × Nat × AT)), L.Pairwise PLt → (W.foldl putZ L).Pairwise PLt
 | [], L, h => h
 | z :: W, L, h => foldZ_sorted W _ (putL_sorted h)
theorem foldZ_lk {c k : Nat} : ∀ (W L : List (Nat × Nat × AT)), W.Pairwise PLt → L.Pairwise PLt → lkL c k (W.foldl putZ L) = (match lkL c k W with | some x => some x | none => lkL c k L)
 | [], L, _, _ => rfl
 | z :: W, L, hW, hL => by
  have hW2 := List.pairwise_cons.1 hW; have ih := foldZ_lk (c := c) (k := k) W (putZ L z) hW2.2 (putL_sorted hL); rw [List.foldl_cons, ih]; unfold putZ; rw [lkL_putL hL]; by_cases e : z.1 = c ∧ z.2.1 = k
  ·have h1 : lkL c k W = none := by
    cases h : lkL c k W with
    | none => rfl
    | some x =>
     have := hW2.1 _ (lkL_key h); unfold PLt at this; simp only at this; omega
   have h2 : lkL c k (z :: W) = some z.2.2 := by
    unfold lkL; rw [List.find?_cons, decide_eq_true (show c = z.1 ∧ k = z.2.1 from ⟨e.1.symm, e.2.symm⟩)]
    rfl
   rw [h1, h2, if_pos e]
  ·have h2 : lkL c k (z :: W) = lkL c k W := by
    unfold lkL; rw [List.find?_cons, decide_eq_false (show ¬ (c = z.1 ∧ k = z.2.1) from fun h => e ⟨h.1.symm, h.2.symm⟩)]
   rw [h2, if_neg e]
def lackL (b : List (Nat × Nat × AT)) (z : Nat × Nat × AT) : Bool := match lkL z.1 z.2.1 b with | none => true | some y => !(eqA y z.2.2)
theorem lackG_list {t : Tr AT} {L : List (Nat × Nat × AT)} (hw : trWf t) (hn : NrmA L) : L.filter (lackG t) = L.filter (lackL (trL t)) := by
 refine List.filter_congr fun z hz => ?_; unfold lackG lackL; rw [trGet_lk hw, hn z hz]
 cases lkL z.1 z.2.1 (trL t) <;> rfl
theorem inG_list {t : Tr AT} {L : List (Nat × Nat × AT)} (hw : trWf t) : L.filter (fun z => (trGet z.1 z.2.1 t).isSome) = L.filter (fun z => (lkL z.1 z.2.1 (trL t)).isSome) := by
 refine List.filter_congr fun z hz => ?_; rw [trGet_lk hw]
theorem notG_list {t : Tr AT} {L : List (Nat × Nat × AT)} (hw : trWf t) : L.filter (fun z => !(trGet z.1 z.2.1 t).isSome) = L.filter (fun z => !(lkL z.1 z.2.1 (trL t)).isSome) := by
 refine List.filter_congr fun z hz => ?_; rw [trGet_lk hw]
def aimPut (acc : List (Nat × Nat × AT)) (x : TD) : List (Nat × Nat × AT) := if goodB x.a.toNat x.n = true then putL x.a.toNat x.n.toNat (normA x.at_) acc else acc
def aimL (L : List TD) : List (Nat × Nat × AT) := L.foldl aimPut []
theorem aimL_push (L : List TD) (x : TD) : aimL (L ++ [x]) = aimPut (aimL L) x := by unfold aimL; rw [List.foldl_append]; rfl
theorem aimPut_sorted {L : List (Nat × Nat × AT)} (h : L.Pairwise PLt) (x : TD) : (aimPut L x).Pairwise PLt := by
 unfold aimPut; split
 ·exact putL_sorted h
 ·exact h
theorem aimL_sorted (L : List TD) : (aimL L).Pairwise PLt := by
 unfold aimL
 suffices h : ∀ (L : List TD) (acc : List (Nat × Nat × AT)), acc.Pairwise PLt → (L.foldl aimPut acc).Pairwise PLt from h L [] List.Pairwise.nil
 intro L
 induction L with
 | nil => exact fun acc h => h
 | cons x L ih => exact fun acc h => ih _ (aimPut_sorted h x)
theorem aimF_lk (L : List TD) (hL : ∀ x ∈ L, TdOk x) (c k : Nat) : aimF L c k = lkL c k (aimL L) := by
 suffices h : ∀ (L : List TD) (f : Nat → Nat → Option AT) (acc : List (Nat × Nat × AT)), (∀ x ∈ L, TdOk x) → acc.Pairwise PLt → (∀ c k, f c k = lkL c k acc) → ∀ c k, L.foldl aimStep f c k = lkL c k (L.foldl aimPut acc) from
  h L _ [] hL List.Pairwise.nil (fun _ _ => rfl) c k
 intro L
 induction L with
 | nil => exact fun f acc _ _ h => h
 | cons x L ih =>
  intro f acc hL hs h; refine ih _ _ (fun y hy => hL y (List.mem_cons_of_mem _ hy)) (aimPut_sorted hs x) fun c k => ?_; obtain ⟨⟨a, ha, hab⟩, _⟩ := hL x List.mem_cons_self; unfold aimStep aimPut; rw [ha, Int.toNat_natCast]; by_cases hg : goodB a x.n = true
  ·have hn := (pg_good hab hg).2; rw [if_pos hg, lkL_putL hs, h]; by_cases e : a = c ∧ x.n.toNat = k
   ·rw [if_pos e, if_pos ⟨hg, by rw [e.1], by rw [hn, e.2]⟩]
   ·rw [if_neg e, if_neg]; rintro ⟨_, h1, h2⟩; exact e ⟨Int.ofNat_inj.1 h1, by rw [h2]; rfl⟩
  ·rw [if_neg hg, if_neg (fun h => hg h.1), h]
theorem aim_list {t : Tr AT} {L : List TD} (hw : trWf t) (hL : ∀ x ∈ L, TdOk x) (h : ∀ c k, trGet c k t = aimF L c k) : trL t = aimL L :=
 lk_ext (trL_sorted t hw) (aimL_sorted L) fun c k => by rw [← trGet_lk hw, h, aimF_lk L hL]
theorem aimPut_len (L : List (Nat × Nat × AT)) (x : TD) : (aimPut L x).length ≤ L.length + 1 := by
 have h : ∀ (a n : Nat) (y : AT) (L : List (Nat × Nat × AT)), (putL a n y L).length ≤ L.length + 1 := fun a n y L => by
  induction L with
  | nil => simp [putL]
  | cons z L ih =>
   unfold putL; split
   ·simp
   ·split
    ·simp
    ·simp only [List.length_cons]; omega
 unfold aimPut; split
 ·exact h _ _ _ _
 ·omega
theorem aimL_mem {L : List TD} : ∀ z ∈ aimL L, ∃ x ∈ L, z.2.2 = normA x.at_ ∧ goodB x.a.toNat x.n = true ∧ z.1 = x.a.toNat ∧ z.2.1 = x.n.toNat := by
 suffices h : ∀ (L' : List TD) (acc : List (Nat × Nat × AT)), (∀ x ∈ L', x ∈ L) → acc.Pairwise PLt → (∀ z ∈ acc, ∃ x ∈ L, z.2.2 = normA x.at_ ∧ goodB x.a.toNat x.n = true ∧ z.1 = x.a.toNat ∧ z.2.1 = x.n.toNat) → ∀ z ∈ L'.foldl aimPut acc, ∃ x ∈ L, z.2.2 = normA x.at_ ∧ goodB x.a.toNat x.n = true ∧ z.1 = x.a.toNat ∧ z.2.1 = x.n.toNat from
  h L [] (fun _ h => h) List.Pairwise.nil (by simp)
 intro L'
 induction L' with
 | nil => exact fun acc _ _ h => h
 | cons x L' ih =>
  intro acc hsub hs h; refine ih _ (fun y hy => hsub y (List.mem_cons_of_mem _ hy)) (aimPut_sorted hs x) fun z hz => ?_; unfold aimPut at hz; split at hz
  ·rename_i hg; rcases (putL_mem hs z).1 hz with rfl | ⟨hz, _⟩
   ·exact ⟨x, hsub x List.mem_cons_self, rfl, hg, rfl, rfl⟩
   ·exact h z hz
  ·exact h z hz
theorem aimL_nrm (L : List TD) : NrmA (aimL L) := fun z hz => by
 obtain ⟨x, _, e, _⟩ := aimL_mem z hz; rw [e]; exact normA_eq _
section
variable {A T : List (Nat × Nat × AT)}
theorem eqA_refl (x : AT) : eqA x x = true := (eqA_iff x x).2 rfl
theorem settle_fold (hA : A.Pairwise PLt) (hT : T.Pairwise PLt) (hk : ∀ z ∈ T, (lkL z.1 z.2.1 A).isSome = true) : (A.filter (lackL T)).foldl putZ T = A := by
 refine lk_ext (foldZ_sorted _ _ hT) hA fun c k => ?_; rw [foldZ_lk _ _ (hA.sublist List.filter_sublist) hT, lkL_filter hA]
 cases hA2 : lkL c k A with
 | none =>
  simp only [Option.bind_none]
  cases hT2 : lkL c k T with
  | none => rfl
  | some y =>
   have := hk _ (lkL_key hT2); simp only at this; rw [hA2] at this
   cases this
 | some x =>
  simp only [Option.bind_some]; by_cases hl : lackL T (c, k, x) = true
  ·rw [if_pos hl]
  ·rw [if_neg hl]; unfold lackL at hl; simp only at hl
   cases hT2 : lkL c k T with
   | none => rw [hT2] at hl; simp at hl
   | some y =>
    rw [hT2] at hl; simp only [Bool.not_eq_true', Bool.not_eq_false] at hl; rw [(eqA_iff y x).1 (by simpa using hl)]
theorem settle_same (hA : A.Pairwise PLt) : A.filter (lackL A) = [] := by
 rw [List.filter_eq_nil_iff]; intro z hz; unfold lackL; rw [(lkL_mem (a := z.1) (n := z.2.1) (x := z.2.2) hA).2 hz]; simp [eqA_refl]
theorem settle_some (hA : A.Pairwise PLt) (hT : T.Pairwise PLt) (hk : ∀ z ∈ T, (lkL z.1 z.2.1 A).isSome = true) (h : A.filter (lackL T) = []) : T = A := by
 have := settle_fold hA hT hk
 rwa [h] at this
theorem keep_keys : ∀ z ∈ T.filter (fun z => (lkL z.1 z.2.1 A).isSome), (lkL z.1 z.2.1 A).isSome = true := fun z hz => by simpa using (List.mem_filter.1 hz).2
end
theorem putL_insert {α : Type} {a n : Nat} {x : α} : ∀ {L : List (Nat × Nat × α)}, L.Pairwise PLt → ∀ i, (∀ j (h : j < i) (h2 : j < (L.filter (fun z => !decide (a = z.1 ∧ n = z.2.1))).length), ((L.filter (fun z => !decide (a = z.1 ∧ n = z.2.1)))[j].1 < a ∨ (L.filter (fun z => !decide (a = z.1 ∧ n = z.2.1)))[j].1 = a ∧ (L.filter (fun z => !decide (a = z.1 ∧ n = z.2.1)))[j].2.1 < n)) → i ≤ (L.filter (fun z => !decide (a = z.1 ∧ n = z.2.1))).length →
  (∀ h : i < (L.filter (fun z => !decide (a = z.1 ∧ n = z.2.1))).length, ¬ ((L.filter (fun z => !decide (a = z.1 ∧ n = z.2.1)))[i].1 < a ∨ (L.filter (fun z => !decide (a = z.1 ∧ n = z.2.1)))[i].1 = a ∧ (L.filter (fun z => !decide (a = z.1 ∧ n = z.2.1)))[i].2.1 < n)) →
  (L.filter (fun z => !decide (a = z.1 ∧ n = z.2.1))).take i ++ [(a, n, x)] ++ (L.filter (fun z => !decide (a = z.1 ∧ n = z.2.1))).drop i = putL a n x L := by
 intro L hs i h1 h2 h3; obtain ⟨M, hM⟩ : ∃ M, L.filter (fun z => !decide (a = z.1 ∧ n = z.2.1)) = M := ⟨_, rfl⟩
 have hMs : M.Pairwise PLt := hM ▸ hs.sublist List.filter_sublist; have hMm : ∀ z, z ∈ M ↔ z ∈ L ∧ ¬ (a = z.1 ∧ n = z.2.1) := fun z => by rw [← hM, List.mem_filter]; simp only [Bool.not_eq_true', decide_eq_false_iff_not]
 simp only [hM] at h1 h2 h3 ⊢
 have hlow : ∀ z ∈ M.take i, PLt z (a, n, x) := fun z hz => by
  obtain ⟨j, hj, rfl⟩ := List.getElem_of_mem hz; rw [List.length_take] at hj; rw [List.getElem_take]; exact h1 j (by omega) (by omega)
 have hhi : ∀ z ∈ M.drop i, PLt (a, n, x) z := fun z hz => by
  obtain ⟨j, hj, rfl⟩ := List.getElem_of_mem hz; rw [List.length_drop] at hj; rw [List.getElem_drop]; have hi : i < M.length := (by omega)
  have h4 := h3 hi; have h5 : ¬ (a = M[i].1 ∧ n = M[i].2.1) := ((hMm M[i]).1 (List.getElem_mem hi)).2
  have h6 : j = 0 ∨ PLt M[i] M[i + j] := by
   rcases Nat.eq_zero_or_pos j with h0 | h0
   ·exact .inl h0
   ·exact .inr (List.pairwise_iff_getElem.1 hMs i (i + j) hi (by omega) (by omega))
  unfold PLt at h6 ⊢; simp only; rcases h6 with rfl | h6
  ·simp only [Nat.add_zero]; omega
  ·omega
 refine plt_ext _ _ ?_ (putL_sorted hs) fun z => ?_
 ·rw [List.append_assoc]; refine List.pairwise_append.2 ⟨hMs.sublist (List.take_sublist _ _), ?_, fun y hy z hz => ?_⟩
  ·exact List.pairwise_cons.2 ⟨hhi, hMs.sublist (List.drop_sublist _ _)⟩
  ·rcases List.mem_cons.1 hz with rfl | hz
   ·exact hlow y hy
   ·have e1 := hlow y hy; have e2 := hhi z hz; unfold PLt at e1 e2 ⊢; simp only at e1 e2; omega
 ·rw [putL_mem hs, ← hMm]; simp only [List.mem_append, List.mem_singleton]; constructor
  ·rintro ((h | h) | h)
   ·exact .inr (List.mem_of_mem_take h)
   ·exact .inl h
   ·exact .inr (List.mem_of_mem_drop h)
  ·rintro (h | h)
   ·exact .inl (.inr h)
   ·rw [← List.take_append_drop i M] at h; rcases List.mem_append.1 h with h | h
    ·exact .inl (.inl h)
    ·exact .inr h
end Go.Proofs.YtcinjckajnnhmaaGreat
set_option linter.unusedSimpArgs false
set_option linter.unusedVariables false
namespace Go.Proofs.YtcinjckajnnhmaaGreat
open Go.RowKit Go.WideShapes Go.ChangeShapes
attribute [local go_sem] Oper.semAt_some
set_option maxRecDepth 100000 in
set_option maxHeartbeats 8000000 in
theorem refAttrSame_eq (X : AT) (v v' : Value) (w : World) (hv : AtR w X v) (hv' : AtR w X v') (hn : X.path.length ≤ 100000) : Calls Tryz.prog 46 #[v, v'] w (GoodP true w) := by
 obtain ⟨A, n, c, B, m, d, rfl, hP, hC⟩ := hv; obtain ⟨A2, n2, c2, B2, m2, d2, rfl, hP2, hC2⟩ := hv'; obtain ⟨w1, hw1⟩ : ∃ w1, (w.alloc (.cells (atC X.has X.org A n c X.hop X.med X.pref X.aas X.aid B m d) 28)).alloc (.cells (atC X.has X.org A2 n2 c2 X.hop X.med X.pref X.aas X.aid B2 m2 d2) 28) = w1 := ⟨_, rfl⟩
 have hb1 : Below w.heap.size w w1 := hw1 ▸ blkBelow2 w _ _; have HK1 : Hid (Blk w1 w.heap.size 28 (atC X.has X.org A n c X.hop X.med X.pref X.aas X.aid B m d)) := hide (hw1 ▸ (Blk.new w _ _).alloc _); have HK2 : Hid (Blk w1 (w.heap.size + 1) 28 (atC X.has X.org A2 n2 c2 X.hop X.med X.pref X.aas X.aid B2 m2 d2)) := hide (hw1 ▸ blk_new' _ _ (by simp)); have HPs := hide (psame_eq A A2 n c n2 c2 X.path w1 (hP.below sgMono hb1) (hP2.below sgMono hb1) (by rw [← hP.1]; exact hn)); have HU := hide (fun W (hb : Below w.heap.size w W) => hC.below hb); have HU2 := hide (fun W (hb : Below w.heap.size w W) => hC2.below hb); have HB1 := hide hb1; have HW1 := hide hw1; clear hw1 hb1 hP hP2 hC hC2 hn
 go_enter Tryz.func46, Tryz.ntmps46
 go_wp2_with fail
 rw [HW1.out]; refine HPs.out.mono ?_; rintro e w2 ⟨rfl, hb⟩; have HB2 := hide (HB1.out.trans (hb.mono HB1.out.size)); have HK1 := hide (HK1.out.below hb HK1.out.lt); have HK2 := hide (HK2.out.below hb HK2.out.lt); have HSa := hide (refSame_any B m d X.comms B2 m2 d2 X.comms w2 (HU.out w2 HB2.out) (HU2.out w2 HB2.out)); clear hb; obtain ⟨a0, a1, a2, a3, a4, a5, a6, a7, a8⟩ := blk9 HK1.out; obtain ⟨b0, b1, b2, b3, b4, b5, b6, b7, b8⟩ := blk9 HK2.out
 go_wp2_with fail
 refine HSa.out.mono ?_; rintro e w3 ⟨rfl, hb⟩; have HB3 := hide (HB2.out.trans (hb.mono HB2.out.size)); clear hb a0 a1 a2 a3 a4 a5 a6 a7 a8 b0 b1 b2 b3 b4 b5 b6 b7 b8; go_wp2; go_ret; exact ⟨by simp, HB3.out⟩
end Go.Proofs.YtcinjckajnnhmaaGreat
set_option linter.unusedSimpArgs false
set_option linter.unusedVariables false
namespace Go.Proofs.YtcinjckajnnhmaaGreat
open Go.RowKit Go.WideShapes Go.ChangeShapes
attribute [local go_sem] Oper.semAt_some
def tdZ (z : Nat × Nat × AT) : TD := ⟨(z.1 : Int), (z.2.1 : Int), z.2.2⟩
theorem tdN_Z {L : List (Nat × Nat × AT)} (h : NrmA L) : L.map tdN = L.map tdZ := List.map_congr_left fun z hz => by unfold tdN tdZ; rw [h z hz]
theorem TZat {w : World} {A : Option Addr} {n c q : Nat} {L : List (Nat × Nat × AT)} (h : LstAt 11 tdR w A n c (L.map tdZ)) (hq : q < n) : ∃ g o z B1 k1 c1 B2 m2 d2, A = some ⟨g, o, none⟩ ∧ g < w.heap.size ∧ L[q]? = some z ∧ LstAt 2 sgR w B1 k1 c1 z.2.2.path ∧ U32s w B2 m2 d2 z.2.2.comms ∧ ∀ (j : Nat) (v : Value), [.int .u32 (z.1 : Int), .int .i64 (z.2.1 : Int), .int .i64 z.2.2.has, .int .i64 z.2.2.org, .slice B1 k1 c1, .int .u32 z.2.2.hop, .int .u32 z.2.2.med, .int .u32 z.2.2.pref, .int .u32 z.2.2.aas, .int .u32 z.2.2.aid, .slice B2 m2 d2][j]? = some v → w.cell? ⟨g, o + q * 11 + j, none⟩ = some v := by
 obtain ⟨g, o, x, B1, k1, c1, B2, m2, d2, e, hg, hx, h1, h2, h3⟩ := TDat h hq; rw [List.getElem?_map] at hx
 cases hz : L[q]? with
 | none => rw [hz] at hx; simp at hx
 | some z =>
  rw [hz] at hx; simp only [Option.map_some, Option.some.injEq] at hx; subst hx; exact ⟨g, o, z, B1, k1, c1, B2, m2, d2, e, hg, rfl, h1, h2, h3⟩
def At36 (L : List (Nat × Nat × AT)) (a n : Nat) (k : Int) : Prop := (∃ (i : Nat) (x : AT), k = (i : Int) ∧ i < L.length ∧ L[i]? = some (a, n, x) ∧ lkL a n L = some x) ∨ (k = -1 ∧ lkL a n L = none)
theorem lk_first {a n q : Nat} {z : Nat × Nat × AT} : ∀ {L : List (Nat × Nat × AT)}, (∀ y ∈ L.take q, ¬ (a = y.1 ∧ n = y.2.1)) → L[q]? = some z → a = z.1 ∧ n = z.2.1 → lkL a n L = some z.2.2 := fun {L} h hz e => by
 have hL : L = L.take q ++ z :: L.drop (q + 1) := by
  obtain ⟨h1, h2⟩ := List.getElem?_eq_some_iff.1 hz; rw [← h2, ← List.drop_eq_getElem_cons h1, List.take_append_drop]
 unfold lkL; rw [hL, List.find?_append]
 have e1 : (L.take q).find? (fun z => decide (a = z.1 ∧ n = z.2.1)) = none := by
  rw [List.find?_eq_none]; intro y hy; simp only [decide_eq_true_eq]; exact h y hy
 rw [e1, List.find?_cons, decide_eq_true e]
 rfl
theorem lk_nowhere {a n : Nat} {L : List (Nat × Nat × AT)} (h : ∀ y ∈ L, ¬ (a = y.1 ∧ n = y.2.1)) : lkL a n L = none := by
 unfold lkL
 have e1 : L.find? (fun z => decide (a = z.1 ∧ n = z.2.1)) = none := by
  rw [List.find?_eq_none]; intro y hy; simp only [decide_eq_true_eq]; exact h y hy
 rw [e1]
 rfl
set_option maxRecDepth 100000 in
set_option maxHeartbeats 8000000 in
theorem refAt36_any (A : Option Addr) (n c : Nat) (L : List (Nat × Nat × AT)) (a n0 : Nat) (w : World) (h : LstAt 11 tdR w A n c (L.map tdZ)) :
  Calls Tryz.prog 26 #[.slice A n c, .agg #[.int .u32 (a : Int), .int .i64 (n0 : Int)]] w fun e w' => ∃ k, e = .returned (.int .i64 k) ∧ At36 L a n0 k ∧ Below w.heap.size w w' := by
 have hln : L.length = n := (by have := h.1; rwa [List.length_map] at this)
 have hnc := h.2.1; have hmx := h.2.2.1; unfold maxLen at hmx; have HL := hide h; have HLn := hide hln; obtain ⟨w0, hw0⟩ : ∃ W, w.alloc (.cells #[.int .u32 (a : Int), .int .i64 (n0 : Int)] 24) = W := ⟨_, rfl⟩
 have hb0 : Below w.heap.size w w0 := hw0 ▸ blkBelow1 w _; have HBx : Hid (Blk w0 w.heap.size 24 #[.int .u32 (a : Int), .int .i64 (n0 : Int)]) := hide (hw0 ▸ Blk.new w _ _); have HB0 := hide hb0; have HW0 := hide hw0; have hs0 := hb0.size; clear h hln hw0 hb0
 go_enter Tryz.func26, Tryz.ntmps26
 go_wp2; rw [HW0.out]
 go_loopw [5] (fun iv wr => ∃ q : Nat, q ≤ n ∧ iv = .int .i64 (q : Nat) ∧ Below w0.heap.size w0 wr ∧ ∀ y ∈ L.take q, ¬ (a = y.1 ∧ n0 = y.2.1)) (fun iv _ => n - (intOf iv).toNat)
 case atStart => exact ⟨0, Nat.zero_le _, rfl, Below.refl _ _, by simp⟩
 case round =>
  obtain ⟨q, hq, rfl, hbel, hno⟩ := hrel; have HBe := hide hbel; have HNo := hide hno; by_cases hlt : q < n
  ·obtain ⟨g, o, z, B1, k1, c1, B2, m2, d2, rfl, hg, hz, _, _, hcs⟩ := TZat ((HL.out.below tdMono HB0.out).below tdMono hbel) hlt; have HTk : Hid (L.take (q + 1) = L.take q ++ [z]) := hide (by rw [List.take_add_one, hz]; rfl); have HZ := hide hz; have F0 : Hid (wr.cell? ⟨g, o + q * 11, none⟩ = some (.int .u32 (z.1 : Int))) := hide (hcs 0 _ rfl); have F1 : Hid (wr.cell? ⟨g, o + q * 11 + 1, none⟩ = some (.int .i64 (z.2.1 : Int))) := hide (hcs 1 _ rfl); have HBw := hide (HBx.out.below hbel HBx.out.lt); obtain ⟨a2, m2, X⟩ := z; simp only at F0 F1; have q1 : (q : Int) < (n : Int) := (by omega)
   have q0 : (0 : Int) ≤ (q : Int) := (by omega)
   have hwq : IntKind.i64.wrap ((q : Int) + 1) = (q : Int) + 1 := (by rw [IntKind.wrap_i64]; omega)
   obtain ⟨E, hE⟩ : ∃ b, ((a2 : Int) == (a : Int) && (m2 : Int) == (n0 : Int)) = b := ⟨_, rfl⟩
   have HE := hide hE; have HEi : Hid (E = true ↔ (a = a2 ∧ n0 = m2)) := hide (by rw [← hE]; simp only [Bool.and_eq_true, beq_iff_eq, Int.ofNat_inj]; exact ⟨fun ⟨x, y⟩ => ⟨x.symm, y.symm⟩, fun ⟨x, y⟩ => ⟨x.symm, y.symm⟩⟩); clear hbel hno hz hcs hE; go_wp2; have Hmn := hide (show AllMono [(fun v _ => v = .slice (some ⟨g, o, none⟩) n c), (fun v _ => v = .int .i64 (q : Int)), (fun v _ => v = .pointer (some ⟨g, o + q * 11, none⟩)), (fun v _ => v = .pointer (some ⟨g, o + q * 11, none⟩)), (fun v _ => v = .agg #[.int .u32 (a2 : Int), .int .i64 (m2 : Int)]), (fun v _ => v = .agg #[.int .u32 (a : Int), .int .i64 (n0 : Int)]), (fun v _ => v = .bool E)] from by repeat (first | exact trivial | refine ⟨fun _ _ _ _ h => h, ?_⟩)); refine wp_region_rel _ (by kernel_rfl) (by kernel_rfl) (relMono _ Hmn.out) ⟨?_, ?_, ?_, ?_, ?_, ?_, ?_, trivial⟩ ?_
   ·refine relStep_plain rfl ?_; intro Ac w5 hp; have a0 : Ac.eval (.tmp 0) = .slice (some ⟨g, o, none⟩) n c := hp.out 0 (by rfl); exact relPureX (.slice (some ⟨g, o, none⟩) n c) (fun ρ hρ h1 h2 h3 => by rw [hρ] at a0; simp [go_sem, ↓IntWalk.iteOmega, *]) rfl
   ·refine relStep_plain rfl ?_; intro Ac w5 hp; have a5 : Ac.eval (.tmp 5) = .int .i64 (q : Int) := hp.out 5 (by rfl); exact relPureX (.int .i64 (q : Int)) (fun ρ hρ h1 h2 h3 => by rw [hρ] at a5; simp [go_sem, ↓IntWalk.iteOmega, *]) rfl
   ·refine relStep_plain rfl ?_; intro Ac w5 hp; have a12 : Ac.eval (.tmp 12) = .slice (some ⟨g, o, none⟩) n c := hp.dep 0 (by kernel_rfl); have a13 : Ac.eval (.tmp 13) = .int .i64 (q : Int) := hp.dep 1 (by kernel_rfl); exact relPureX (.pointer (some ⟨g, o + q * 11, none⟩)) (fun ρ hρ h1 h2 h3 => by rw [hρ] at a12 a13; simp [go_sem, ↓IntWalk.iteOmega, *]) rfl
   ·refine relStep_plain rfl ?_; intro Ac w5 hp; have a14 : Ac.eval (.tmp 14) = .pointer (some ⟨g, o + q * 11, none⟩) := hp.dep 2 (by kernel_rfl); exact relPureX (.pointer (some ⟨g, o + q * 11, none⟩)) (fun ρ hρ h1 h2 h3 => by rw [hρ] at a14; simp [go_sem, ↓IntWalk.iteOmega, *]) rfl
   ·refine relStep_plain rfl ?_; intro Ac w5 hp; have hb := hp.bel; have a15 : Ac.eval (.tmp 15) = .pointer (some ⟨g, o + q * 11, none⟩) := hp.dep 3 (by kernel_rfl); have f0 : w5.cell? ⟨g, o + q * 11, none⟩ = some (.int .u32 (a2 : Int)) := (hb.cell hg).trans F0.out; have f1 : w5.cell? ⟨g, o + q * 11 + 1, none⟩ = some (.int .i64 (m2 : Int)) := (hb.cell hg).trans F1.out; exact relPureX (.agg #[.int .u32 (a2 : Int), .int .i64 (m2 : Int)]) (fun ρ hρ h1 h2 h3 => by rw [hρ] at a15; simp [go_sem, ↓IntWalk.iteOmega, *]) rfl
   ·refine relStep_plain rfl ?_; intro Ac w5 hp; have hb := hp.bel; have a3 : Ac.eval (.tmp 3) = .pointer (some ⟨w.heap.size, 0, none⟩) := hp.out 3 (by rfl); have hx5 := HBw.out.below hb HBw.out.lt; have z2 : w5.cell? ⟨w.heap.size, 0, none⟩ = some (.int .u32 (a : Int)) := hx5.cell 0; have z3 : w5.cell? ⟨w.heap.size, 1, none⟩ = some (.int .i64 (n0 : Int)) := hx5.cell 1; exact relPureX (.agg #[.int .u32 (a : Int), .int .i64 (n0 : Int)]) (fun ρ hρ h1 h2 h3 => by rw [hρ] at a3; simp [go_sem, ↓IntWalk.iteOmega, *]) rfl
   ·refine relStep_plain rfl ?_; intro Ac w5 hp; have a16 : Ac.eval (.tmp 16) = .agg #[.int .u32 (a2 : Int), .int .i64 (m2 : Int)] := hp.dep 4 (by kernel_rfl); have a17 : Ac.eval (.tmp 17) = .agg #[.int .u32 (a : Int), .int .i64 (n0 : Int)] := hp.dep 5 (by kernel_rfl); have heq := HE.out; exact relPureX (.bool E) (fun ρ hρ h1 h2 h3 => by rw [hρ] at a16 a17; simp [go_sem, ↓IntWalk.iteOmega, *]; rw [← heq]; by_cases h1 : (a2 : Int) = (a : Int) <;> by_cases h2 : (m2 : Int) = (n0 : Int) <;> simp [h1, h2]) rfl
   intro u w8 hb7 hall; have e18 : u 6 = .bool E := relAll_at hall (i := 6) (by decide +kernel); clear hall; simp only [List.drop_succ_cons, List.drop_zero, List.take_succ_cons, List.take_zero, putAll, Act.put, List.setIfInBounds_toArray, List.set_cons_zero, List.set_cons_succ, Nat.zero_add, Nat.reduceAdd, e18]; have HB8 := hide (HBe.out.trans (hb7.mono HBe.out.size)); clear hb7
   cases E with
   | true =>
    go_wp2; go_ret; refine ⟨(q : Int), rfl, .inl ⟨q, X, rfl, by rw [HLn.out]; exact hlt, ?_, ?_⟩, HB0.out.trans (HB8.out.mono HB0.out.size)⟩
    ·have e := HEi.out.1 (by simp); rw [HZ.out, e.1, e.2]
    ·exact lk_first HNo.out HZ.out (HEi.out.1 (by simp))
   | false =>
    go_wp2
    go_roundw
    case rel =>
     refine ⟨q + 1, by omega, by go_num, HB8.out, fun y hy => ?_⟩; rw [HTk.out, List.mem_append, List.mem_singleton] at hy; rcases hy with hy | rfl
     ·exact HNo.out y hy
     ·exact fun e => absurd (HEi.out.2 e) (by simp)
    case measure => simp [intOf]; omega
  ·obtain rfl : q = n := (by omega)
   have e1 : decide ((q : Int) < (q : Int)) = false := (by simp)
   have HNw : Hid (lkL a n0 L = none) := hide (lk_nowhere (fun y hy => hno y (by rw [List.take_of_length_le (by rw [HLn.out]; exact Nat.le_refl _)]; exact hy))); clear hbel hlt hno; go_wp2; go_ret; exact ⟨-1, rfl, .inr ⟨rfl, HNw.out⟩, HB0.out.trans (HBe.out.mono HB0.out.size)⟩
set_option maxRecDepth 100000 in
set_option maxHeartbeats 8000000 in
theorem toldSame_eq (A B : Option Addr) (n c m d : Nat) (L : List (Nat × Nat × AT)) (w : World) (h : LstAt 11 tdR w A n c (L.map tdZ)) (h' : LstAt 11 tdR w B m d (L.map tdZ)) (hpl : ∀ z ∈ L, z.2.2.path.length ≤ 100000) :
  Calls Tryz.prog 29 #[.slice A n c, .slice B m d] w (GoodP true w) := by
 obtain rfl : n = m := h.1.symm.trans h'.1; have hnc := h.2.1; have hmx := h.2.2.1; have hnd := h'.2.1; have hmx2 := h'.2.2.1; unfold maxLen at hmx hmx2; have HL1 := hide h; have HL2 := hide h'; have HPls := hide hpl; clear h h' hpl
 go_enter Tryz.func29, Tryz.ntmps29
 go_wp2
 go_loopw [5] (fun iv wr => ∃ q : Nat, q ≤ n ∧ iv = .int .i64 (q : Nat) ∧ Below w.heap.size w wr) (fun iv _ => n - (intOf iv).toNat)
 case atStart => exact ⟨0, Nat.zero_le _, rfl, Below.refl _ _⟩
 case round =>
  obtain ⟨q, hq, rfl, hbel⟩ := hrel; have HBe := hide hbel; by_cases hlt : q < n
  ·obtain ⟨g, o, z, B1, k1, c1, C1, m1, d1, rfl, hg, hx, hr1, hu1, hcs1⟩ := TZat (HL1.out.below tdMono hbel) hlt; obtain ⟨g2, o2, z2, B2, k2, c2, C2, m2, d2, rfl, hg2, hx2, hr2, hu2, hcs2⟩ := TZat (HL2.out.below tdMono hbel) hlt; rw [hx] at hx2; simp only [Option.some.injEq] at hx2; subst hx2; have HPl := hide (HPls.out z (List.mem_of_getElem? hx)); have HR1 := hide hr1; have HR2 := hide hr2; have HU1 := hide hu1; have HU2 := hide hu2; have HC1 := hide hcs1; have HC2 := hide hcs2; have i1 : (q : Int) < (n : Int) := (by omega)
   have i0 : (0 : Int) ≤ (q : Int) := (by omega)
   have hwi : IntKind.i64.wrap ((q : Int) + 1) = (q : Int) + 1 := (by rw [IntKind.wrap_i64]; omega)
   clear hbel hx hr1 hr2 hu1 hu2 hcs1 hcs2; go_wp2; have Hmn := hide (show AllMono [(fun v _ => v = .slice (some ⟨g, o, none⟩) n c), (fun v _ => v = .int .i64 (q : Int)), (fun v _ => v = .pointer (some ⟨g, o + q * 11, none⟩)), (fun v _ => v = .pointer (some ⟨g, o + q * 11, none⟩)), (fun v _ => v = .agg #[.int .u32 (z.1 : Int), .int .i64 (z.2.1 : Int)]), (fun v _ => v = .slice (some ⟨g2, o2, none⟩) n d), (fun v _ => v = .int .i64 (q : Int)), (fun v _ => v = .pointer (some ⟨g2, o2 + q * 11, none⟩)), (fun v _ => v = .pointer (some ⟨g2, o2 + q * 11, none⟩)), (fun v _ => v = .agg #[.int .u32 (z.1 : Int), .int .i64 (z.2.1 : Int)]), (fun v _ => v = .bool false), (fun v _ => v = .bool false), (fun v _ => v = .slice (some ⟨g, o, none⟩) n c), (fun v _ => v = .int .i64 (q : Int)), (fun v _ => v = .pointer (some ⟨g, o + q * 11, none⟩)), (fun v _ => v = .pointer (some ⟨g, o + q * 11 + 2, none⟩)), (fun v _ => v = atV z.2.2.has z.2.2.org B1 k1 c1 z.2.2.hop z.2.2.med z.2.2.pref z.2.2.aas z.2.2.aid C1 m1 d1), (fun v _ => v = .slice (some ⟨g2, o2, none⟩) n d), (fun v _ => v = .int .i64 (q : Int)), (fun v _ => v = .pointer (some ⟨g2, o2 + q * 11, none⟩)), (fun v _ => v = .pointer (some ⟨g2, o2 + q * 11 + 2, none⟩)), (fun v _ => v = atV z.2.2.has z.2.2.org B2 k2 c2 z.2.2.hop z.2.2.med z.2.2.pref z.2.2.aas z.2.2.aid C2 m2 d2), (fun v _ => v = .bool true), (fun v _ => v = .bool false), (fun v _ => v = .bool false)] from by repeat (first | exact trivial | refine ⟨fun _ _ _ _ h => h, ?_⟩)); refine wp_region_rel _ (by kernel_rfl) (by kernel_rfl) (relMono _ Hmn.out) ⟨?_, ?_, ?_, ?_, ?_, ?_, ?_, ?_, ?_, ?_, ?_, ?_, ?_, ?_, ?_, ?_, ?_, ?_, ?_, ?_, ?_, ?_, ?_, ?_, ?_, trivial⟩ ?_
   ·refine relStep_plain rfl ?_; intro Ac w5 hp; have a0 : Ac.eval (.tmp 0) = .slice (some ⟨g, o, none⟩) n c := hp.out 0 (by rfl); exact relPureX (.slice (some ⟨g, o, none⟩) n c) (fun ρ hρ h1 h2 h3 => by rw [hρ] at a0; simp [go_sem, ↓IntWalk.iteOmega, *]) rfl
   ·refine relStep_plain rfl ?_; intro Ac w5 hp; have a5 : Ac.eval (.tmp 5) = .int .i64 (q : Int) := hp.out 5 (by rfl); exact relPureX (.int .i64 (q : Int)) (fun ρ hρ h1 h2 h3 => by rw [hρ] at a5; simp [go_sem, ↓IntWalk.iteOmega, *]) rfl
   ·refine relStep_plain rfl ?_; intro Ac w5 hp; have a17 : Ac.eval (.tmp 17) = .slice (some ⟨g, o, none⟩) n c := hp.dep 0 (by kernel_rfl); have a18 : Ac.eval (.tmp 18) = .int .i64 (q : Int) := hp.dep 1 (by kernel_rfl); exact relPureX (.pointer (some ⟨g, o + q * 11, none⟩)) (fun ρ hρ h1 h2 h3 => by rw [hρ] at a17 a18; simp [go_sem, ↓IntWalk.iteOmega, *]) rfl
   ·refine relStep_plain rfl ?_; intro Ac w5 hp; have a19 : Ac.eval (.tmp 19) = .pointer (some ⟨g, o + q * 11, none⟩) := hp.dep 2 (by kernel_rfl); exact relPureX (.pointer (some ⟨g, o + q * 11, none⟩)) (fun ρ hρ h1 h2 h3 => by rw [hρ] at a19; simp [go_sem, ↓IntWalk.iteOmega, *]) rfl
   ·refine relStep_plain rfl ?_; intro Ac w5 hp; have hb := hp.bel; have a20 : Ac.eval (.tmp 20) = .pointer (some ⟨g, o + q * 11, none⟩) := hp.dep 3 (by kernel_rfl); have f0 : w5.cell? ⟨g, o + q * 11, none⟩ = some (.int .u32 (z.1 : Int)) := (hb.cell hg).trans (HC1.out 0 _ rfl); have f1 : w5.cell? ⟨g, o + q * 11 + 1, none⟩ = some (.int .i64 (z.2.1 : Int)) := (hb.cell hg).trans (HC1.out 1 _ rfl); have f2 : w5.cell? ⟨g, o + q * 11 + 2, none⟩ = some (.int .i64 z.2.2.has) := (hb.cell hg).trans (HC1.out 2 _ rfl); have f3 : w5.cell? ⟨g, o + q * 11 + 3, none⟩ = some (.int .i64 z.2.2.org) := (hb.cell hg).trans (HC1.out 3 _ rfl); have f4 : w5.cell? ⟨g, o + q * 11 + 4, none⟩ = some (.slice B1 k1 c1) := (hb.cell hg).trans (HC1.out 4 _ rfl); have f5 : w5.cell? ⟨g, o + q * 11 + 5, none⟩ = some (.int .u32 z.2.2.hop) := (hb.cell hg).trans (HC1.out 5 _ rfl); have f6 : w5.cell? ⟨g, o + q * 11 + 6, none⟩ = some (.int .u32 z.2.2.med) := (hb.cell hg).trans (HC1.out 6 _ rfl); have f7 : w5.cell? ⟨g, o + q * 11 + 7, none⟩ = some (.int .u32 z.2.2.pref) := (hb.cell hg).trans (HC1.out 7 _ rfl); have f8 : w5.cell? ⟨g, o + q * 11 + 8, none⟩ = some (.int .u32 z.2.2.aas) := (hb.cell hg).trans (HC1.out 8 _ rfl); have f9 : w5.cell? ⟨g, o + q * 11 + 9, none⟩ = some (.int .u32 z.2.2.aid) := (hb.cell hg).trans (HC1.out 9 _ rfl); have f10 : w5.cell? ⟨g, o + q * 11 + 10, none⟩ = some (.slice C1 m1 d1) := (hb.cell hg).trans (HC1.out 10 _ rfl); exact relPureX (.agg #[.int .u32 (z.1 : Int), .int .i64 (z.2.1 : Int)]) (fun ρ hρ h1 h2 h3 => by rw [hρ] at a20; simp [go_sem, ↓IntWalk.iteOmega, *]) rfl
   ·refine relStep_plain rfl ?_; intro Ac w5 hp; have a1 : Ac.eval (.tmp 1) = .slice (some ⟨g2, o2, none⟩) n d := hp.out 1 (by rfl); exact relPureX (.slice (some ⟨g2, o2, none⟩) n d) (fun ρ hρ h1 h2 h3 => by rw [hρ] at a1; simp [go_sem, ↓IntWalk.iteOmega, *]) rfl
   ·refine relStep_plain rfl ?_; intro Ac w5 hp; have a5 : Ac.eval (.tmp 5) = .int .i64 (q : Int) := hp.out 5 (by rfl); exact relPureX (.int .i64 (q : Int)) (fun ρ hρ h1 h2 h3 => by rw [hρ] at a5; simp [go_sem, ↓IntWalk.iteOmega, *]) rfl
   ·refine relStep_plain rfl ?_; intro Ac w5 hp; have a22 : Ac.eval (.tmp 22) = .slice (some ⟨g2, o2, none⟩) n d := hp.dep 5 (by kernel_rfl); have a23 : Ac.eval (.tmp 23) = .int .i64 (q : Int) := hp.dep 6 (by kernel_rfl); exact relPureX (.pointer (some ⟨g2, o2 + q * 11, none⟩)) (fun ρ hρ h1 h2 h3 => by rw [hρ] at a22 a23; simp [go_sem, ↓IntWalk.iteOmega, *]) rfl
   ·refine relStep_plain rfl ?_; intro Ac w5 hp; have a24 : Ac.eval (.tmp 24) = .pointer (some ⟨g2, o2 + q * 11, none⟩) := hp.dep 7 (by kernel_rfl); exact relPureX (.pointer (some ⟨g2, o2 + q * 11, none⟩)) (fun ρ hρ h1 h2 h3 => by rw [hρ] at a24; simp [go_sem, ↓IntWalk.iteOmega, *]) rfl
   ·refine relStep_plain rfl ?_; intro Ac w5 hp; have hb := hp.bel; have a25 : Ac.eval (.tmp 25) = .pointer (some ⟨g2, o2 + q * 11, none⟩) := hp.dep 8 (by kernel_rfl); have f0 : w5.cell? ⟨g2, o2 + q * 11, none⟩ = some (.int .u32 (z.1 : Int)) := (hb.cell hg2).trans (HC2.out 0 _ rfl); have f1 : w5.cell? ⟨g2, o2 + q * 11 + 1, none⟩ = some (.int .i64 (z.2.1 : Int)) := (hb.cell hg2).trans (HC2.out 1 _ rfl); have f2 : w5.cell? ⟨g2, o2 + q * 11 + 2, none⟩ = some (.int .i64 z.2.2.has) := (hb.cell hg2).trans (HC2.out 2 _ rfl); have f3 : w5.cell? ⟨g2, o2 + q * 11 + 3, none⟩ = some (.int .i64 z.2.2.org) := (hb.cell hg2).trans (HC2.out 3 _ rfl); have f4 : w5.cell? ⟨g2, o2 + q * 11 + 4, none⟩ = some (.slice B2 k2 c2) := (hb.cell hg2).trans (HC2.out 4 _ rfl); have f5 : w5.cell? ⟨g2, o2 + q * 11 + 5, none⟩ = some (.int .u32 z.2.2.hop) := (hb.cell hg2).trans (HC2.out 5 _ rfl); have f6 : w5.cell? ⟨g2, o2 + q * 11 + 6, none⟩ = some (.int .u32 z.2.2.med) := (hb.cell hg2).trans (HC2.out 6 _ rfl); have f7 : w5.cell? ⟨g2, o2 + q * 11 + 7, none⟩ = some (.int .u32 z.2.2.pref) := (hb.cell hg2).trans (HC2.out 7 _ rfl); have f8 : w5.cell? ⟨g2, o2 + q * 11 + 8, none⟩ = some (.int .u32 z.2.2.aas) := (hb.cell hg2).trans (HC2.out 8 _ rfl); have f9 : w5.cell? ⟨g2, o2 + q * 11 + 9, none⟩ = some (.int .u32 z.2.2.aid) := (hb.cell hg2).trans (HC2.out 9 _ rfl); have f10 : w5.cell? ⟨g2, o2 + q * 11 + 10, none⟩ = some (.slice C2 m2 d2) := (hb.cell hg2).trans (HC2.out 10 _ rfl); exact relPureX (.agg #[.int .u32 (z.1 : Int), .int .i64 (z.2.1 : Int)]) (fun ρ hρ h1 h2 h3 => by rw [hρ] at a25; simp [go_sem, ↓IntWalk.iteOmega, *]) rfl
   ·refine relStep_plain rfl ?_; intro Ac w5 hp; have a21 : Ac.eval (.tmp 21) = .agg #[.int .u32 (z.1 : Int), .int .i64 (z.2.1 : Int)] := hp.dep 4 (by kernel_rfl); have a26 : Ac.eval (.tmp 26) = .agg #[.int .u32 (z.1 : Int), .int .i64 (z.2.1 : Int)] := hp.dep 9 (by kernel_rfl); exact relPureX (.bool false) (fun ρ hρ h1 h2 h3 => by rw [hρ] at a21 a26; simp [go_sem, ↓IntWalk.iteOmega, *]) rfl
   ·refine relStep_plain rfl ?_; intro Ac w5 hp; have a27 : Ac.eval (.tmp 27) = .bool false := hp.dep 10 (by kernel_rfl); exact relPureX (.bool false) (fun ρ hρ h1 h2 h3 => by rw [hρ] at a27; simp [go_sem, ↓IntWalk.iteOmega, *]) rfl
   ·refine relStep_guard (g := 11) (b := false) (x := false) rfl (by kernel_rfl) rfl (by kernel_rfl) rfl (fun _ _ h => h) ?_; intro Ac w5 hp; have a0 : Ac.eval (.tmp 0) = .slice (some ⟨g, o, none⟩) n c := hp.out 0 (by rfl); exact relPureX (.slice (some ⟨g, o, none⟩) n c) (fun ρ hρ h1 h2 h3 => by rw [hρ] at a0; simp [go_sem, ↓IntWalk.iteOmega, *]) rfl
   ·refine relStep_guard (g := 11) (b := false) (x := false) rfl (by kernel_rfl) rfl (by kernel_rfl) rfl (fun _ _ h => h) ?_; intro Ac w5 hp; have a5 : Ac.eval (.tmp 5) = .int .i64 (q : Int) := hp.out 5 (by rfl); exact relPureX (.int .i64 (q : Int)) (fun ρ hρ h1 h2 h3 => by rw [hρ] at a5; simp [go_sem, ↓IntWalk.iteOmega, *]) rfl
   ·refine relStep_guard (g := 11) (b := false) (x := false) rfl (by kernel_rfl) rfl (by kernel_rfl) rfl (fun _ _ h => h) ?_; intro Ac w5 hp; have a29 : Ac.eval (.tmp 29) = .slice (some ⟨g, o, none⟩) n c := hp.dep 12 (by kernel_rfl); have a30 : Ac.eval (.tmp 30) = .int .i64 (q : Int) := hp.dep 13 (by kernel_rfl); exact relPureX (.pointer (some ⟨g, o + q * 11, none⟩)) (fun ρ hρ h1 h2 h3 => by rw [hρ] at a29 a30; simp [go_sem, ↓IntWalk.iteOmega, *]) rfl
   ·refine relStep_guard (g := 11) (b := false) (x := false) rfl (by kernel_rfl) rfl (by kernel_rfl) rfl (fun _ _ h => h) ?_; intro Ac w5 hp; have a31 : Ac.eval (.tmp 31) = .pointer (some ⟨g, o + q * 11, none⟩) := hp.dep 14 (by kernel_rfl); exact relPureX (.pointer (some ⟨g, o + q * 11 + 2, none⟩)) (fun ρ hρ h1 h2 h3 => by rw [hρ] at a31; simp [go_sem, ↓IntWalk.iteOmega, *]) rfl
   ·refine relStep_guard (g := 11) (b := false) (x := false) rfl (by kernel_rfl) rfl (by kernel_rfl) rfl (fun _ _ h => h) ?_; intro Ac w5 hp; have hb := hp.bel; have a32 : Ac.eval (.tmp 32) = .pointer (some ⟨g, o + q * 11 + 2, none⟩) := hp.dep 15 (by kernel_rfl); have f0 : w5.cell? ⟨g, o + q * 11, none⟩ = some (.int .u32 (z.1 : Int)) := (hb.cell hg).trans (HC1.out 0 _ rfl); have f1 : w5.cell? ⟨g, o + q * 11 + 1, none⟩ = some (.int .i64 (z.2.1 : Int)) := (hb.cell hg).trans (HC1.out 1 _ rfl); have f2 : w5.cell? ⟨g, o + q * 11 + 2, none⟩ = some (.int .i64 z.2.2.has) := (hb.cell hg).trans (HC1.out 2 _ rfl); have f3 : w5.cell? ⟨g, o + q * 11 + 3, none⟩ = some (.int .i64 z.2.2.org) := (hb.cell hg).trans (HC1.out 3 _ rfl); have f4 : w5.cell? ⟨g, o + q * 11 + 4, none⟩ = some (.slice B1 k1 c1) := (hb.cell hg).trans (HC1.out 4 _ rfl); have f5 : w5.cell? ⟨g, o + q * 11 + 5, none⟩ = some (.int .u32 z.2.2.hop) := (hb.cell hg).trans (HC1.out 5 _ rfl); have f6 : w5.cell? ⟨g, o + q * 11 + 6, none⟩ = some (.int .u32 z.2.2.med) := (hb.cell hg).trans (HC1.out 6 _ rfl); have f7 : w5.cell? ⟨g, o + q * 11 + 7, none⟩ = some (.int .u32 z.2.2.pref) := (hb.cell hg).trans (HC1.out 7 _ rfl); have f8 : w5.cell? ⟨g, o + q * 11 + 8, none⟩ = some (.int .u32 z.2.2.aas) := (hb.cell hg).trans (HC1.out 8 _ rfl); have f9 : w5.cell? ⟨g, o + q * 11 + 9, none⟩ = some (.int .u32 z.2.2.aid) := (hb.cell hg).trans (HC1.out 9 _ rfl); have f10 : w5.cell? ⟨g, o + q * 11 + 10, none⟩ = some (.slice C1 m1 d1) := (hb.cell hg).trans (HC1.out 10 _ rfl); exact relPureX (atV z.2.2.has z.2.2.org B1 k1 c1 z.2.2.hop z.2.2.med z.2.2.pref z.2.2.aas z.2.2.aid C1 m1 d1) (fun ρ hρ h1 h2 h3 => by rw [hρ] at a32; simp [go_sem, ↓IntWalk.iteOmega, *]) rfl
   ·refine relStep_guard (g := 11) (b := false) (x := false) rfl (by kernel_rfl) rfl (by kernel_rfl) rfl (fun _ _ h => h) ?_; intro Ac w5 hp; have a1 : Ac.eval (.tmp 1) = .slice (some ⟨g2, o2, none⟩) n d := hp.out 1 (by rfl); exact relPureX (.slice (some ⟨g2, o2, none⟩) n d) (fun ρ hρ h1 h2 h3 => by rw [hρ] at a1; simp [go_sem, ↓IntWalk.iteOmega, *]) rfl
   ·refine relStep_guard (g := 11) (b := false) (x := false) rfl (by kernel_rfl) rfl (by kernel_rfl) rfl (fun _ _ h => h) ?_; intro Ac w5 hp; have a5 : Ac.eval (.tmp 5) = .int .i64 (q : Int) := hp.out 5 (by rfl); exact relPureX (.int .i64 (q : Int)) (fun ρ hρ h1 h2 h3 => by rw [hρ] at a5; simp [go_sem, ↓IntWalk.iteOmega, *]) rfl
   ·refine relStep_guard (g := 11) (b := false) (x := false) rfl (by kernel_rfl) rfl (by kernel_rfl) rfl (fun _ _ h => h) ?_; intro Ac w5 hp; have a34 : Ac.eval (.tmp 34) = .slice (some ⟨g2, o2, none⟩) n d := hp.dep 17 (by kernel_rfl); have a35 : Ac.eval (.tmp 35) = .int .i64 (q : Int) := hp.dep 18 (by kernel_rfl); exact relPureX (.pointer (some ⟨g2, o2 + q * 11, none⟩)) (fun ρ hρ h1 h2 h3 => by rw [hρ] at a34 a35; simp [go_sem, ↓IntWalk.iteOmega, *]) rfl
   ·refine relStep_guard (g := 11) (b := false) (x := false) rfl (by kernel_rfl) rfl (by kernel_rfl) rfl (fun _ _ h => h) ?_; intro Ac w5 hp; have a36 : Ac.eval (.tmp 36) = .pointer (some ⟨g2, o2 + q * 11, none⟩) := hp.dep 19 (by kernel_rfl); exact relPureX (.pointer (some ⟨g2, o2 + q * 11 + 2, none⟩)) (fun ρ hρ h1 h2 h3 => by rw [hρ] at a36; simp [go_sem, ↓IntWalk.iteOmega, *]) rfl
   ·refine relStep_guard (g := 11) (b := false) (x := false) rfl (by kernel_rfl) rfl (by kernel_rfl) rfl (fun _ _ h => h) ?_; intro Ac w5 hp; have hb := hp.bel; have a37 : Ac.eval (.tmp 37) = .pointer (some ⟨g2, o2 + q * 11 + 2, none⟩) := hp.dep 20 (by kernel_rfl); have f0 : w5.cell? ⟨g2, o2 + q * 11, none⟩ = some (.int .u32 (z.1 : Int)) := (hb.cell hg2).trans (HC2.out 0 _ rfl); have f1 : w5.cell? ⟨g2, o2 + q * 11 + 1, none⟩ = some (.int .i64 (z.2.1 : Int)) := (hb.cell hg2).trans (HC2.out 1 _ rfl); have f2 : w5.cell? ⟨g2, o2 + q * 11 + 2, none⟩ = some (.int .i64 z.2.2.has) := (hb.cell hg2).trans (HC2.out 2 _ rfl); have f3 : w5.cell? ⟨g2, o2 + q * 11 + 3, none⟩ = some (.int .i64 z.2.2.org) := (hb.cell hg2).trans (HC2.out 3 _ rfl); have f4 : w5.cell? ⟨g2, o2 + q * 11 + 4, none⟩ = some (.slice B2 k2 c2) := (hb.cell hg2).trans (HC2.out 4 _ rfl); have f5 : w5.cell? ⟨g2, o2 + q * 11 + 5, none⟩ = some (.int .u32 z.2.2.hop) := (hb.cell hg2).trans (HC2.out 5 _ rfl); have f6 : w5.cell? ⟨g2, o2 + q * 11 + 6, none⟩ = some (.int .u32 z.2.2.med) := (hb.cell hg2).trans (HC2.out 6 _ rfl); have f7 : w5.cell? ⟨g2, o2 + q * 11 + 7, none⟩ = some (.int .u32 z.2.2.pref) := (hb.cell hg2).trans (HC2.out 7 _ rfl); have f8 : w5.cell? ⟨g2, o2 + q * 11 + 8, none⟩ = some (.int .u32 z.2.2.aas) := (hb.cell hg2).trans (HC2.out 8 _ rfl); have f9 : w5.cell? ⟨g2, o2 + q * 11 + 9, none⟩ = some (.int .u32 z.2.2.aid) := (hb.cell hg2).trans (HC2.out 9 _ rfl); have f10 : w5.cell? ⟨g2, o2 + q * 11 + 10, none⟩ = some (.slice C2 m2 d2) := (hb.cell hg2).trans (HC2.out 10 _ rfl); exact relPureX (atV z.2.2.has z.2.2.org B2 k2 c2 z.2.2.hop z.2.2.med z.2.2.pref z.2.2.aas z.2.2.aid C2 m2 d2) (fun ρ hρ h1 h2 h3 => by rw [hρ] at a37; simp [go_sem, ↓IntWalk.iteOmega, *]) rfl
   ·refine relStep_guard (g := 11) (b := false) (x := false) rfl (by kernel_rfl) rfl (by kernel_rfl) rfl (fun _ _ h => h) ?_; intro Ac w5 hp; have hb := hp.bel; have a33 : Ac.eval (.tmp 33) = atV z.2.2.has z.2.2.org B1 k1 c1 z.2.2.hop z.2.2.med z.2.2.pref z.2.2.aas z.2.2.aid C1 m1 d1 := hp.dep 16 (by kernel_rfl); have a38 : Ac.eval (.tmp 38) = atV z.2.2.has z.2.2.org B2 k2 c2 z.2.2.hop z.2.2.med z.2.2.pref z.2.2.aas z.2.2.aid C2 m2 d2 := hp.dep 21 (by kernel_rfl); obtain ⟨ρ, hρ, hc, hf, hgl⟩ := evalX Ac; rw [hρ] at a33 a38; refine relCall hρ 46 #[atV z.2.2.has z.2.2.org B1 k1 c1 z.2.2.hop z.2.2.med z.2.2.pref z.2.2.aas z.2.2.aid C1 m1 d1, atV z.2.2.has z.2.2.org B2 k2 c2 z.2.2.hop z.2.2.med z.2.2.pref z.2.2.aas z.2.2.aid C2 m2 d2] (by simp [go_sem, ↓IntWalk.iteOmega, *]) ?_; refine (refAttrSame_eq z.2.2 _ _ w5 ⟨B1, k1, c1, C1, m1, d1, rfl, HR1.out.below sgMono hb, HU1.out.below hb⟩ ⟨B2, k2, c2, C2, m2, d2, rfl, HR2.out.below sgMono hb, HU2.out.below hb⟩ HPl.out).mono ?_; rintro e w6 ⟨rfl, hb6⟩; exact ⟨_, rfl, rfl, hb6⟩
   ·refine relStep_guard (g := 11) (b := false) (x := false) rfl (by kernel_rfl) rfl (by kernel_rfl) rfl (fun _ _ h => h) ?_; intro Ac w5 hp; have a39 : Ac.eval (.tmp 39) = .bool true := hp.dep 22 (by kernel_rfl); exact relPureX (.bool false) (fun ρ hρ h1 h2 h3 => by rw [hρ] at a39; simp [go_sem, ↓IntWalk.iteOmega, *]) rfl
   ·refine relStep_plain rfl ?_; intro Ac w5 hp; have a28 : Ac.eval (.tmp 28) = .bool false := hp.dep 11 (by kernel_rfl); have a40 : Ac.eval (.tmp 40) = .bool false := hp.dep 23 (by kernel_rfl); exact relPureX (.bool false) (fun ρ hρ h1 h2 h3 => by rw [hρ] at a28 a40; simp [go_sem, ↓IntWalk.iteOmega, *]) rfl
   intro u w8 hb7 hall; have e41 : u 24 = .bool false := relAll_at hall (i := 24) (by decide +kernel); clear hall; simp only [List.drop_succ_cons, List.drop_zero, List.take_succ_cons, List.take_zero, putAll, Act.put, List.setIfInBounds_toArray, List.set_cons_zero, List.set_cons_succ, Nat.zero_add, Nat.reduceAdd, e41]; have HB8 := hide (HBe.out.trans (hb7.mono HBe.out.size)); clear hb7; go_wp2
   go_roundw
   case rel => exact ⟨q + 1, by omega, by go_num, HB8.out⟩
   case measure => simp [intOf]; omega
  ·obtain rfl : q = n := (by omega)
   have e1 : decide ((q : Int) < (q : Int)) = false := (by simp)
   clear hbel hlt; go_wp2; go_ret; exact ⟨rfl, HBe.out⟩
end Go.Proofs.YtcinjckajnnhmaaGreat
set_option linter.unusedSimpArgs false
set_option linter.unusedVariables false
namespace Go.Proofs.YtcinjckajnnhmaaGreat
open Go.RowKit Go.WideShapes Go.ChangeShapes
theorem relValS {P : Program} {o : Oper} {A : Act} {w : World} {S : Value → World → Prop} {Q : Exit → Act → World → Prop} {ρ : Operand → Value} (hρ : A.eval = ρ) (v : Value) (w' : World) (h : (execOp ρ o).run P w = .ok (.value v) w') (hS : S v w') :
  o.wp P A w (fun A' w' => ∃ v, A' = A.put o.dst v ∧ S v w') Q := by
 subst hρ; unfold Oper.wp; rw [h]; exact ⟨v, rfl, hS⟩
theorem relCallS {P : Program} {o : Oper} {A : Act} {w : World} {S : Value → World → Prop} {Q : Exit → Act → World → Prop} {ρ : Operand → Value} (hρ : A.eval = ρ) (f : FuncId) (args : Array Value) (h : (execOp ρ o).run P w = .ok (.enter f args) w)
  (hc : Calls P f args w fun e w' => ∃ v, e = .returned v ∧ S v w') :
  o.wp P A w (fun A' w' => ∃ v, A' = A.put o.dst v ∧ S v w') Q := by
 subst hρ; unfold Oper.wp; rw [h]; refine hc.mono ?_; rintro e w' ⟨v, rfl, hS⟩; exact ⟨v, rfl, hS⟩
def AllFlat : List (Value → World → Prop) → Prop
  | [] => True
  | R :: r => (∀ (v : Value) (w w' : World), R v w → R v w') ∧ AllFlat r
theorem relFlat : ∀ (Rs : List (Value → World → Prop)) (_ : AllFlat Rs) (i : Nat) (v : Value) (w w' : World), relAt Rs i v w → relAt Rs i v w'
 | [], _, i, v, w, w', h => by unfold relAt; simp
 | R :: r, h, 0, v, w, w', hr => h.1 v w w' hr
 | R :: r, h, i + 1, v, w, w', hr => relFlat r h.2 i v w w' hr
end Go.Proofs.YtcinjckajnnhmaaGreat
set_option linter.unusedSimpArgs false
set_option linter.unusedVariables false
namespace Go.Proofs.YtcinjckajnnhmaaGreat
open Go.RowKit Go.WideShapes Go.ChangeShapes
attribute [local go_sem] Oper.semAt_some
structure P3X (T : TypeId) (sz p0 p1 pb p2 B0 n1 : Nat) (X1 cs : List Value) (D : Nat → Bool) (u : Nat → Value) (w : World) : Prop where
  d1 : D p1 = true → D p0 = true
  d2 : D p2 = true → D p1 = true ∧ D pb = true
  r0 : D p0 = true → D p1 = false → w.ownsRow B0 T sz (u p0) 0 []
  r1 : D p1 = true → D p2 = false → w.ownsRow B0 T sz (u p1) n1 X1
  r2 : D p2 = true → w.ownsRow B0 T sz (u p2) (n1 + 1) (X1 ++ cs)
  bx : D pb = true → D p2 = false → ∃ R, u pb = .slice (some ⟨R, 0, none⟩) 1 1 ∧ B0 ≤ R ∧ Blk w R T cs.toArray ∧ (D p0 = true → D p1 = false → (u p0).ownBlock ≠ some R) ∧ (D p1 = true → (u p1).ownBlock ≠ some R)
section
variable {T : TypeId} {sz p0 p1 pb p2 B0 n1 : Nat} {X1 cs : List Value} {D : Nat → Bool} {u : Nat → Value} {w w' : World} {v : Value}
theorem p3_start (u : Nat → Value) (w : World) : P3X T sz p0 p1 pb p2 B0 n1 X1 cs (fun _ => false) u w := by constructor <;> intro h <;> cases h
theorem upd_ne {q x : Nat} (hx : x ≠ q) : updD D q x = D x ∧ updU u q v x = u x := by simp [updD, updU, hx]
theorem upd_eq (q : Nat) : updD D q q = true ∧ updU u q v q = v := by simp [updD, updU]
theorem p3_other {q : Nat} (h : P3X T sz p0 p1 pb p2 B0 n1 X1 cs D u w) (hb : Below w.heap.size w w') (h0 : q ≠ p0) (h1 : q ≠ p1) (h2 : q ≠ pb) (h3 : q ≠ p2) : P3X T sz p0 p1 pb p2 B0 n1 X1 cs (updD D q) (updU u q v) w' := by
 have e0 := upd_ne (D := D) (u := u) (v := v) h0.symm; have e1 := upd_ne (D := D) (u := u) (v := v) h1.symm; have e2 := upd_ne (D := D) (u := u) (v := v) h2.symm; have e3 := upd_ne (D := D) (u := u) (v := v) h3.symm; refine ⟨?_, ?_, ?_, ?_, ?_, ?_⟩
 ·rw [e0.1, e1.1]; exact h.d1
 ·rw [e1.1, e2.1, e3.1]; exact h.d2
 ·rw [e0.1, e1.1, e0.2]; exact fun x y => own_below (h.r0 x y) hb
 ·rw [e1.1, e3.1, e1.2]; exact fun x y => own_below (h.r1 x y) hb
 ·rw [e3.1, e3.2]; exact fun x => own_below (h.r2 x) hb
 ·rw [e2.1, e3.1, e0.1, e1.1, e0.2, e1.2, e2.2]; intro x y; obtain ⟨R, e, hR, hk, h4, h5⟩ := h.bx x y; exact ⟨R, e, hR, hk.below hb hk.lt, h4, h5⟩
theorem p3_p0 (h : P3X T sz p0 p1 pb p2 B0 n1 X1 cs D u w) (hb : Below w.heap.size w w') (hno : D p0 = false) (h01 : p0 ≠ p1) (h0b : p0 ≠ pb) (h02 : p0 ≠ p2) (hr : w'.ownsRow B0 T sz v 0 []) (hv : ∀ k, v.ownBlock = some k → w.heap.size ≤ k) : P3X T sz p0 p1 pb p2 B0 n1 X1 cs (updD D p0) (updU u p0 v) w' := by
 have k1 : D p1 = false := by
  cases hk : D p1 with
  | false => rfl
  | true => have := h.d1 hk; rw [hno] at this; cases this
 have k2 : D p2 = false := by
  cases hk : D p2 with
  | false => rfl
  | true => have := (h.d2 hk).1; rw [k1] at this; cases this
 have e1 := upd_ne (D := D) (u := u) (v := v) h01.symm; have e2 := upd_ne (D := D) (u := u) (v := v) h0b.symm; have e3 := upd_ne (D := D) (u := u) (v := v) h02.symm; have e0 := upd_eq (D := D) (u := u) (v := v) p0; refine ⟨?_, ?_, ?_, ?_, ?_, ?_⟩
 ·rw [e1.1, k1]; intro h; cases h
 ·rw [e3.1, k2]; intro h; cases h
 ·rw [e0.2]; exact fun _ _ => hr
 ·rw [e1.1, k1]; intro h; cases h
 ·rw [e3.1, k2]; intro h; cases h
 ·rw [e2.1, e3.1, e0.1, e1.1, e0.2, e1.2, e2.2]; intro x y; obtain ⟨R, e, hR, hk, h4, h5⟩ := h.bx x y; exact ⟨R, e, hR, hk.below hb hk.lt, fun _ _ e => by have := hv R e; have := hk.lt; omega, h5⟩
theorem p3_pb (h : P3X T sz p0 p1 pb p2 B0 n1 X1 cs D u w) (hb : Below w.heap.size w w') (hno : D pb = false) (h01 : pb ≠ p0) (h0b : pb ≠ p1) (h02 : pb ≠ p2) {R : Nat} (hv : v = .slice (some ⟨R, 0, none⟩) 1 1) (hR : w.heap.size ≤ R) (hB : B0 ≤ w.heap.size) (hk : Blk w' R T cs.toArray) : P3X T sz p0 p1 pb p2 B0 n1 X1 cs (updD D pb) (updU u pb v) w' := by
 have k2 : D p2 = false := by
  cases hk : D p2 with
  | false => rfl
  | true => have := (h.d2 hk).2; rw [hno] at this; cases this
 have e0 := upd_ne (D := D) (u := u) (v := v) h01.symm; have e1 := upd_ne (D := D) (u := u) (v := v) h0b.symm; have e3 := upd_ne (D := D) (u := u) (v := v) h02.symm; have e2 := upd_eq (D := D) (u := u) (v := v) pb; refine ⟨?_, ?_, ?_, ?_, ?_, ?_⟩
 ·rw [e0.1, e1.1]; exact h.d1
 ·rw [e3.1, k2]; intro h; cases h
 ·rw [e0.1, e1.1, e0.2]; exact fun x y => own_below (h.r0 x y) hb
 ·rw [e1.1, e3.1, e1.2]; exact fun x y => own_below (h.r1 x y) hb
 ·rw [e3.1, k2]; intro h; cases h
 ·rw [e2.1, e2.2, e3.1, e0.1, e1.1, e0.2, e1.2]; intro _ _; exact ⟨R, hv, Nat.le_trans hB hR, hk, fun x y e => by have := own_block_lt (h.r0 x y) R e; omega, fun x e => by have := own_block_lt (h.r1 x k2) R e; omega⟩
theorem p3_p1 (h : P3X T sz p0 p1 pb p2 B0 n1 X1 cs D u w) (hno : D p1 = false) (hd0 : D p0 = true) (h01 : p1 ≠ p0) (h0b : p1 ≠ pb) (h02 : p1 ≠ p2) (hr : w'.ownsRow B0 T sz v n1 X1) (hg : w.grownBy w' (u p0).ownBlock) (hv : v.ownBlock = (u p0).ownBlock ∨ v.ownBlock = some w.heap.size) : P3X T sz p0 p1 pb p2 B0 n1 X1 cs (updD D p1) (updU u p1 v) w' := by
 have k2 : D p2 = false := by
  cases hk : D p2 with
  | false => rfl
  | true => have := (h.d2 hk).1; rw [hno] at this; cases this
 have e0 := upd_ne (D := D) (u := u) (v := v) h01.symm; have e2 := upd_ne (D := D) (u := u) (v := v) h0b.symm; have e3 := upd_ne (D := D) (u := u) (v := v) h02.symm; have e1 := upd_eq (D := D) (u := u) (v := v) p1; refine ⟨?_, ?_, ?_, ?_, ?_, ?_⟩
 ·rw [e0.1]; exact fun _ => hd0
 ·rw [e3.1, k2]; intro h; cases h
 ·rw [e1.1]; intro _ h; cases h
 ·rw [e1.2]; exact fun _ _ => hr
 ·rw [e3.1, k2]; intro h; cases h
 ·rw [e2.1, e2.2, e3.1, e0.1, e1.1, e1.2]; intro x y; obtain ⟨R, e, hR, hk, h4, h5⟩ := h.bx x y; refine ⟨R, e, hR, hk.grown hg (fun e => h4 hd0 hno e.symm), (fun _ h => by cases h), fun _ e => ?_⟩; rcases hv with e1 | e1
  ·exact h4 hd0 hno (e1 ▸ e)
  ·rw [e1] at e; injection e with e
   have := hk.lt; omega
theorem p3_p2 (h : P3X T sz p0 p1 pb p2 B0 n1 X1 cs D u w) (hd1 : D p1 = true) (hdb : D pb = true) (h01 : p2 ≠ p0) (h0b : p2 ≠ p1) (h02 : p2 ≠ pb) (hr : w'.ownsRow B0 T sz v (n1 + 1) (X1 ++ cs)) : P3X T sz p0 p1 pb p2 B0 n1 X1 cs (updD D p2) (updU u p2 v) w' := by
 have e0 := upd_ne (D := D) (u := u) (v := v) h01.symm; have e1 := upd_ne (D := D) (u := u) (v := v) h0b.symm; have e2 := upd_ne (D := D) (u := u) (v := v) h02.symm; have e3 := upd_eq (D := D) (u := u) (v := v) p2; refine ⟨?_, ?_, ?_, ?_, ?_, ?_⟩
 ·rw [e0.1, e1.1]; exact h.d1
 ·rw [e1.1, e2.1]; exact fun _ => ⟨hd1, hdb⟩
 ·rw [e1.1, hd1]; intro _ h; cases h
 ·rw [e3.1]; intro _ h; cases h
 ·rw [e3.2]; exact fun _ => hr
 ·rw [e3.1]; intro _ h; cases h
end
theorem relX_app {P : Program} {B : Nat} {Rs : List (Value → World → Prop)} {X : (Nat → Bool) → (Nat → Value) → World → Prop} {l : List Oper} {a : Act} {W : World} {Q : Exit → Act → World → Prop} {i : Nat} {o : Oper} (hg : o.guard = none) (hd : o.dst.isSome = true)
  (h : ∀ (D : Nat → Bool) (A : Act) (w : World), RelPreX Rs X l a B W i o D A w → o.wp P A w (fun A' w' => ∃ v, A' = A.put o.dst v ∧ relAt Rs i v w' ∧ Below B w w' ∧ (∀ j, j ≠ i → D j = true → relAt Rs j (valOf l A j) w') ∧ X (updD D i) (updU (fun j => valOf l A j) i v) w') Q) : RelStepX P B Rs X l a W Q i o := by
 intro D A w hp; rw [if_pos (by simp [Region.wanted, hg])]; refine Oper.wp_mono ?_ (h D A w hp); rintro A' w' ⟨v, rfl, hv, hb, hr, hx⟩; refine ⟨v, rfl, fun e => ?_, hv, hb, hr, hx⟩; rw [e] at hd
 cases hd
def tdF (F : Nat → Prop) (w : World) (vs : List Value) (x : TD) : Prop := FrS F none (fun w => tdR w vs x) w
section
variable {F F' S : Nat → Prop} {w w' : World} {vs xs : List Value} {x : TD} {A : Option Addr} {n c B : Nat} {l : List TD}
theorem tdf_here (h : tdF F w vs x) : tdR w vs x := frs_here h
theorem tdfMono (F : Nat → Prop) : SMono (tdF F) := fun _ _ _ _ hb h => frs_ag h (ags_below hb)
theorem tdf_more (hF : ∀ k, F k → F' k) (h : tdF F w vs x) : tdF F' w vs x := frs_more h hF
theorem tdf_base (hF : ∀ k, F k → k < B) (hb : Below B w w') (h : tdF F w vs x) : tdF F w' vs x := frs_ag h ⟨hb.size, fun k o h0 h1 _ _ => (hb.block k (hF k h0)).trans h1⟩
theorem tdf_chg (hF : ∀ k, F k → ¬ S k) (hc : ChgS S w w') (h : tdF F w vs x) : tdF F w' vs x := frs_chg h hc hF
theorem lst_of_f (h : LstAt 11 (tdF F) w A n c l) : LstAt 11 tdR w A n c l := lst_map (fun _ _ hr => tdf_here hr) h
theorem chunks_map {α : Type} {sz : Nat} {R S : World → List Value → α → Prop} {w w' : World} {l : List α} (hi : ∀ vs x, R w vs x → S w' vs x) (h : Chunks sz R w xs l) : Chunks sz S w' xs l := ⟨h.1, fun k x hk => hi _ _ (h.2 k x hk)⟩
structure LF (F : Nat → Prop) (w : World) (A : Option Addr) (n c : Nat) (l : List TD) : Prop where
  lst : LstAt 11 (tdF F) w A n c l
  row : 0 < n → ∀ a, A = some a → F a.block
theorem LF.chg (h : LF F w A n c l) (hc : ChgS S w w') (hF : ∀ k, F k → ¬ S k) : LF F w' A n c l := by
 refine ⟨⟨h.lst.1, h.lst.2.1, h.lst.2.2.1, fun hn => ?_⟩, h.row⟩; obtain ⟨g, o, e, hg, hx⟩ := h.lst.2.2.2 hn; have hFg := h.row hn _ e; refine ⟨g, o, e, Nat.lt_of_lt_of_le hg hc.size, fun k x hk => ?_⟩; obtain ⟨vs, h1, h2, h3⟩ := hx k x hk; exact ⟨vs, h1, tdf_chg hF hc h2, fun j v hj => (World.cell?_of_block (hc.block g hg (hF g hFg))).trans (h3 j v hj)⟩
theorem LF.below (h : LF F w A n c l) (hb : Below w.heap.size w w') : LF F w' A n c l := h.chg (S := fun _ => False) (chg_below hb) (by simp)
theorem LF.more (h : LF F w A n c l) (hF : ∀ k, F k → F' k) : LF F' w A n c l := ⟨lst_map (fun _ _ hr => tdf_more hF hr) h.lst, fun hn a e => hF _ (h.row hn a e)⟩
theorem LF.nil : LF F w none 0 0 [] := ⟨LstAt.none_, fun h => absurd h (by omega)⟩
theorem LF.of_own (h : w'.ownsRow B 71 11 (.slice A n c) n xs) (hc : Chunks 11 (tdF F) w xs l) (hF : ∀ k, F k → k < B) (hb : Below B w w') : LF (fun j => F j ∨ (B ≤ j ∧ j < w'.heap.size)) w' A n c l := by
 refine ⟨LstAt.of_own (by decide) h (chunks_map (fun vs x hr => tdf_more (fun k hk => .inl hk) (tdf_base hF hb hr)) hc), fun hn a e => .inr ⟨?_, ?_⟩⟩
 ·exact own_low_block h a.block (by rw [e]; rfl)
 ·exact own_block_lt h a.block (by rw [e]; rfl)
theorem LF.of_low {xs : List Value} (h : LOw 11 71 tdR w B B A n c l xs) : LF (fun j => B ≤ j ∧ j < w.heap.size) w A n c l := by
 refine ⟨LstAt.of_own (by decide) h.1 ⟨h.2.1, fun k x hk => ?_⟩, fun hn a e => ⟨own_low_block h.1 a.block (by rw [e]; rfl), own_block_lt h.1 a.block (by rw [e]; rfl)⟩⟩; exact frs_of_frb (h.2.2 k x hk).none_
theorem TFat {q : Nat} {L : List (Nat × Nat × AT)} (h : LstAt 11 (tdF F) w A n c (L.map tdZ)) (hq : q < n) : ∃ g o z B1 k1 c1 B2 m2 d2, A = some ⟨g, o, none⟩ ∧ g < w.heap.size ∧ L[q]? = some z ∧ tdF F w [.int .u32 (z.1 : Int), .int .i64 (z.2.1 : Int), .int .i64 z.2.2.has, .int .i64 z.2.2.org, .slice B1 k1 c1, .int .u32 z.2.2.hop, .int .u32 z.2.2.med, .int .u32 z.2.2.pref, .int .u32 z.2.2.aas, .int .u32 z.2.2.aid, .slice B2 m2 d2] (tdZ z) ∧ LstAt 2 sgR w B1 k1 c1 z.2.2.path ∧ U32s w B2 m2 d2 z.2.2.comms ∧ ∀ (j : Nat) (v : Value), [.int .u32 (z.1 : Int), .int .i64 (z.2.1 : Int), .int .i64 z.2.2.has, .int .i64 z.2.2.org, .slice B1 k1 c1, .int .u32 z.2.2.hop, .int .u32 z.2.2.med, .int .u32 z.2.2.pref, .int .u32 z.2.2.aas, .int .u32 z.2.2.aid, .slice B2 m2 d2][j]? = some v → w.cell? ⟨g, o + q * 11 + j, none⟩ = some v := by
 obtain ⟨h1, h2, h3, h4⟩ := h; obtain ⟨g, o, rfl, hg, hc⟩ := h4 (by omega); rw [List.length_map] at h1; obtain ⟨z, hx⟩ : ∃ z, L[q]? = some z := ⟨_, List.getElem?_eq_getElem (by omega)⟩
 obtain ⟨vs, hl, hf, hcs⟩ := hc q (tdZ z) (by rw [List.getElem?_map, hx]; rfl); obtain ⟨B1, k1, c1, B2, m2, d2, rfl, hr1, hr2⟩ := tdf_here hf; exact ⟨g, o, _, B1, k1, c1, B2, m2, d2, rfl, hg, hx, hf, hr1, hr2, hcs⟩
theorem own_some {v : Value} {k e sz n : Nat} (h : w.ownsRow B e sz v n xs) (hk : v.ownBlock = some k) : ∃ cap, v = .slice (some ⟨k, 0, none⟩) n cap := by
 rcases h.2 with ⟨rfl, _⟩ | ⟨g, cap, cur, rfl, _⟩
 ·simp [Value.ownBlock] at hk
 ·have : g = k := (by simpa [Value.ownBlock] using hk)
  subst this; exact ⟨cap, rfl⟩
end
theorem own_reads_take {w : World} {base n c i sz g : Nat} {e : TypeId} {xs : List Value} (h : w.ownsRow base e sz (.slice (some ⟨g, 0, none⟩) n c) n xs) (hi : i ≤ n) : Reads w w.heap.size sz (some ⟨g, 0, none⟩) i (xs.take (i * sz)) := by
 refine ⟨by rw [List.length_take, h.1]; exact Nat.min_eq_left (Nat.mul_le_mul_right _ hi), fun h0 => ⟨_, rfl, own_block_lt h g rfl, fun j u hu => ?_⟩⟩; rw [List.getElem?_take] at hu; split at hu
 ·exact h.cells (g := g) rfl j u hu
 ·cases hu
theorem own_reads_drop {w : World} {base n c i sz g : Nat} {e : TypeId} {xs : List Value} (h : w.ownsRow base e sz (.slice (some ⟨g, 0, none⟩) n c) n xs) (hi : i ≤ n) : Reads w w.heap.size sz (some ⟨g, i * sz, none⟩) (n - i) (xs.drop (i * sz)) := by
 refine ⟨by rw [List.length_drop, h.1, Nat.sub_mul], fun h0 => ⟨_, rfl, own_block_lt h g rfl, fun j u hu => ?_⟩⟩; rw [List.getElem?_drop] at hu; have := h.cells (g := g) rfl _ u hu; have e1 : ∀ o k : Nat, (⟨g, o, none⟩ : Addr).add k = ⟨g, o + k, none⟩ := fun o k => by unfold Addr.add; split <;> simp_all
 rw [e1] at this ⊢; rw [Nat.zero_add] at this; exact this
theorem chunk_drop {α : Type} {sz : Nat} {R : World → List Value → α → Prop} {w : World} {xs : List Value} {l : List α} (h : Chunks sz R w xs l) (i : Nat) (hi : i ≤ l.length) : Chunks sz R w (xs.drop (i * sz)) (l.drop i) := by
 refine ⟨by rw [List.length_drop, List.length_drop, h.1, Nat.sub_mul], fun k x hk => ?_⟩; rw [List.getElem?_drop] at hk; have := h.2 _ x hk; rw [List.drop_drop]; rw [Nat.add_mul] at this; exact this
theorem tdfOne (F : Nat → Prop) : SOne (tdF F) := by
 rintro w vs x h u hu; obtain ⟨A, k, c, B, m, d, rfl, _⟩ := tdf_here h; simp only [List.mem_cons, List.not_mem_nil, or_false] at hu; rcases hu with rfl | rfl | rfl | rfl | rfl | rfl | rfl | rfl | rfl | rfl | rfl <;> rfl
theorem cmp_lt (a2 m2 a n0 : Nat) : decide (cmpP a2 (m2 : Int) a (n0 : Int) < 0) = decide (a2 < a ∨ a2 = a ∧ m2 < n0) := by
 unfold cmpP; by_cases h : a2 < a ∨ a2 = a ∧ m2 < n0
 ·rw [if_pos (by omega), decide_eq_true h]; rfl
 ·rw [if_neg (by omega), decide_eq_false h]; split <;> rfl
set_option maxRecDepth 100000 in
set_option maxHeartbeats 16000000 in
theorem refPut36_any (F : Nat → Prop) (A : Option Addr) (n c : Nat) (L : List (Nat × Nat × AT)) (a n0 : Nat) (X : AT) (XA : Option Addr) (xk xc : Nat) (XB : Option Addr) (xm xd : Nat) (w : World) (h : LstAt 11 (tdF F) w A n c (L.map tdZ)) (hx : tdF F w [.int .u32 (a : Int), .int .i64 (n0 : Int), .int .i64 X.has, .int .i64 X.org, .slice XA xk xc, .int .u32 X.hop, .int .u32 X.med, .int .u32 X.pref, .int .u32 X.aas, .int .u32 X.aid, .slice XB xm xd] ⟨(a : Int), (n0 : Int), X⟩) (hs : L.Pairwise PLt) (hpg : ∀ z ∈ L, z.1 < 4294967296) (ha : a < 4294967296) (hn : n ≤ 20000) :
    Calls Tryz.prog 37 #[.slice A n c, .agg #[.int .u32 (a : Int), .int .i64 (n0 : Int), .int .i64 X.has, .int .i64 X.org, .slice XA xk xc, .int .u32 X.hop, .int .u32 X.med, .int .u32 X.pref, .int .u32 X.aas, .int .u32 X.aid, .slice XB xm xd]] w fun e w' => ∃ A' n' c' xs, e = .returned (.slice A' n' c') ∧ w'.ownsRow w.heap.size 71 11 (.slice A' n' c') n' xs ∧ Chunks 11 (tdF F) w xs ((putL a n0 X L).map tdZ) ∧ Below w.heap.size w w' := by
  obtain ⟨i0, hi, hz0, hz1, hz2⟩ := info_parts toldInfo; have hln : L.length = n := (by have := h.1; rwa [List.length_map] at this)
  have hnc := h.2.1; have hmx := h.2.2.1; unfold maxLen at hmx; have HL := hide h; have HLn := hide hln; have HXf := hide hx; have HS := hide hs; have HPg := hide hpg; obtain ⟨w0, hw0⟩ : ∃ W, (w.alloc (.cells #[.int .u32 (a : Int), .int .i64 (n0 : Int), .int .i64 X.has, .int .i64 X.org, .slice XA xk xc, .int .u32 X.hop, .int .u32 X.med, .int .u32 X.pref, .int .u32 X.aas, .int .u32 X.aid, .slice XB xm xd] 71)).alloc (.cells #[] 71) = W := ⟨_, rfl⟩
  have hb0 : Below w.heap.size w w0 := hw0 ▸ blkBelow2 w _ _; have HBx : Hid (Blk w0 w.heap.size 71 #[.int .u32 (a : Int), .int .i64 (n0 : Int), .int .i64 X.has, .int .i64 X.org, .slice XA xk xc, .int .u32 X.hop, .int .u32 X.med, .int .u32 X.pref, .int .u32 X.aas, .int .u32 X.aid, .slice XB xm xd]) := hide (hw0 ▸ (Blk.new w _ _).alloc _)
  have HO0 : Hid (w0.ownsRow (w.heap.size + 1) 71 11 (.slice (some ⟨w.heap.size + 1, 0, none⟩) 0 0) 0 []) := hide (by
    rw [← hw0]; have := World.ownsRow_lit (base := w.heap.size + 1) (e := 71) (size := 11) (w.alloc (.cells #[.int .u32 (a : Int), .int .i64 (n0 : Int), .int .i64 X.has, .int .i64 X.org, .slice XA xk xc, .int .u32 X.hop, .int .u32 X.med, .int .u32 X.pref, .int .u32 X.aas, .int .u32 X.aid, .slice XB xm xd] 71)) #[] 0 (by simp) (by unfold maxLen; omega) rfl; simpa using this)
  have hs0 : w.heap.size + 1 < w0.heap.size := (by rw [← hw0]; simp)
  have HB0 := hide hb0; have HW0 := hide hw0; clear h hln hx hs hpg hw0 hb0
  go_enter Tryz.func37, Tryz.ntmps37
  go_wp2; rw [HW0.out]
  go_loopw [5, 7] (fun vo iv wr => ∃ (q n1 g4 c1 : Nat) (xs : List Value), q ≤ n ∧ n1 ≤ q ∧ iv = .int .i64 (q : Nat) ∧ vo = .slice (some ⟨g4, 0, none⟩) n1 c1 ∧ wr.ownsRow (w.heap.size + 1) 71 11 (.slice (some ⟨g4, 0, none⟩) n1 c1) n1 xs ∧ Chunks 11 (tdF F) w xs (((L.take q).filter (fun z => !decide (a = z.1 ∧ n0 = z.2.1))).map tdZ) ∧ Below (w.heap.size + 1) w0 wr) (fun _ iv _ => n - (intOf iv).toNat)
  case atStart => exact ⟨0, 0, w.heap.size + 1, 0, [], Nat.zero_le _, Nat.le_refl _, rfl, rfl, HO0.out, Chunks.nil_, Below.refl _ _⟩
  case round =>
    obtain ⟨q, n1, g4, c1, xs, hq, hnq, rfl, rfl, hown, hck, hbel⟩ := hrel; have HO := hide hown; have HCk := hide hck; have HBe := hide hbel; have hsr := hbel.size; have hbw : Below w.heap.size w wr := HB0.out.trans (hbel.mono (by omega)); have HBw0 := hide hbw; have HBw := hide (HBx.out.below hbel (by omega))
    have hc1 : c1 ≤ maxLen ∧ n1 ≤ c1 := by
      rcases hown.2 with ⟨h1, _⟩ | ⟨g, cap, cur, h1, _, _, h2, h3, _⟩
      · cases h1
      · injection h1 with _ _ h4
        subst h4; exact ⟨h3, h2⟩
    obtain ⟨hc1, hnc1⟩ := hc1; unfold maxLen at hc1; by_cases hlt : q < n
    · obtain ⟨g, o, z, B1, k1, e1, B2, k2, d2, rfl, hg0, hz, htf, _, _, hcs⟩ := TFat HL.out hlt; have hg : g < wr.heap.size := Nat.lt_of_lt_of_le hg0 hbw.size; have HTk : Hid (L.take (q + 1) = L.take q ++ [z]) := hide (by rw [List.take_add_one, hz]; rfl); have HTf := hide htf; obtain ⟨a2, m2, Y⟩ := z; have HCs : Hid (∀ (j : Nat) (v : Value), [.int .u32 (a2 : Int), .int .i64 (m2 : Int), .int .i64 Y.has, .int .i64 Y.org, .slice B1 k1 e1, .int .u32 Y.hop, .int .u32 Y.med, .int .u32 Y.pref, .int .u32 Y.aas, .int .u32 Y.aid, .slice B2 k2 d2][j]? = some v → wr.cell? ⟨g, o + q * 11 + j, none⟩ = some v) := hide (fun j v hj => (hbw.cell hg0).trans (hcs j v hj)); have q1 : (q : Int) < (n : Int) := (by omega)
      have q0 : (0 : Int) ≤ (q : Int) := (by omega)
      have hwq : IntKind.i64.wrap ((q : Int) + 1) = (q : Int) + 1 := (by rw [IntKind.wrap_i64]; omega)
      obtain ⟨E, hE⟩ : ∃ b, ((a2 : Int) == (a : Int) && (m2 : Int) == (n0 : Int)) = b := ⟨_, rfl⟩
      have HE := hide hE
      have HEi : Hid (decide (a = a2 ∧ n0 = m2) = E) := hide (by
        rw [← hE, Bool.eq_iff_iff]; simp only [Bool.and_eq_true, beq_iff_eq, Int.ofNat_inj, decide_eq_true_eq]; exact ⟨fun ⟨x, y⟩ => ⟨x.symm, y.symm⟩, fun ⟨x, y⟩ => ⟨x.symm, y.symm⟩⟩)
      clear hown hck hbel hbw hz htf hcs hE; go_wp2; have Hmn := hide (show AllMono [(fun v _ => v = .slice (some ⟨g, o, none⟩) n c), (fun v _ => v = .int .i64 (q : Int)), (fun v _ => v = .pointer (some ⟨g, o + q * 11, none⟩)), (fun v _ => v = .pointer (some ⟨g, o + q * 11, none⟩)), (fun v _ => v = .agg #[.int .u32 (a2 : Int), .int .i64 (m2 : Int)]), (fun v _ => v = .pointer (some ⟨w.heap.size, 0, none⟩)), (fun v _ => v = .agg #[.int .u32 (a : Int), .int .i64 (n0 : Int)]), (fun v _ => v = .bool (!E))] from by repeat (first | exact trivial | refine ⟨fun _ _ _ _ h => h, ?_⟩)); refine wp_region_rel _ (by kernel_rfl) (by kernel_rfl) (relMono _ Hmn.out) ⟨?_, ?_, ?_, ?_, ?_, ?_, ?_, ?_, trivial⟩ ?_
      · refine relStep_plain rfl ?_; intro Ac w5 hp; have a0 : Ac.eval (.tmp 0) = .slice (some ⟨g, o, none⟩) n c := hp.out 0 (by rfl); exact relPureX (.slice (some ⟨g, o, none⟩) n c) (fun ρ hρ h1 h2 h3 => by rw [hρ] at a0; simp [go_sem, ↓IntWalk.iteOmega, *]) rfl
      · refine relStep_plain rfl ?_; intro Ac w5 hp; have a7 : Ac.eval (.tmp 7) = .int .i64 (q : Int) := hp.out 7 (by rfl); exact relPureX (.int .i64 (q : Int)) (fun ρ hρ h1 h2 h3 => by rw [hρ] at a7; simp [go_sem, ↓IntWalk.iteOmega, *]) rfl
      · refine relStep_plain rfl ?_; intro Ac w5 hp; have a15 : Ac.eval (.tmp 15) = .slice (some ⟨g, o, none⟩) n c := hp.dep 0 (by kernel_rfl); have a16 : Ac.eval (.tmp 16) = .int .i64 (q : Int) := hp.dep 1 (by kernel_rfl); exact relPureX (.pointer (some ⟨g, o + q * 11, none⟩)) (fun ρ hρ h1 h2 h3 => by rw [hρ] at a15 a16; simp [go_sem, ↓IntWalk.iteOmega, *]) rfl
      · refine relStep_plain rfl ?_; intro Ac w5 hp; have a17 : Ac.eval (.tmp 17) = .pointer (some ⟨g, o + q * 11, none⟩) := hp.dep 2 (by kernel_rfl); exact relPureX (.pointer (some ⟨g, o + q * 11, none⟩)) (fun ρ hρ h1 h2 h3 => by rw [hρ] at a17; simp [go_sem, ↓IntWalk.iteOmega, *]) rfl
      · refine relStep_plain rfl ?_; intro Ac w5 hp; have hb := hp.bel; have a18 : Ac.eval (.tmp 18) = .pointer (some ⟨g, o + q * 11, none⟩) := hp.dep 3 (by kernel_rfl); have f0 : w5.cell? ⟨g, o + q * 11, none⟩ = some (.int .u32 (a2 : Int)) := (hb.cell hg).trans (HCs.out 0 _ rfl); have f1 : w5.cell? ⟨g, o + q * 11 + 1, none⟩ = some (.int .i64 (m2 : Int)) := (hb.cell hg).trans (HCs.out 1 _ rfl); exact relPureX (.agg #[.int .u32 (a2 : Int), .int .i64 (m2 : Int)]) (fun ρ hρ h1 h2 h3 => by rw [hρ] at a18; simp [go_sem, ↓IntWalk.iteOmega, *]) rfl
      · refine relStep_plain rfl ?_; intro Ac w5 hp; have a3 : Ac.eval (.tmp 3) = .pointer (some ⟨w.heap.size, 0, none⟩) := hp.out 3 (by rfl); exact relPureX (.pointer (some ⟨w.heap.size, 0, none⟩)) (fun ρ hρ h1 h2 h3 => by rw [hρ] at a3; simp [go_sem, ↓IntWalk.iteOmega, *]) rfl
      · refine relStep_plain rfl ?_; intro Ac w5 hp; have hb := hp.bel; have a20 : Ac.eval (.tmp 20) = .pointer (some ⟨w.heap.size, 0, none⟩) := hp.dep 5 (by kernel_rfl); have hx5 := HBw.out.below hb HBw.out.lt; have zb0 : w5.cell? ⟨w.heap.size, 0, none⟩ = some (.int .u32 (a : Int)) := hx5.cell 0; have zb1 : w5.cell? ⟨w.heap.size, 1, none⟩ = some (.int .i64 (n0 : Int)) := hx5.cell 1; exact relPureX (.agg #[.int .u32 (a : Int), .int .i64 (n0 : Int)]) (fun ρ hρ h1 h2 h3 => by rw [hρ] at a20; simp [go_sem, ↓IntWalk.iteOmega, *]) rfl
      · refine relStep_plain rfl ?_; intro Ac w5 hp; have a19 : Ac.eval (.tmp 19) = .agg #[.int .u32 (a2 : Int), .int .i64 (m2 : Int)] := hp.dep 4 (by kernel_rfl); have a21 : Ac.eval (.tmp 21) = .agg #[.int .u32 (a : Int), .int .i64 (n0 : Int)] := hp.dep 6 (by kernel_rfl); have heq := HE.out; exact relPureX (.bool (!E)) (fun ρ hρ h1 h2 h3 => by rw [hρ] at a19 a21; simp [go_sem, ↓IntWalk.iteOmega, *]; rw [← heq]; by_cases h1 : (a2 : Int) = (a : Int) <;> by_cases h2 : (m2 : Int) = (n0 : Int) <;> simp [h1, h2]) rfl
      intro u w8 hb7 hall; have e22 : u 7 = .bool (!E) := relAll_at hall (i := 7) (by decide +kernel); clear hall; simp only [List.drop_succ_cons, List.drop_zero, List.take_succ_cons, List.take_zero, putAll, Act.put, List.setIfInBounds_toArray, List.set_cons_zero, List.set_cons_succ, Nat.zero_add, Nat.reduceAdd, e22]; have HB8 := hide hb7; have hs8 := hb7.size; have HO8 := hide (own_below HO.out hb7); have HBel8 := hide (HBe.out.trans (hb7.mono (by omega))); clear hb7
      cases E with
      | true =>
        go_wp2
        go_roundw
        case rel =>
          refine ⟨q + 1, n1, g4, c1, xs, by omega, by omega, by go_num, rfl, HO8.out, ?_, HBel8.out⟩; rw [HTk.out, List.filter_append]; have e : [(a2, m2, Y)].filter (fun z => !decide (a = z.1 ∧ n0 = z.2.1)) = [] := (by rw [List.filter_cons]; simp only [HEi.out]; rfl)
          rw [e, List.append_nil]; exact HCk.out
        case measure => simp [intOf]; omega
      | false =>
        have hg8 : g < w8.heap.size := (by omega)
        have f0 : w8.cell? ⟨g, o + q * 11, none⟩ = some (.int .u32 (a2 : Int)) := (HB8.out.cell hg).trans (HCs.out 0 _ rfl); have f1 : w8.cell? ⟨g, o + q * 11 + 1, none⟩ = some (.int .i64 (m2 : Int)) := (HB8.out.cell hg).trans (HCs.out 1 _ rfl); have f2 : w8.cell? ⟨g, o + q * 11 + 2, none⟩ = some (.int .i64 Y.has) := (HB8.out.cell hg).trans (HCs.out 2 _ rfl); have f3 : w8.cell? ⟨g, o + q * 11 + 3, none⟩ = some (.int .i64 Y.org) := (HB8.out.cell hg).trans (HCs.out 3 _ rfl); have f4 : w8.cell? ⟨g, o + q * 11 + 4, none⟩ = some (.slice B1 k1 e1) := (HB8.out.cell hg).trans (HCs.out 4 _ rfl); have f5 : w8.cell? ⟨g, o + q * 11 + 5, none⟩ = some (.int .u32 Y.hop) := (HB8.out.cell hg).trans (HCs.out 5 _ rfl); have f6 : w8.cell? ⟨g, o + q * 11 + 6, none⟩ = some (.int .u32 Y.med) := (HB8.out.cell hg).trans (HCs.out 6 _ rfl); have f7 : w8.cell? ⟨g, o + q * 11 + 7, none⟩ = some (.int .u32 Y.pref) := (HB8.out.cell hg).trans (HCs.out 7 _ rfl); have f8 : w8.cell? ⟨g, o + q * 11 + 8, none⟩ = some (.int .u32 Y.aas) := (HB8.out.cell hg).trans (HCs.out 8 _ rfl); have f9 : w8.cell? ⟨g, o + q * 11 + 9, none⟩ = some (.int .u32 Y.aid) := (HB8.out.cell hg).trans (HCs.out 9 _ rfl); have f10 : w8.cell? ⟨g, o + q * 11 + 10, none⟩ = some (.slice B2 k2 d2) := (HB8.out.cell hg).trans (HCs.out 10 _ rfl)
        go_wp2_with (at_builtin; refine wpList_append_any _ rfl (.tmp 23) (.tmp 28) 51 rfl (w.heap.size + 1) 71 i0 _ 11 104 Tryz.underlying51 hi hz0 hz1 hz2 rfl (by decide) (.slice (some ⟨g4, 0, none⟩) n1 c1) n1 xs rfl (HO8.out.alloc _) (w8.heap.size + 1) (some ⟨w8.heap.size, 0, none⟩) 1 1 [.int .u32 (a2 : Int), .int .i64 (m2 : Int), .int .i64 Y.has, .int .i64 Y.org, .slice B1 k1 e1, .int .u32 Y.hop, .int .u32 Y.med, .int .u32 Y.pref, .int .u32 Y.aas, .int .u32 Y.aid, .slice B2 k2 d2] rfl (reads_blkN (Blk.new _ _ _) (by simp) rfl rfl) (by simp [Value.oneCell']) (by unfold maxLen; omega) (by omega) (by simp; omega) ?_; intro v' w9 h5 h6 h7; obtain ⟨g5, hg5⟩ : ∃ k, v'.ownBlock = some k := (by rcases h7 with h7 | h7; exact ⟨g4, h7⟩; exact ⟨_, h7⟩); obtain ⟨c5, rfl⟩ := own_some h5 hg5; have HO9 := hide h5; have HB9 := hide ((HBel8.out.trans ((Below.refl (w.heap.size + 1) w8).alloc (by omega) _)).grown h6 (by simp; omega) (fun k hk => own_low_block HO8.out k hk)); clear h5 h6 h7 hg5)
        go_roundw
        case rel =>
          refine ⟨q + 1, n1 + 1, g5, c5, _, by omega, by omega, by go_num, rfl, HO9.out, ?_, HB9.out⟩; rw [HTk.out, List.filter_append]; have e : [(a2, m2, Y)].filter (fun z => !decide (a = z.1 ∧ n0 = z.2.1)) = [(a2, m2, Y)] := (by rw [List.filter_cons]; simp only [HEi.out]; rfl)
          rw [e, List.map_append]; exact HCk.out.app_ (Chunks.one_ rfl HTf.out)
        case measure => simp [intOf]; omega
    · obtain rfl : q = n := (by omega)
      have e1 : decide ((q : Int) < (q : Int)) = false := (by simp)
      rw [List.take_of_length_le (by rw [HLn.out]; exact Nat.le_refl _)] at hck; obtain ⟨M, hM⟩ : ∃ M, L.filter (fun z => !decide (a = z.1 ∧ n0 = z.2.1)) = M := ⟨_, rfl⟩
      have hMl : M.length = n1 := by
        have h1 := hown.1; have h2 := hck.1; rw [hM, List.length_map] at h2; omega
      rw [hM] at hck; have HM := hide hM; have HMl := hide hMl; have HCk := hide hck; have HMg : Hid (∀ z ∈ M, z.1 < 4294967296) := hide (fun z hz => HPg.out z (by rw [← hM] at hz; exact (List.mem_filter.1 hz).1)); have HOne := hide (Chunks.ones (tdfOne F) hck (by decide)); obtain ⟨w6, h6⟩ : ∃ W, W = wr := ⟨_, rfl⟩
      subst h6; have HO6 := hide hown; have HBw6 := hide HBw.out; have HB6 := hide hbw; have hs6 := hsr; clear hown hck hbel hbw hlt hM hMl HBw HBw0 HBe HO HB0
      go_upto_block 2 with fail
      go_cut [6] (fun s6 wc => ∃ i : Nat, s6 = .int .i64 (i : Nat) ∧ i ≤ n1 ∧ Below w6.heap.size w6 wc ∧ M.take i ++ [(a, n0, X)] ++ M.drop i = putL a n0 X L)
      case rest =>
        obtain ⟨i, rfl, hiq, hbel, hput⟩ := hcut; obtain ⟨w7, h7⟩ : ∃ W, W = wc := ⟨_, rfl⟩
        subst h7; have HPut := hide hput; have HOw := hide (own_below HO6.out hbel); have HBw := hide (HBw6.out.below hbel HBw6.out.lt); have HBz := hide (HB6.out.trans (hbel.mono HB6.out.size)); have hzw : w.heap.size ≤ w7.heap.size := Nat.le_trans HB6.out.size hbel.size; have i0' : (0 : Int) ≤ (i : Int) := (by omega)
        have hi2 : (i : Int) ≤ (c1 : Int) := (by omega)
        have hi5 : (n1 : Int) ≤ (c1 : Int) := (by omega)
        have hi6 : (i : Int) ≤ (n1 : Int) := (by omega)
        clear hbel hput
        go_upto_region 9 with fail
        have Hmn := hide (show AllMono [(fun v _ => ∃ A, v = .slice A 0 0), (fun v _ => v = .slice (some ⟨g4, 0, none⟩) n1 c1), (fun v _ => v = .int .i64 (i : Int)), (fun v _ => v = .slice (some ⟨g4, 0, none⟩) i c1), (fun v _ => ∃ A c, v = .slice A i c), (fun v _ => v = .agg #[.int .u32 (a : Int), .int .i64 (n0 : Int), .int .i64 X.has, .int .i64 X.org, .slice XA xk xc, .int .u32 X.hop, .int .u32 X.med, .int .u32 X.pref, .int .u32 X.aas, .int .u32 X.aid, .slice XB xm xd]), (fun v _ => ∃ R, v = .slice (some ⟨R, 0, none⟩) 1 1), (fun v _ => ∃ A c, v = .slice A (i + 1) c), (fun v _ => v = .slice (some ⟨g4, 0, none⟩) n1 c1), (fun v _ => v = .int .i64 (i : Int)), (fun v _ => ∃ A c, v = .slice A (n1 - i) c ∧ (i < n1 → A = some ⟨g4, i * 11, none⟩))] from by repeat (first | exact trivial | refine ⟨fun _ _ _ _ h => h, ?_⟩)); have Hfl := hide (show AllFlat [(fun v _ => ∃ A, v = .slice A 0 0), (fun v _ => v = .slice (some ⟨g4, 0, none⟩) n1 c1), (fun v _ => v = .int .i64 (i : Int)), (fun v _ => v = .slice (some ⟨g4, 0, none⟩) i c1), (fun v _ => ∃ A c, v = .slice A i c), (fun v _ => v = .agg #[.int .u32 (a : Int), .int .i64 (n0 : Int), .int .i64 X.has, .int .i64 X.org, .slice XA xk xc, .int .u32 X.hop, .int .u32 X.med, .int .u32 X.pref, .int .u32 X.aas, .int .u32 X.aid, .slice XB xm xd]), (fun v _ => ∃ R, v = .slice (some ⟨R, 0, none⟩) 1 1), (fun v _ => ∃ A c, v = .slice A (i + 1) c), (fun v _ => v = .slice (some ⟨g4, 0, none⟩) n1 c1), (fun v _ => v = .int .i64 (i : Int)), (fun v _ => ∃ A c, v = .slice A (n1 - i) c ∧ (i < n1 → A = some ⟨g4, i * 11, none⟩))] from by repeat (first | exact trivial | refine ⟨fun _ _ _ h => h, ?_⟩)); refine wp_region_relX 11 w7.heap.size (Nat.le_refl _) [(fun v _ => ∃ A, v = .slice A 0 0), (fun v _ => v = .slice (some ⟨g4, 0, none⟩) n1 c1), (fun v _ => v = .int .i64 (i : Int)), (fun v _ => v = .slice (some ⟨g4, 0, none⟩) i c1), (fun v _ => ∃ A c, v = .slice A i c), (fun v _ => v = .agg #[.int .u32 (a : Int), .int .i64 (n0 : Int), .int .i64 X.has, .int .i64 X.org, .slice XA xk xc, .int .u32 X.hop, .int .u32 X.med, .int .u32 X.pref, .int .u32 X.aas, .int .u32 X.aid, .slice XB xm xd]), (fun v _ => ∃ R, v = .slice (some ⟨R, 0, none⟩) 1 1), (fun v _ => ∃ A c, v = .slice A (i + 1) c), (fun v _ => v = .slice (some ⟨g4, 0, none⟩) n1 c1), (fun v _ => v = .int .i64 (i : Int)), (fun v _ => ∃ A c, v = .slice A (n1 - i) c ∧ (i < n1 → A = some ⟨g4, i * 11, none⟩))] (P3X 71 11 0 4 6 7 w7.heap.size i (xs.take (i * 11)) [.int .u32 (a : Int), .int .i64 (n0 : Int), .int .i64 X.has, .int .i64 X.org, .slice XA xk xc, .int .u32 X.hop, .int .u32 X.med, .int .u32 X.pref, .int .u32 X.aas, .int .u32 X.aid, .slice XB xm xd]) (by kernel_rfl) (by kernel_rfl) (by kernel_rfl) (by kernel_rfl) (by kernel_rfl) (p3_start _ _) ⟨?_, ?_, ?_, ?_, ?_, ?_, ?_, ?_, ?_, ?_, ?_, trivial⟩ ?_
        · refine relX_op rfl rfl Hmn.out (Nat.le_refl _) ?_; intro Dn Ac w5 hp; have hb := hp.bel; obtain ⟨ρ, hρ, hc, hf, hgl⟩ := evalX Ac; refine relValS hρ (.slice (some ⟨w5.heap.size, 0, none⟩) 0 0) (w5.alloc (.cells #[] 71)) (by simp [go_sem, ↓IntWalk.iteOmega, *]) ⟨⟨_, rfl⟩, blkBelow1 w5 _, p3_p0 hp.ext (blkBelow1 w5 _) hp.no (by decide) (by decide) (by decide) (World.ownsRow_lit w5 #[] 0 hb.size (by unfold maxLen; omega) rfl) (fun k hk => by cases hk; exact Nat.le_refl _)⟩
        · refine relX_plain rfl rfl Hmn.out (Nat.le_refl _) (fun D u v wa wb hb h => p3_other h hb (by decide) (by decide) (by decide) (by decide)) ?_; intro Dn Ac w5 hp; have a5 : Ac.eval (.tmp 5) = .slice (some ⟨g4, 0, none⟩) n1 c1 := hp.out 5 (by rfl); exact relPureX (.slice (some ⟨g4, 0, none⟩) n1 c1) (fun ρ hρ h1 h2 h3 => by rw [hρ] at a5; simp [go_sem, ↓IntWalk.iteOmega, *]) rfl
        · refine relX_plain rfl rfl Hmn.out (Nat.le_refl _) (fun D u v wa wb hb h => p3_other h hb (by decide) (by decide) (by decide) (by decide)) ?_; intro Dn Ac w5 hp; have a6 : Ac.eval (.tmp 6) = .int .i64 (i : Int) := hp.out 6 (by rfl); exact relPureX (.int .i64 (i : Int)) (fun ρ hρ h1 h2 h3 => by rw [hρ] at a6; simp [go_sem, ↓IntWalk.iteOmega, *]) rfl
        · refine relX_plain rfl rfl Hmn.out (Nat.le_refl _) (fun D u v wa wb hb h => p3_other h hb (by decide) (by decide) (by decide) (by decide)) ?_; intro Dn Ac w5 hp; have a48 : Ac.eval (.tmp 48) = .slice (some ⟨g4, 0, none⟩) n1 c1 := hp.dep 1 (by kernel_rfl); have a49 : Ac.eval (.tmp 49) = .int .i64 (i : Int) := hp.dep 2 (by kernel_rfl); exact relPureX (.slice (some ⟨g4, 0, none⟩) i c1) (fun ρ hρ h1 h2 h3 => by rw [hρ] at a48 a49; simp [go_sem, ↓IntWalk.iteOmega, *]) rfl
        · refine relX_app rfl rfl ?_; intro Dn Ac w5 hp; have hb := hp.bel; obtain ⟨A47, a47⟩ := hp.dep 0 (by kernel_rfl); change Ac.eval (.tmp 47) = _ at a47; have a50 : Ac.eval (.tmp 50) = .slice (some ⟨g4, 0, none⟩) i c1 := hp.dep 3 (by kernel_rfl); have hd0 := hp.dn 0 (by kernel_rfl); have ho0 := hp.ext.r0 hd0 hp.no; change w5.ownsRow _ _ _ (Ac.eval (.tmp 47)) 0 [] at ho0; rw [a47] at ho0; refine wp_append_any w5 (.tmp 47) (.tmp 50) 51 rfl w7.heap.size 71 i0 _ 11 104 Tryz.underlying51 hi hz0 hz1 hz2 rfl (by decide) (.slice A47 0 0) 0 [] a47 ho0 w5.heap.size (some ⟨g4, 0, none⟩) i c1 (xs.take (i * 11)) a50 (own_reads_take (own_below HOw.out hb) hiq) (fun u hu => HOne.out u (List.mem_of_mem_take hu)) (by unfold maxLen; omega) (by omega) hb.size ?_; intro v2 w6 h2 h3 h4; obtain ⟨A4, c4, rfl⟩ := own_slice h2; rw [Nat.zero_add] at h2 h4 ⊢; refine ⟨_, rfl, ⟨A4, c4, rfl⟩, (Below.refl w7.heap.size w5).grown h3 hb.size (fun k hk => own_low_block ho0 k hk), fun j _ hj => relFlat _ Hfl.out _ _ _ _ (hp.has j hj), ?_⟩; refine p3_p1 hp.ext hp.no hd0 (by decide) (by decide) (by decide) h2 ?_ ?_
          · show World.grownBy _ _ (Ac.eval (.tmp 47)).ownBlock; rw [a47]; exact h3
          · show _ = (Ac.eval (.tmp 47)).ownBlock ∨ _; rw [a47]; exact h4
        · refine relX_plain rfl rfl Hmn.out (Nat.le_refl _) (fun D u v wa wb hb h => p3_other h hb (by decide) (by decide) (by decide) (by decide)) ?_; intro Dn Ac w5 hp; have hb := hp.bel; have a3 : Ac.eval (.tmp 3) = .pointer (some ⟨w.heap.size, 0, none⟩) := hp.out 3 (by rfl); have hx5 := HBw.out.below hb HBw.out.lt; have zb0 : w5.cell? ⟨w.heap.size, 0, none⟩ = some (.int .u32 (a : Int)) := hx5.cell 0; have zb1 : w5.cell? ⟨w.heap.size, 1, none⟩ = some (.int .i64 (n0 : Int)) := hx5.cell 1; have zb2 : w5.cell? ⟨w.heap.size, 2, none⟩ = some (.int .i64 X.has) := hx5.cell 2; have zb3 : w5.cell? ⟨w.heap.size, 3, none⟩ = some (.int .i64 X.org) := hx5.cell 3; have zb4 : w5.cell? ⟨w.heap.size, 4, none⟩ = some (.slice XA xk xc) := hx5.cell 4; have zb5 : w5.cell? ⟨w.heap.size, 5, none⟩ = some (.int .u32 X.hop) := hx5.cell 5; have zb6 : w5.cell? ⟨w.heap.size, 6, none⟩ = some (.int .u32 X.med) := hx5.cell 6; have zb7 : w5.cell? ⟨w.heap.size, 7, none⟩ = some (.int .u32 X.pref) := hx5.cell 7; have zb8 : w5.cell? ⟨w.heap.size, 8, none⟩ = some (.int .u32 X.aas) := hx5.cell 8; have zb9 : w5.cell? ⟨w.heap.size, 9, none⟩ = some (.int .u32 X.aid) := hx5.cell 9; have zb10 : w5.cell? ⟨w.heap.size, 10, none⟩ = some (.slice XB xm xd) := hx5.cell 10; exact relPureX (.agg #[.int .u32 (a : Int), .int .i64 (n0 : Int), .int .i64 X.has, .int .i64 X.org, .slice XA xk xc, .int .u32 X.hop, .int .u32 X.med, .int .u32 X.pref, .int .u32 X.aas, .int .u32 X.aid, .slice XB xm xd]) (fun ρ hρ h1 h2 h3 => by rw [hρ] at a3; simp [go_sem, ↓IntWalk.iteOmega, *]) rfl
        · refine relX_op rfl rfl Hmn.out (Nat.le_refl _) ?_; intro Dn Ac w5 hp; have hb := hp.bel; have a52 : Ac.eval (.tmp 52) = .agg #[.int .u32 (a : Int), .int .i64 (n0 : Int), .int .i64 X.has, .int .i64 X.org, .slice XA xk xc, .int .u32 X.hop, .int .u32 X.med, .int .u32 X.pref, .int .u32 X.aas, .int .u32 X.aid, .slice XB xm xd] := hp.dep 5 (by kernel_rfl); obtain ⟨ρ, hρ, hc, hf, hgl⟩ := evalX Ac; rw [hρ] at a52; refine relValS hρ (.slice (some ⟨w5.heap.size, 0, none⟩) 1 1) (w5.alloc (.cells #[.int .u32 (a : Int), .int .i64 (n0 : Int), .int .i64 X.has, .int .i64 X.org, .slice XA xk xc, .int .u32 X.hop, .int .u32 X.med, .int .u32 X.pref, .int .u32 X.aas, .int .u32 X.aid, .slice XB xm xd] 71)) (by simp [go_sem, ↓IntWalk.iteOmega, *]) ⟨⟨_, rfl⟩, blkBelow1 w5 _, p3_pb hp.ext (blkBelow1 w5 _) hp.no (by decide) (by decide) (by decide) rfl (Nat.le_refl _) hb.size (Blk.new w5 _ _)⟩
        · refine relX_app rfl rfl ?_; intro Dn Ac w5 hp; have hb := hp.bel; obtain ⟨A51, c51, a51⟩ := hp.dep 4 (by kernel_rfl); change Ac.eval (.tmp 51) = _ at a51; obtain ⟨R53, a53⟩ := hp.dep 6 (by kernel_rfl); change Ac.eval (.tmp 53) = _ at a53; have hd1 := hp.dn 4 (by kernel_rfl); have hdb := hp.dn 6 (by kernel_rfl); have ho1 := hp.ext.r1 hd1 hp.no; change w5.ownsRow _ _ _ (Ac.eval (.tmp 51)) _ _ at ho1; rw [a51] at ho1; obtain ⟨R, eR, hR, hk, _, _⟩ := hp.ext.bx hdb hp.no; change Ac.eval (.tmp 53) = _ at eR; refine wp_append_any w5 (.tmp 51) (.tmp 53) 51 rfl w7.heap.size 71 i0 _ 11 104 Tryz.underlying51 hi hz0 hz1 hz2 rfl (by decide) (.slice A51 i c51) i _ a51 ho1 w5.heap.size (some ⟨R, 0, none⟩) 1 1 [.int .u32 (a : Int), .int .i64 (n0 : Int), .int .i64 X.has, .int .i64 X.org, .slice XA xk xc, .int .u32 X.hop, .int .u32 X.med, .int .u32 X.pref, .int .u32 X.aas, .int .u32 X.aid, .slice XB xm xd] eR (reads_blkN hk hk.lt rfl rfl) (by simp [Value.oneCell']) (by unfold maxLen; omega) (by omega) hb.size ?_; intro v2 w6 h2 h3 h4; obtain ⟨A4, c4, rfl⟩ := own_slice h2; exact ⟨_, rfl, ⟨A4, c4, rfl⟩, (Below.refl w7.heap.size w5).grown h3 hb.size (fun k hk => own_low_block ho1 k hk), fun j _ hj => relFlat _ Hfl.out _ _ _ _ (hp.has j hj), p3_p2 hp.ext hd1 hdb (by decide) (by decide) (by decide) h2⟩
        · refine relX_plain rfl rfl Hmn.out (Nat.le_refl _) (fun D u v wa wb hb h => p3_other h hb (by decide) (by decide) (by decide) (by decide)) ?_; intro Dn Ac w5 hp; have a5 : Ac.eval (.tmp 5) = .slice (some ⟨g4, 0, none⟩) n1 c1 := hp.out 5 (by rfl); exact relPureX (.slice (some ⟨g4, 0, none⟩) n1 c1) (fun ρ hρ h1 h2 h3 => by rw [hρ] at a5; simp [go_sem, ↓IntWalk.iteOmega, *]) rfl
        · refine relX_plain rfl rfl Hmn.out (Nat.le_refl _) (fun D u v wa wb hb h => p3_other h hb (by decide) (by decide) (by decide) (by decide)) ?_; intro Dn Ac w5 hp; have a6 : Ac.eval (.tmp 6) = .int .i64 (i : Int) := hp.out 6 (by rfl); exact relPureX (.int .i64 (i : Int)) (fun ρ hρ h1 h2 h3 => by rw [hρ] at a6; simp [go_sem, ↓IntWalk.iteOmega, *]) rfl
        · refine relX_plain rfl rfl Hmn.out (Nat.le_refl _) (fun D u v wa wb hb h => p3_other h hb (by decide) (by decide) (by decide) (by decide)) ?_; intro Dn Ac w5 hp; have a55 : Ac.eval (.tmp 55) = .slice (some ⟨g4, 0, none⟩) n1 c1 := hp.dep 8 (by kernel_rfl); have a56 : Ac.eval (.tmp 56) = .int .i64 (i : Int) := hp.dep 9 (by kernel_rfl); obtain ⟨ρ, hρ, hc, hf, hgl⟩ := evalX Ac; rw [hρ] at a55 a56; by_cases hlt : i < n1
          · have hi3 : (i : Int) < (c1 : Int) := (by omega)
            have hi4 : ¬ c1 = i := (by omega)
            exact relPure hρ (.slice (some ⟨g4, i * 11, none⟩) (n1 - i) (c1 - i)) (by simp [go_sem, ↓IntWalk.iteOmega, *]) ⟨_, _, rfl, fun _ => rfl⟩
          · have hin : i = n1 := (by omega)
            by_cases hi4 : c1 = i
            · exact relPure hρ (.slice (some ⟨g4, 0, none⟩) (n1 - i) (c1 - i)) (by simp [go_sem, ↓IntWalk.iteOmega, *]) ⟨_, _, rfl, fun h => absurd h hlt⟩
            · exact relPure hρ (.slice (some ⟨g4, i * 11, none⟩) (n1 - i) (c1 - i)) (by simp [go_sem, ↓IntWalk.iteOmega, *]) ⟨_, _, rfl, fun h => absurd h hlt⟩
        intro u w8 hb7 hall hox; obtain ⟨A54, c54, e54⟩ := relAll_at hall (i := 7) (by decide +kernel); change u 7 = _ at e54; obtain ⟨A57, c57, e57, hA57⟩ := relAll_at hall (i := 10) (by decide +kernel); change u 10 = _ at e57; clear hall; simp only [List.drop_succ_cons, List.drop_zero, List.take_succ_cons, List.take_zero, putAll, Act.put, List.setIfInBounds_toArray, List.set_cons_zero, List.set_cons_succ, Nat.zero_add, Nat.reduceAdd, e54, e57]; have hown8 := hox.r2 (by decide); change w8.ownsRow _ _ _ (u 7) _ _ at hown8; rw [e54] at hown8
        have hOd : Reads w8 w8.heap.size 11 A57 (n1 - i) (xs.drop (i * 11)) := by
          by_cases hlt2 : i < n1
          · rw [hA57 hlt2]; exact own_reads_drop (own_below HOw.out hb7) hiq
          · exact ⟨by have := HOw.out.1; rw [List.length_drop, this, Nat.sub_mul], fun h => absurd h (by omega)⟩
        refine wpList_append_any w8 rfl (.tmp 54) (.tmp 57) 51 rfl w7.heap.size 71 i0 _ 11 104 Tryz.underlying51 hi hz0 hz1 hz2 rfl (by decide) (.slice A54 (i + 1) c54) (i + 1) _ rfl hown8 w8.heap.size A57 (n1 - i) c57 (xs.drop (i * 11)) rfl hOd (fun u hu => HOne.out u (List.mem_of_mem_drop hu)) (by unfold maxLen; omega) (by omega) hb7.size ?_; intro v2 w9 h2 h3 h4; obtain ⟨A9, c9, rfl⟩ := own_slice h2; have HO9 := hide h2; have HB9 : Hid (Below w.heap.size w w9) := hide (HBz.out.trans (((hb7.trans ((Below.refl w7.heap.size w8).grown h3 hb7.size (fun k hk => own_low_block hown8 k hk))).mono hzw)))
        have HCk9 : Hid (Chunks 11 (tdF F) w (xs.take (i * 11) ++ [.int .u32 (a : Int), .int .i64 (n0 : Int), .int .i64 X.has, .int .i64 X.org, .slice XA xk xc, .int .u32 X.hop, .int .u32 X.med, .int .u32 X.pref, .int .u32 X.aas, .int .u32 X.aid, .slice XB xm xd] ++ xs.drop (i * 11)) ((putL a n0 X L).map tdZ)) := hide (by
          rw [← HPut.out, List.map_append, List.map_append, List.map_take, List.map_drop]; exact ((HCk.out.take_ i).app_ (Chunks.one_ rfl HXf.out)).app_ (chunk_drop HCk.out i (by rw [List.length_map, HMl.out]; exact hiq)))
        clear h2 h3 h4 hown8 hOd hox hb7 e54 e57 hA57; go_wp2; go_ret; exact ⟨A9, _, c9, rfl, _, own_baseLe HO9.out hzw, HCk9.out, HB9.out⟩
      go_wp2_with fail
      go_loopw [6] (fun iv wr => ∃ i : Nat, i ≤ n1 ∧ iv = .int .i64 (i : Nat) ∧ Below w6.heap.size w6 wr ∧ ∀ j (h : j < i) (h2 : j < M.length), (M[j].1 < a ∨ M[j].1 = a ∧ M[j].2.1 < n0)) (fun iv _ => n1 - (intOf iv).toNat)
      case atStart => exact ⟨0, Nat.zero_le _, rfl, Below.refl _ _, fun j h => absurd h (by omega)⟩
      case round =>
        obtain ⟨i, hiq, rfl, hbel, hlow⟩ := hrel; have HBe := hide hbel; have HLow := hide hlow; have HOw := hide (own_below HO6.out hbel); have HBw := hide (HBw6.out.below hbel HBw6.out.lt); have HBz := hide (HB6.out.trans (hbel.mono HB6.out.size)); have hzw : w.heap.size ≤ wr.heap.size := Nat.le_trans HB6.out.size hbel.size; have i0' : (0 : Int) ≤ (i : Int) := (by omega)
        have hi2 : (i : Int) ≤ (c1 : Int) := (by omega)
        have hi5 : (n1 : Int) ≤ (c1 : Int) := (by omega)
        have hi6 : (i : Int) ≤ (n1 : Int) := (by omega)
        have hwi : IntKind.i64.wrap ((i : Int) + 1) = (i : Int) + 1 := (by rw [IntKind.wrap_i64]; omega)
        by_cases hlt : i < n1
        · obtain ⟨z, hz⟩ : ∃ z, M[i]? = some z := ⟨_, List.getElem?_eq_getElem (by rw [HMl.out]; exact hlt)⟩
          have hvs := HCk.out.2 i (tdZ z) (by rw [List.getElem?_map, hz]; rfl); obtain ⟨B1, k1, e1, B2, k2, d2, hvq, _⟩ := tdf_here hvs
          have hcl : ∀ (j : Nat) (v : Value), ((xs.drop (i * 11)).take 11)[j]? = some v → wr.cell? ⟨g4, i * 11 + j, none⟩ = some v := fun j v hj => by
            rw [List.getElem?_take] at hj; split at hj
            · rw [List.getElem?_drop] at hj; have h1 := HOw.out.cells (g := g4) rfl _ _ hj; have e2 : (⟨g4, 0, none⟩ : Addr).add (i * 11 + j) = ⟨g4, i * 11 + j, none⟩ := by unfold Addr.add; split <;> simp_all
              rw [e2] at h1; exact h1
            · cases hj
          rw [hvq] at hcl; have HZ := hide hz; have hza := HMg.out z (List.mem_of_getElem? hz); obtain ⟨a2, m2, Y⟩ := z; have F0 : Hid (wr.cell? ⟨g4, i * 11, none⟩ = some (.int .u32 (a2 : Int))) := hide (hcl 0 _ rfl); have F1 : Hid (wr.cell? ⟨g4, i * 11 + 1, none⟩ = some (.int .i64 (m2 : Int))) := hide (hcl 1 _ rfl); have hg4 : g4 < wr.heap.size := own_block_lt HOw.out g4 rfl; have i1 : (i : Int) < (n1 : Int) := (by omega)
          obtain ⟨K, hK⟩ : ∃ K, cmpP a2 (m2 : Int) a (n0 : Int) = K := ⟨_, rfl⟩
          obtain ⟨LB, hLB⟩ : ∃ b, decide (K < 0) = b := ⟨_, rfl⟩
          have HLBi : Hid (decide (a2 < a ∨ a2 = a ∧ m2 < n0) = LB) := hide (by rw [← cmp_lt, hK]; exact hLB); have HLB := hide hLB; have HCm := hide (fun W => refCmp_any a2 (m2 : Int) a (n0 : Int) hza ha W); rw [hK] at HCm; unfold pfx at HCm; clear hbel hlow hvs hvq hcl hz hza hK hLB; go_wp2; have Hmn := hide (show AllMono [(fun v _ => v = .int .i64 (i : Int)), (fun v _ => v = .slice (some ⟨g4, 0, none⟩) n1 c1), (fun v _ => v = .int .i64 (n1 : Int)), (fun v _ => v = .bool true), (fun v _ => v = .bool true), (fun v _ => v = .slice (some ⟨g4, 0, none⟩) n1 c1), (fun v _ => v = .int .i64 (i : Int)), (fun v _ => v = .pointer (some ⟨g4, i * 11, none⟩)), (fun v _ => v = .pointer (some ⟨g4, i * 11, none⟩)), (fun v _ => v = .agg #[.int .u32 (a2 : Int), .int .i64 (m2 : Int)]), (fun v _ => v = .pointer (some ⟨w.heap.size, 0, none⟩)), (fun v _ => v = .agg #[.int .u32 (a : Int), .int .i64 (n0 : Int)]), (fun v _ => v = .int .i64 K), (fun v _ => v = .bool LB), (fun v _ => v = .bool LB)] from by repeat (first | exact trivial | refine ⟨fun _ _ _ _ h => h, ?_⟩)); refine wp_region_rel _ (by kernel_rfl) (by kernel_rfl) (relMono _ Hmn.out) ⟨?_, ?_, ?_, ?_, ?_, ?_, ?_, ?_, ?_, ?_, ?_, ?_, ?_, ?_, ?_, trivial⟩ ?_
          · refine relStep_plain rfl ?_; intro Ac w5 hp; have a6 : Ac.eval (.tmp 6) = .int .i64 (i : Int) := hp.out 6 (by rfl); exact relPureX (.int .i64 (i : Int)) (fun ρ hρ h1 h2 h3 => by rw [hρ] at a6; simp [go_sem, ↓IntWalk.iteOmega, *]) rfl
          · refine relStep_plain rfl ?_; intro Ac w5 hp; have a5 : Ac.eval (.tmp 5) = .slice (some ⟨g4, 0, none⟩) n1 c1 := hp.out 5 (by rfl); exact relPureX (.slice (some ⟨g4, 0, none⟩) n1 c1) (fun ρ hρ h1 h2 h3 => by rw [hρ] at a5; simp [go_sem, ↓IntWalk.iteOmega, *]) rfl
          · refine relStep_plain rfl ?_; intro Ac w5 hp; have a31 : Ac.eval (.tmp 31) = .slice (some ⟨g4, 0, none⟩) n1 c1 := hp.dep 1 (by kernel_rfl); exact relPureX (.int .i64 (n1 : Int)) (fun ρ hρ h1 h2 h3 => by rw [hρ] at a31; simp [go_sem, ↓IntWalk.iteOmega, *]) rfl
          · refine relStep_plain rfl ?_; intro Ac w5 hp; have a30 : Ac.eval (.tmp 30) = .int .i64 (i : Int) := hp.dep 0 (by kernel_rfl); have a32 : Ac.eval (.tmp 32) = .int .i64 (n1 : Int) := hp.dep 2 (by kernel_rfl); exact relPureX (.bool true) (fun ρ hρ h1 h2 h3 => by rw [hρ] at a30 a32; simp [go_sem, ↓IntWalk.iteOmega, *]) rfl
          · refine relStep_plain rfl ?_; intro Ac w5 hp; have a33 : Ac.eval (.tmp 33) = .bool true := hp.dep 3 (by kernel_rfl); exact relPureX (.bool true) (fun ρ hρ h1 h2 h3 => by rw [hρ] at a33; simp [go_sem, ↓IntWalk.iteOmega, *]) rfl
          · refine relStep_guard (g := 4) (b := true) (x := true) rfl (by kernel_rfl) rfl (by kernel_rfl) rfl (fun _ _ h => h) ?_; intro Ac w5 hp; have a5 : Ac.eval (.tmp 5) = .slice (some ⟨g4, 0, none⟩) n1 c1 := hp.out 5 (by rfl); exact relPureX (.slice (some ⟨g4, 0, none⟩) n1 c1) (fun ρ hρ h1 h2 h3 => by rw [hρ] at a5; simp [go_sem, ↓IntWalk.iteOmega, *]) rfl
          · refine relStep_guard (g := 4) (b := true) (x := true) rfl (by kernel_rfl) rfl (by kernel_rfl) rfl (fun _ _ h => h) ?_; intro Ac w5 hp; have a6 : Ac.eval (.tmp 6) = .int .i64 (i : Int) := hp.out 6 (by rfl); exact relPureX (.int .i64 (i : Int)) (fun ρ hρ h1 h2 h3 => by rw [hρ] at a6; simp [go_sem, ↓IntWalk.iteOmega, *]) rfl
          · refine relStep_guard (g := 4) (b := true) (x := true) rfl (by kernel_rfl) rfl (by kernel_rfl) rfl (fun _ _ h => h) ?_; intro Ac w5 hp; have a35 : Ac.eval (.tmp 35) = .slice (some ⟨g4, 0, none⟩) n1 c1 := hp.dep 5 (by kernel_rfl); have a36 : Ac.eval (.tmp 36) = .int .i64 (i : Int) := hp.dep 6 (by kernel_rfl); exact relPureX (.pointer (some ⟨g4, i * 11, none⟩)) (fun ρ hρ h1 h2 h3 => by rw [hρ] at a35 a36; simp [go_sem, ↓IntWalk.iteOmega, *]) rfl
          · refine relStep_guard (g := 4) (b := true) (x := true) rfl (by kernel_rfl) rfl (by kernel_rfl) rfl (fun _ _ h => h) ?_; intro Ac w5 hp; have a37 : Ac.eval (.tmp 37) = .pointer (some ⟨g4, i * 11, none⟩) := hp.dep 7 (by kernel_rfl); exact relPureX (.pointer (some ⟨g4, i * 11, none⟩)) (fun ρ hρ h1 h2 h3 => by rw [hρ] at a37; simp [go_sem, ↓IntWalk.iteOmega, *]) rfl
          · refine relStep_guard (g := 4) (b := true) (x := true) rfl (by kernel_rfl) rfl (by kernel_rfl) rfl (fun _ _ h => h) ?_; intro Ac w5 hp; have hb := hp.bel; have a38 : Ac.eval (.tmp 38) = .pointer (some ⟨g4, i * 11, none⟩) := hp.dep 8 (by kernel_rfl); have f0 : w5.cell? ⟨g4, i * 11, none⟩ = some (.int .u32 (a2 : Int)) := (hb.cell hg4).trans F0.out; have f1 : w5.cell? ⟨g4, i * 11 + 1, none⟩ = some (.int .i64 (m2 : Int)) := (hb.cell hg4).trans F1.out; exact relPureX (.agg #[.int .u32 (a2 : Int), .int .i64 (m2 : Int)]) (fun ρ hρ h1 h2 h3 => by rw [hρ] at a38; simp [go_sem, ↓IntWalk.iteOmega, *]) rfl
          · refine relStep_guard (g := 4) (b := true) (x := true) rfl (by kernel_rfl) rfl (by kernel_rfl) rfl (fun _ _ h => h) ?_; intro Ac w5 hp; have a3 : Ac.eval (.tmp 3) = .pointer (some ⟨w.heap.size, 0, none⟩) := hp.out 3 (by rfl); exact relPureX (.pointer (some ⟨w.heap.size, 0, none⟩)) (fun ρ hρ h1 h2 h3 => by rw [hρ] at a3; simp [go_sem, ↓IntWalk.iteOmega, *]) rfl
          · refine relStep_guard (g := 4) (b := true) (x := true) rfl (by kernel_rfl) rfl (by kernel_rfl) rfl (fun _ _ h => h) ?_; intro Ac w5 hp; have hb := hp.bel; have a40 : Ac.eval (.tmp 40) = .pointer (some ⟨w.heap.size, 0, none⟩) := hp.dep 10 (by kernel_rfl); have hx5 := HBw.out.below hb HBw.out.lt; have zb0 : w5.cell? ⟨w.heap.size, 0, none⟩ = some (.int .u32 (a : Int)) := hx5.cell 0; have zb1 : w5.cell? ⟨w.heap.size, 1, none⟩ = some (.int .i64 (n0 : Int)) := hx5.cell 1; exact relPureX (.agg #[.int .u32 (a : Int), .int .i64 (n0 : Int)]) (fun ρ hρ h1 h2 h3 => by rw [hρ] at a40; simp [go_sem, ↓IntWalk.iteOmega, *]) rfl
          · refine relStep_guard (g := 4) (b := true) (x := true) rfl (by kernel_rfl) rfl (by kernel_rfl) rfl (fun _ _ h => h) ?_; intro Ac w5 hp; have a39 : Ac.eval (.tmp 39) = .agg #[.int .u32 (a2 : Int), .int .i64 (m2 : Int)] := hp.dep 9 (by kernel_rfl); have a41 : Ac.eval (.tmp 41) = .agg #[.int .u32 (a : Int), .int .i64 (n0 : Int)] := hp.dep 11 (by kernel_rfl); obtain ⟨ρ, hρ, hc, hf, hgl⟩ := evalX Ac; rw [hρ] at a39 a41; refine relCall hρ 89 #[.agg #[.int .u32 (a2 : Int), .int .i64 (m2 : Int)], .agg #[.int .u32 (a : Int), .int .i64 (n0 : Int)]] (by simp [go_sem, ↓IntWalk.iteOmega, *]) ?_; refine (HCm.out w5).mono ?_; rintro e w6 ⟨rfl, hb6⟩; exact ⟨_, rfl, rfl, hb6⟩
          · refine relStep_guard (g := 4) (b := true) (x := true) rfl (by kernel_rfl) rfl (by kernel_rfl) rfl (fun _ _ h => h) ?_; intro Ac w5 hp; have a42 : Ac.eval (.tmp 42) = .int .i64 K := hp.dep 12 (by kernel_rfl); have hlb := HLB.out; exact relPureX (.bool LB) (fun ρ hρ h1 h2 h3 => by rw [hρ] at a42; simp [go_sem, ↓IntWalk.iteOmega, *]) rfl
          · refine relStep_plain rfl ?_; intro Ac w5 hp; have a34 : Ac.eval (.tmp 34) = .bool true := hp.dep 4 (by kernel_rfl); have a43 : Ac.eval (.tmp 43) = .bool LB := hp.dep 13 (by kernel_rfl); exact relPureX (.bool LB) (fun ρ hρ h1 h2 h3 => by rw [hρ] at a34 a43; simp [go_sem, ↓IntWalk.iteOmega, *]) rfl
          intro u w8 hb7 hall; have e44 : u 14 = .bool LB := relAll_at hall (i := 14) (by decide +kernel); clear hall; simp only [List.drop_succ_cons, List.drop_zero, List.take_succ_cons, List.take_zero, putAll, Act.put, List.setIfInBounds_toArray, List.set_cons_zero, List.set_cons_succ, Nat.zero_add, Nat.reduceAdd, e44]
          cases LB with
          | true =>
            have HB8 := hide (HBe.out.trans (hb7.mono HBe.out.size)); clear hb7; go_wp2
            go_roundw
            case rel =>
              refine ⟨i + 1, by omega, by go_num, HB8.out, fun j hj hj2 => ?_⟩; rcases Nat.lt_or_ge j i with h1 | h1
              · exact HLow.out j h1 hj2
              · obtain rfl : j = i := (by omega)
                have e2 : M[j] = (a2, m2, Y) := (by have := List.getElem?_eq_some_iff.1 HZ.out; exact this.2)
                rw [e2]; simpa using HLBi.out
            case measure => simp [intOf]; omega
          | false =>
            have HPut : Hid (M.take i ++ [(a, n0, X)] ++ M.drop i = putL a n0 X L) := hide (by
              have := putL_insert (x := X) (a := a) (n := n0) HS.out i; rw [HM.out] at this; refine this HLow.out (by rw [HMl.out]; exact hiq) (fun hi => ?_); have e2 : M[i] = (a2, m2, Y) := (by have := List.getElem?_eq_some_iff.1 HZ.out; exact this.2)
              rw [e2]; simpa using HLBi.out)
            have HBe8 := hide (HBe.out.trans (hb7.mono HBe.out.size)); clear hb7
            go_wp2_with fail
            go_meet
            exact ⟨i, rfl, hiq, HBe8.out, HPut.out⟩
        · have e1 : decide ((i : Int) < (n1 : Int)) = false := decide_eq_false (by omega); have e2' : decide (i < n1) = false := decide_eq_false hlt
          have HPut : Hid (M.take i ++ [(a, n0, X)] ++ M.drop i = putL a n0 X L) := hide (by
            have := putL_insert (x := X) (a := a) (n := n0) HS.out i; rw [HM.out] at this; exact this HLow.out (by rw [HMl.out]; exact hiq) (fun hi => absurd hi (by rw [HMl.out]; exact hlt)))
          clear hbel hlow; go_wp2; have Hmn := hide (show AllMono [(fun v _ => v = .int .i64 (i : Int)), (fun v _ => v = .slice (some ⟨g4, 0, none⟩) n1 c1), (fun v _ => v = .int .i64 (n1 : Int)), (fun v _ => v = .bool false), (fun v _ => v = .bool false), (fun v _ => v = undef), (fun v _ => v = undef), (fun v _ => v = undef), (fun v _ => v = undef), (fun v _ => v = undef), (fun v _ => v = undef), (fun v _ => v = undef), (fun v _ => v = undef), (fun v _ => v = undef), (fun v _ => v = .bool false)] from by repeat (first | exact trivial | refine ⟨fun _ _ _ _ h => h, ?_⟩)); refine wp_region_rel _ (by kernel_rfl) (by kernel_rfl) (relMono _ Hmn.out) ⟨?_, ?_, ?_, ?_, ?_, ?_, ?_, ?_, ?_, ?_, ?_, ?_, ?_, ?_, ?_, trivial⟩ ?_
          · refine relStep_plain rfl ?_; intro Ac w5 hp; have a6 : Ac.eval (.tmp 6) = .int .i64 (i : Int) := hp.out 6 (by rfl); exact relPureX (.int .i64 (i : Int)) (fun ρ hρ h1 h2 h3 => by rw [hρ] at a6; simp [go_sem, ↓IntWalk.iteOmega, *]) rfl
          · refine relStep_plain rfl ?_; intro Ac w5 hp; have a5 : Ac.eval (.tmp 5) = .slice (some ⟨g4, 0, none⟩) n1 c1 := hp.out 5 (by rfl); exact relPureX (.slice (some ⟨g4, 0, none⟩) n1 c1) (fun ρ hρ h1 h2 h3 => by rw [hρ] at a5; simp [go_sem, ↓IntWalk.iteOmega, *]) rfl
          · refine relStep_plain rfl ?_; intro Ac w5 hp; have a31 : Ac.eval (.tmp 31) = .slice (some ⟨g4, 0, none⟩) n1 c1 := hp.dep 1 (by kernel_rfl); exact relPureX (.int .i64 (n1 : Int)) (fun ρ hρ h1 h2 h3 => by rw [hρ] at a31; simp [go_sem, ↓IntWalk.iteOmega, *]) rfl
          · refine relStep_plain rfl ?_; intro Ac w5 hp; have a30 : Ac.eval (.tmp 30) = .int .i64 (i : Int) := hp.dep 0 (by kernel_rfl); have a32 : Ac.eval (.tmp 32) = .int .i64 (n1 : Int) := hp.dep 2 (by kernel_rfl); exact relPureX (.bool false) (fun ρ hρ h1 h2 h3 => by rw [hρ] at a30 a32; simp [go_sem, ↓IntWalk.iteOmega, *]) rfl
          · refine relStep_plain rfl ?_; intro Ac w5 hp; have a33 : Ac.eval (.tmp 33) = .bool false := hp.dep 3 (by kernel_rfl); exact relPureX (.bool false) (fun ρ hρ h1 h2 h3 => by rw [hρ] at a33; simp [go_sem, ↓IntWalk.iteOmega, *]) rfl
          · refine relStep_guard (g := 4) (b := true) (x := false) rfl (by kernel_rfl) rfl (by kernel_rfl) rfl (fun _ _ h => h) ?_; exact fun _ => rfl
          · refine relStep_guard (g := 4) (b := true) (x := false) rfl (by kernel_rfl) rfl (by kernel_rfl) rfl (fun _ _ h => h) ?_; exact fun _ => rfl
          · refine relStep_guard (g := 4) (b := true) (x := false) rfl (by kernel_rfl) rfl (by kernel_rfl) rfl (fun _ _ h => h) ?_; exact fun _ => rfl
          · refine relStep_guard (g := 4) (b := true) (x := false) rfl (by kernel_rfl) rfl (by kernel_rfl) rfl (fun _ _ h => h) ?_; exact fun _ => rfl
          · refine relStep_guard (g := 4) (b := true) (x := false) rfl (by kernel_rfl) rfl (by kernel_rfl) rfl (fun _ _ h => h) ?_; exact fun _ => rfl
          · refine relStep_guard (g := 4) (b := true) (x := false) rfl (by kernel_rfl) rfl (by kernel_rfl) rfl (fun _ _ h => h) ?_; exact fun _ => rfl
          · refine relStep_guard (g := 4) (b := true) (x := false) rfl (by kernel_rfl) rfl (by kernel_rfl) rfl (fun _ _ h => h) ?_; exact fun _ => rfl
          · refine relStep_guard (g := 4) (b := true) (x := false) rfl (by kernel_rfl) rfl (by kernel_rfl) rfl (fun _ _ h => h) ?_; exact fun _ => rfl
          · refine relStep_guard (g := 4) (b := true) (x := false) rfl (by kernel_rfl) rfl (by kernel_rfl) rfl (fun _ _ h => h) ?_; exact fun _ => rfl
          · refine relStep_plain rfl ?_; intro Ac w5 hp; have a34 : Ac.eval (.tmp 34) = .bool false := hp.dep 4 (by kernel_rfl); exact relPureX (.bool false) (fun ρ hρ h1 h2 h3 => by rw [hρ] at a34; simp [go_sem, ↓IntWalk.iteOmega, *]) rfl
          intro u w8 hb7 hall; have e44 : u 14 = .bool false := relAll_at hall (i := 14) (by decide +kernel); clear hall; simp only [List.drop_succ_cons, List.drop_zero, List.take_succ_cons, List.take_zero, putAll, Act.put, List.setIfInBounds_toArray, List.set_cons_zero, List.set_cons_succ, Nat.zero_add, Nat.reduceAdd, e44]; have HBe8 := hide (HBe.out.trans (hb7.mono HBe.out.size)); clear hb7
          go_wp2_with fail
          go_meet
          exact ⟨i, rfl, hiq, HBe8.out, HPut.out⟩
end Go.Proofs.YtcinjckajnnhmaaGreat
set_option linter.unusedSimpArgs false
set_option linter.unusedVariables false
namespace Go.Proofs.YtcinjckajnnhmaaGreat
open Go.RowKit Go.WideShapes Go.ChangeShapes
attribute [local go_sem] Oper.semAt_some
set_option maxRecDepth 100000 in
theorem pxCompact_nil (w : World) : Calls Tryz.prog 154 #[.slice none 0 0] w fun e w' => e = .returned (.slice none 0 0) ∧ w' = w := by
 have hnil := fun w => Lib.run_eql_slice_nil (P := Tryz.prog) w
 go_enter Tryz.func154, Tryz.ntmps154
 go_wp2; go_ret; exact ⟨rfl, rfl⟩
set_option maxRecDepth 100000 in
theorem pxIns_nil (f : Value) (w : World) : Calls Tryz.prog 238 #[.slice none 0 0, .int .i64 0, .int .i64 0, f] w fun e w' => e = .returned (.tuple #[]) ∧ w' = w := by
 go_enter Tryz.func238, Tryz.ntmps238
 go_wp2
 go_loopw [8] (fun iv wr => iv = .int .i64 1 ∧ wr = w) (fun iv _ => 0)
 case atStart => exact ⟨rfl, rfl⟩
 case round =>
  obtain ⟨rfl, rfl⟩ := hrel; go_wp2; refine bodyPost_end (results_none rfl _ _ _) rfl ?_; exact ⟨rfl, rfl⟩
set_option maxRecDepth 100000 in
set_option maxHeartbeats 4000000 in
theorem pxPdq_nil (f : Value) (k : Int) (w : World) : Calls Tryz.prog 195 #[.slice none 0 0, .int .i64 0, .int .i64 0, .int .i64 k, f] w fun e w' => e = .returned (.tuple #[]) ∧ w' = w := by
 have H := hide (pxIns_nil f w)
 go_enter Tryz.func195, Tryz.ntmps195
 go_wp2
 go_loopw [1, 2] (fun a b wr => a = .int .i64 0 ∧ b = .int .i64 0 ∧ wr = w) (fun _ _ _ => 0)
 case atStart => exact ⟨rfl, rfl, rfl⟩
 case round =>
  obtain ⟨rfl, rfl, rfl⟩ := hrel
  go_wp2_with fail
  refine H.out.mono ?_; rintro e w1 ⟨rfl, rfl⟩; go_wp2; refine bodyPost_ret (results_none rfl _ _ _) rfl ?_; exact ⟨rfl, rfl⟩
set_option maxRecDepth 100000 in
theorem pxSortF_nil (f : Value) (w : World) : Calls Tryz.prog 152 #[.slice none 0 0, f] w fun e w' => e = .returned (.tuple #[]) ∧ w' = w := by
 have HL := hide (Tryz.bits_Len 0 w (by omega) (by omega)); have H := hide (fun k w => pxPdq_nil f k w)
 go_enter Tryz.func152, Tryz.ntmps152
 go_wp2_with fail
 refine HL.out.mono ?_; rintro e w1 ⟨rfl, rfl⟩
 go_wp2_with fail
 refine (H.out _ _).mono ?_; rintro e w1 ⟨rfl, rfl⟩; go_wp2; refine bodyPost_end (results_none rfl _ _ _) rfl ?_; exact ⟨rfl, rfl⟩
end Go.Proofs.YtcinjckajnnhmaaGreat
