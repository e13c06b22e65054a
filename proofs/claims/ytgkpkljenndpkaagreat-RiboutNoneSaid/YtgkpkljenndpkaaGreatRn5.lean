import Derived.Test.YtgkpkljenndpkaaGreatRn4
import Derived.WalkKit
import Derived.ProofKit
import Derived.OpenShut
import Derived.Below
import Derived.Laws.OwnMore
import Derived.Laws.Rows
import Derived.Laws.MakeOwn
import Derived.Deep.AppendLies
import Derived.Deep.Draws
import Derived.Deep.OwnRows
import Derived.Deep.QuietTactic
import Derived.Maps.AppendAt
import Derived.RegionTactic
import Derived.OwnWalk
import Derived.ChangeSame
import Derived.Outline
import Derived.BigQuiet
import Derived.WalkMore
import Derived.ScopeJumps
import Derived.WalkLawsBesides
import Derived.WalkSpells
import Derived.Laws.BitsLemmas
import Derived.Laws.BitsAllLaws
import Derived.WideKeyArgs
import Derived.Deep.DeepHandedRow
import Derived.Deep.DeepWitnessRowRef
import Derived.Lib.LaidTab
import Derived.Lib.AppendIntMem
import Derived.LaidMore
import Derived.MakeChecks
import Derived.Lib.Itoa
import Derived.Lib.ItoaMem
import Derived.Deep.Quiet
import Derived.Deep.Slices
import Derived.BigRegion
import Derived.Orders
import Derived.OrdersIn
import Derived.RangeFuncCalls
import Derived.Shelf.RegionOpen
import Derived.StillTailTactics
import Derived.Lib.PathFns
import Derived.Lib.IndexBytes
import Derived.RangeFuncWrites
import Derived.RangeFuncNested
import Derived.RangeFuncBound
import Derived.RangeFuncLeaves
import Derived.RangeFuncBox
import Derived.Shelf.Abstract
import Derived.OwnWalkIn
import Derived.TacticsInMore
import Derived.LoopNIn
import Derived.LoopIn
import Derived.Lib.SmallJoins
import Derived.Lib.ParseIntBCases
import Derived.Lib.IndexMore
import Derived.Shelf.Vars
import Derived.Lib.AtoiAllCases
import Derived.SliceStrings
import Derived.Deep.RegionLaw
import Derived.Sort.LotA
import Derived.BigRegionIn
import Derived.Deep.RegionHeld3
import Derived.RangeFuncOwn
import Derived.Sort.WalkA6
import Derived.Sort.WalkB3
import Derived.Sort.WalkC4
import Derived.Sort.WalkA14
import Derived.Sort.Walk11
import Derived.Sort.Walk7
import Derived.Sort.Walk13
import Derived.Sort.Row
import Derived.Lib.Walk
import Derived.Lib.Strings
import Derived.BigGuard
import Derived.BigCall
import Derived.CellFam
import Derived.Deep.LoopGhost
import Derived.Sort.LotC
import Derived.Deep.RegionWith
import Derived.RowKit
import Derived.Sort.LotD3
import Derived.Sort.LotD4
import Derived.Sort.Grow
import Derived.Sort.AtCall
import Derived.Sort.LotD5
import Derived.Laws.Bits64
import Derived.Laws.Bits64b
import Derived.Sort.EncStr
import Derived.Sort.LotD1
import Derived.Sort.LotB
import Derived.Deep.Cut
import Derived.Sort.Walk13a
import Derived.Sort.AssemblyPlain
import Derived.Shelf.Spec.SlicesInsertGrow
import Derived.Deep.MidRow
import Derived.Lib.RowBridge
import Derived.Laws.CopyOwn
import Derived.Lib.AppendZerosOnto
import Derived.Deep.DeepCutAuto
import Derived.Lib.Bytealg
import Derived.Shelf.Strings.SplitShaped
import Derived.Shelf.Strings.Prefix
import Derived.Shelf.Small.Strs
import Derived.Lib.SlTrimSet
import Derived.Shelf.Strings.BuilderK
import Derived.Laws.BytesString
import Derived.Laws.IdiomStrings
set_option linter.unusedSimpArgs false
set_option linter.unusedVariables false
namespace Go.Proofs.YtgkpkljenndpkaaGreat
open Go.RowKit Go.WideShapes Go.ChangeShapes
attribute [local go_sem] Oper.semAt_some
/-- An element of a row of one's own. -/
theorem lo_at {α : Type} {sz : Nat} {t : TypeId} {R : World → List Value → α → Prop} {w : World} {B B' n c q : Nat} {A : Option Addr} {l : List α} {xs : List Value} (hsz : 0 < sz) (h : LOw sz t R w B B' A n c l xs) (hq : q < n) :
    ∃ g x vs, A = some ⟨g, 0, none⟩ ∧ g < w.heap.size ∧ B ≤ g ∧ l[q]? = some x ∧ vs.length = sz ∧ FrB B' (Value.slice A n c).ownBlock (fun w => R w vs x) w ∧ ∀ (j : Nat) (v : Value), vs[j]? = some v → w.cell? ⟨g, q * sz + j, none⟩ = some v := by
  have hln : l.length = n := (h.lst hsz).1
  obtain ⟨⟨h1, h2⟩, h3, h4⟩ := h
  rcases h2 with ⟨_, rfl⟩ | ⟨g, cap, cur, e1, e2, e3, e4, e5, e6, e7⟩
  · omega
  injection e1 with e1 _ _
  subst e1
  have hx : l[q]? = some l[q] := List.getElem?_eq_getElem (by omega)
  have hle : (q + 1) * sz ≤ n * sz := Nat.mul_le_mul_right _ (by omega)
  rw [Nat.add_mul, Nat.one_mul] at hle
  have hxl : xs.length = n * sz := by rw [h3, hln]
  refine ⟨g, _, (xs.drop (q * sz)).take sz, rfl, (Array.getElem?_eq_some_iff.1 e3).1, e2, hx, by rw [List.length_take, List.length_drop]; omega, h4 q _ hx, fun j v hj => ?_⟩
  have hjs : j < sz := by
    have := (List.getElem?_eq_some_iff.1 hj).1
    rw [List.length_take] at this
    omega
  rw [List.getElem?_take, if_pos hjs, List.getElem?_drop, ← e7, List.getElem?_take, if_pos (by omega)] at hj
  rw [cell_of_row w g (q * sz + j) cur t (0, 0) e3]
  simpa using hj
theorem frb_switch {B : Nat} {ob ob2 : Option Nat} {R : World → Prop} {w w' : World} (h : FrB B ob R w) (hb : Below w.heap.size w w') (hob : ∀ k, ob2 = some k → w.heap.size ≤ k) : FrB B ob2 R w' := fun w2 h2 =>
  h w2 ⟨Nat.le_trans hb.size h2.1, fun k o h0 h1 hc h3 => h2.2 k o h0 ((hb.block k (heap_lt h1)).trans h1) hc (fun e => by have := hob k e.symm; have := heap_lt h1; omega)⟩
def lackP (o : Tr AT) (z : Nat × Nat × AT) : Bool := (trGet z.1 z.2.1 o).isNone
set_option maxRecDepth 100000 in
set_option maxHeartbeats 8000000 in
theorem lacks_any (F F2 : Nat → Prop) (g g2 : Nat) (t o : Tr AT) (w : World) (h : TrT F w g t) (h2 : TrT F2 w g2 o) (hE : ∀ z ∈ trL t, ∀ Y, trGet z.1 z.2.1 o = some Y → Y = normA z.2.2) (hpl : ∀ z ∈ trL t, (normA z.2.2).path.length ≤ 100000) :
    Calls Tryz.prog 141 #[.pointer (some ⟨g, 0, none⟩), .pointer (some ⟨g2, 0, none⟩)] w fun e w' => ∃ A' n' c' xs, e = .returned (.slice A' n' c') ∧ LOw 11 172 tdR w' w.heap.size w.heap.size A' n' c' (((trL t).filter (lackP o)).map tdN) xs ∧ Below w.heap.size w w' ∧ (n' = 0 → A' = none ∧ c' = 0) := by
  obtain ⟨i0, hi, hz0, hz1, hz2⟩ := info_parts toldInfo
  have HAl := hide (riblist_any F g t w h)
  have hcn := h.cnt
  have HWf := hide h.tree.wf
  have HT2 := hide h2
  have HEq := hide hE
  have HPl := hide hpl
  obtain ⟨N, hN⟩ : ∃ N, trCnt t = N := ⟨_, rfl⟩
  rw [hN] at HAl hcn
  have HN := hide hN
  clear h h2 hE hpl hN
  go_enter Tryz.func141, Tryz.ntmps141
  go_wp2_with fail
  refine HAl.out.mono ?_
  rintro e w1 ⟨A, c, ys, rfl, hl1, hb1⟩
  have HL1 := hide hl1
  have HB1 := hide hb1
  have hNc : N ≤ c := (hl1.lst (by decide)).2.1
  have hcm := (hl1.lst (by decide)).2.2.1
  unfold maxLen at hcm
  have HTw := hide (HT2.out.below hb1)
  clear hb1 hl1
  go_wp2
  go_loopw [5, 13] (fun vo iv wr => ∃ (q n1 : Nat) (A1 : Option Addr) (c1 : Nat) (xs : List Value), q ≤ N ∧ n1 ≤ q ∧ (n1 = 0 → A1 = none ∧ c1 = 0) ∧ iv = .int .i64 (q : Nat) ∧ vo = .slice A1 n1 c1 ∧ LOw 11 172 tdR wr w1.heap.size w.heap.size A1 n1 c1 ((((trL t).take q).filter (lackP o)).map tdN) xs ∧ Below w1.heap.size w1 wr) (fun _ iv _ => N - (intOf iv).toNat)
  case atStart => exact ⟨0, 0, none, 0, [], Nat.zero_le _, Nat.le_refl _, fun _ => ⟨rfl, rfl⟩, rfl, rfl, by simpa using LOw.nil, Below.refl _ _⟩
  case round =>
    obtain ⟨q, n1, A1, c1, xs, hq, hnq, hzn, rfl, rfl, hlo, hbel⟩ := hrel
    have HZn := hide hzn
    clear hzn
    have HLo := hide hlo
    have HBe := hide hbel
    have hs1 := hbel.size
    have hs0 := HB1.out.size
    by_cases hlt : q < N
    · obtain ⟨g3, x, vs, rfl, hg, hgB, hx, hvl, hfr, hcs⟩ := lo_at (by decide) HL1.out hlt
      rw [List.getElem?_map] at hx
      obtain ⟨z, hz⟩ : ∃ z, (trL t)[q]? = some z := by
        cases hz : (trL t)[q]? with
        | none => rw [hz] at hx; simp at hx
        | some z => exact ⟨z, rfl⟩
      rw [hz] at hx
      simp only [Option.map_some, Option.some.injEq] at hx
      subst hx
      have hzm := List.mem_of_getElem? hz
      obtain ⟨a, m, X⟩ := z
      have hPg := trGet_pg t HWf.out ((trL_mem t HWf.out).1 hzm)
      have HEz := hide (HEq.out _ hzm)
      have HPz := hide (HPl.out _ hzm)
      have HTk : Hid ((trL t).take (q + 1) = (trL t).take q ++ [(a, m, X)]) := hide (by rw [List.take_add_one, hz]; rfl)
      simp only at HEz HPz
      obtain ⟨Y, hY⟩ : ∃ Y, normA X = Y := ⟨_, rfl⟩
      have hTd : tdN (a, m, X) = ⟨(a : Int), (m : Int), Y⟩ := by unfold tdN; rw [← hY]
      rw [hTd] at hfr
      rw [hY] at HEz HPz
      obtain ⟨B1, k1, e1, B2, m2, d2, rfl, hr1, hr2⟩ := hfr.here
      have HFr := hide hfr
      have HTd := hide hTd
      have HPg := hide hPg
      have f0 : wr.cell? ⟨g3, q * 11, none⟩ = some (.int .u32 (a : Int)) := (hbel.cell hg).trans (hcs 0 _ rfl)
      have f1 : wr.cell? ⟨g3, q * 11 + 1, none⟩ = some (.int .i64 (m : Int)) := (hbel.cell hg).trans (hcs 1 _ rfl)
      have f2 : wr.cell? ⟨g3, q * 11 + 2, none⟩ = some (.int .i64 Y.has) := (hbel.cell hg).trans (hcs 2 _ rfl)
      have f3 : wr.cell? ⟨g3, q * 11 + 3, none⟩ = some (.int .i64 Y.org) := (hbel.cell hg).trans (hcs 3 _ rfl)
      have f4 : wr.cell? ⟨g3, q * 11 + 4, none⟩ = some (.slice B1 k1 e1) := (hbel.cell hg).trans (hcs 4 _ rfl)
      have f5 : wr.cell? ⟨g3, q * 11 + 5, none⟩ = some (.int .u32 Y.hop) := (hbel.cell hg).trans (hcs 5 _ rfl)
      have f6 : wr.cell? ⟨g3, q * 11 + 6, none⟩ = some (.int .u32 Y.med) := (hbel.cell hg).trans (hcs 6 _ rfl)
      have f7 : wr.cell? ⟨g3, q * 11 + 7, none⟩ = some (.int .u32 Y.pref) := (hbel.cell hg).trans (hcs 7 _ rfl)
      have f8 : wr.cell? ⟨g3, q * 11 + 8, none⟩ = some (.int .u32 Y.aas) := (hbel.cell hg).trans (hcs 8 _ rfl)
      have f9 : wr.cell? ⟨g3, q * 11 + 9, none⟩ = some (.int .u32 Y.aid) := (hbel.cell hg).trans (hcs 9 _ rfl)
      have f10 : wr.cell? ⟨g3, q * 11 + 10, none⟩ = some (.slice B2 m2 d2) := (hbel.cell hg).trans (hcs 10 _ rfl)
      obtain ⟨w2, hw2⟩ : ∃ W, wr.alloc (.cells #[.int .u32 (a : Int), .int .i64 (m : Int), .int .i64 Y.has, .int .i64 Y.org, .slice B1 k1 e1, .int .u32 Y.hop, .int .u32 Y.med, .int .u32 Y.pref, .int .u32 Y.aas, .int .u32 Y.aid, .slice B2 m2 d2] 172) = W := ⟨_, rfl⟩
      have hb2 : Below wr.heap.size wr w2 := hw2 ▸ blkBelow1 wr _
      have HX2 : Hid (Blk w2 wr.heap.size 172 #[.int .u32 (a : Int), .int .i64 (m : Int), .int .i64 Y.has, .int .i64 Y.org, .slice B1 k1 e1, .int .u32 Y.hop, .int .u32 Y.med, .int .u32 Y.pref, .int .u32 Y.aas, .int .u32 Y.aid, .slice B2 m2 d2]) := hide (hw2 ▸ Blk.new wr _ _)
      have HT3 := (HTw.out.below hbel).below hb2
      have HGt := hide (getA_any (R := atR) g2 a m o w2 hPg HT3.root HT3.tree.mem HT3.tree.wf HT3.low)
      have HW2 := hide hw2
      have HB2 := hide hb2
      have HR1 := hide (hr1.below sgMono hbel)
      have HR2 := hide (hr2.below hbel)
      have q1 : (q : Int) < (N : Int) := by omega
      have q0 : (0 : Int) ≤ (q : Int) := by omega
      have hwq : IntKind.i64.wrap ((q : Int) + 1) = (q : Int) + 1 := by rw [IntKind.wrap_i64]; omega
      cases hgo : trGet a m o with
      | none =>
        have HPo : Hid (lackP o (a, m, X) = true) := hide (by unfold lackP; rw [hgo]; rfl)
        rw [hgo] at HGt
        clear hlo hbel hcs hz hzm hPg hY hTd hfr hr1 hr2 hw2 hb2 HT3 hgo hvl
        go_wp2_with fail
        rw [HW2.out]
        refine HGt.out.mono ?_
        rintro e w3 ⟨hb3, rfl⟩
        have HX3 := hide (HX2.out.below hb3 HX2.out.lt)
        have HB3 := hide (HB2.out.trans (hb3.mono HB2.out.size))
        clear hb3 HGt f0 f1 f2 f3 f4 f5 f6 f7 f8 f9 f10
        obtain ⟨w4, hw4⟩ : ∃ W, w3.alloc (.cells #[.int .i64 0, .int .i64 0, .slice none 0 0, .int .u32 0, .int .u32 0, .int .u32 0, .int .u32 0, .int .u32 0, .slice none 0 0] 54) = W := ⟨_, rfl⟩
        have hb4 : Below w3.heap.size w3 w4 := hw4 ▸ blkBelow1 w3 _
        have HX4 := hide (HX3.out.below hb4 HX3.out.lt)
        have HB4 := hide (HB3.out.trans (hb4.mono HB3.out.size))
        have HW4 := hide hw4
        clear hw4 hb4
        go_upto_region 6 with fail
        rw [HW4.out]
        have HB4s := HB4.out.size
        have x0 : w4.cell? ⟨wr.heap.size, 0, none⟩ = some (.int .u32 (a : Int)) := HX4.out.cell 0
        have x1 : w4.cell? ⟨wr.heap.size, 1, none⟩ = some (.int .i64 (m : Int)) := HX4.out.cell 1
        have x2 : w4.cell? ⟨wr.heap.size, 2, none⟩ = some (.int .i64 Y.has) := HX4.out.cell 2
        have x3 : w4.cell? ⟨wr.heap.size, 3, none⟩ = some (.int .i64 Y.org) := HX4.out.cell 3
        have x4 : w4.cell? ⟨wr.heap.size, 4, none⟩ = some (.slice B1 k1 e1) := HX4.out.cell 4
        have x5 : w4.cell? ⟨wr.heap.size, 5, none⟩ = some (.int .u32 Y.hop) := HX4.out.cell 5
        have x6 : w4.cell? ⟨wr.heap.size, 6, none⟩ = some (.int .u32 Y.med) := HX4.out.cell 6
        have x7 : w4.cell? ⟨wr.heap.size, 7, none⟩ = some (.int .u32 Y.pref) := HX4.out.cell 7
        have x8 : w4.cell? ⟨wr.heap.size, 8, none⟩ = some (.int .u32 Y.aas) := HX4.out.cell 8
        have x9 : w4.cell? ⟨wr.heap.size, 9, none⟩ = some (.int .u32 Y.aid) := HX4.out.cell 9
        have x10 : w4.cell? ⟨wr.heap.size, 10, none⟩ = some (.slice B2 m2 d2) := HX4.out.cell 10
        go_wp2_with (at_builtin; refine wpList_append_any _ rfl (.tmp 33) (.tmp 35) 76 rfl w1.heap.size 172 i0 _ 11 104 Tryz.underlying76 hi hz0 hz1 hz2 rfl (by decide) (.slice A1 n1 c1) n1 xs rfl ((HLo.out.below HB4.out).1.alloc _) (w4.heap.size + 1) (some ⟨w4.heap.size, 0, none⟩) 1 1 [.int .u32 (a : Int), .int .i64 (m : Int), .int .i64 Y.has, .int .i64 Y.org, .slice B1 k1 e1, .int .u32 Y.hop, .int .u32 Y.med, .int .u32 Y.pref, .int .u32 Y.aas, .int .u32 Y.aid, .slice B2 m2 d2] rfl (reads_blkN (Blk.new _ _ _) (by simp) rfl rfl) (by simp [Value.oneCell']) (by unfold maxLen; omega) (by omega) (by simp; omega) ?_; intro v' w9 h5 h6 h7; obtain ⟨A4, c4, rfl, hlo4⟩ := LOw.push ((HLo.out.below HB4.out).below (blkBelow1 w4 _)) (chunk1_fr rfl (frb_switch HFr.out (HBe.out.trans ((HB4.out.trans ((blkBelow1 w4 _).mono HB4s)).mono HBe.out.size)) (fun k hk => own_low_block HLo.out.1 k hk))) h5 h6 h7; have HL9 := hide hlo4; have HB9 := hide ((HBe.out.trans ((HB4.out.trans ((blkBelow1 w4 _).mono HB4s)).mono HBe.out.size)).grown h6 (by simp; omega) (fun k hk => own_low_block HLo.out.1 k hk)); clear hlo4 h5 h6 h7)
        go_roundw
        case rel =>
          have e : (((trL t).take (q + 1)).filter (lackP o)).map tdN = (((trL t).take q).filter (lackP o)).map tdN ++ [⟨(a : Int), (m : Int), Y⟩] := by
            rw [HTk.out, List.filter_append, List.map_append]
            simp [HPo.out, HTd.out]
          exact ⟨q + 1, n1 + 1, A4, c4, _, by omega, by omega, fun h => absurd h (by omega), by go_num, rfl, by rw [e]; exact HL9.out, HB9.out⟩
        case measure => simp [intOf]; omega
      | some Y2 =>
        have HPo : Hid (lackP o (a, m, X) = false) := hide (by unfold lackP; rw [hgo]; rfl)
        obtain rfl : Y2 = Y := HEz.out Y2 hgo
        rw [hgo] at HGt
        clear hlo hbel hcs hz hzm hPg hY hTd hfr hr1 hr2 hw2 hb2 HT3 hgo hvl
        go_wp2_with fail
        rw [HW2.out]
        refine HGt.out.mono ?_
        rintro e w3 ⟨hb3, v0, v1, v2, v3, v4, v5, v6, v7, v8, rfl, hfr⟩
        obtain ⟨XA, xn, xc, XB, xm, xd, hv, hxr, hxu⟩ := frs_here hfr
        simp only [Value.agg.injEq, Array.mk.injEq, List.cons.injEq, and_true] at hv
        obtain ⟨rfl, rfl, rfl, rfl, rfl, rfl, rfl, rfl, rfl⟩ := hv
        have HX3 := hide (HX2.out.below hb3 HX2.out.lt)
        have HB3 := hide (HB2.out.trans (hb3.mono HB2.out.size))
        obtain ⟨w4, hw4⟩ : ∃ W, w3.alloc (.cells #[.int .i64 Y2.has, .int .i64 Y2.org, .slice XA xn xc, .int .u32 Y2.hop, .int .u32 Y2.med, .int .u32 Y2.pref, .int .u32 Y2.aas, .int .u32 Y2.aid, .slice XB xm xd] 54) = W := ⟨_, rfl⟩
        have hb4 : Below w3.heap.size w3 w4 := hw4 ▸ blkBelow1 w3 _
        have HV4 : Hid (Blk w4 w3.heap.size 54 #[.int .i64 Y2.has, .int .i64 Y2.org, .slice XA xn xc, .int .u32 Y2.hop, .int .u32 Y2.med, .int .u32 Y2.pref, .int .u32 Y2.aas, .int .u32 Y2.aid, .slice XB xm xd]) := hide (hw4 ▸ Blk.new w3 _ _)
        have HX4 := hide (HX3.out.below hb4 HX3.out.lt)
        have HB4 := hide (HB3.out.trans (hb4.mono HB3.out.size))
        have HSm := hide (attrSame_eq Y2 (atV Y2.has Y2.org XA xn xc Y2.hop Y2.med Y2.pref Y2.aas Y2.aid XB xm xd) (atV Y2.has Y2.org B1 k1 e1 Y2.hop Y2.med Y2.pref Y2.aas Y2.aid B2 m2 d2) w4 ⟨XA, xn, xc, XB, xm, xd, rfl, hxr.below sgMono hb4, hxu.below hb4⟩ ⟨B1, k1, e1, B2, m2, d2, rfl, HR1.out.below sgMono HB4.out, HR2.out.below HB4.out⟩ HPz.out)
        have HW4 := hide hw4
        clear hb3 hfr hxr hxu hw4 hb4 HGt f0 f1 f2 f3 f4 f5 f6 f7 f8 f9 f10
        go_upto_region 6 with fail
        rw [HW4.out]
        have HB4s := HB4.out.size
        have x0 : w4.cell? ⟨wr.heap.size, 0, none⟩ = some (.int .u32 (a : Int)) := HX4.out.cell 0
        have x1 : w4.cell? ⟨wr.heap.size, 1, none⟩ = some (.int .i64 (m : Int)) := HX4.out.cell 1
        have x2 : w4.cell? ⟨wr.heap.size, 2, none⟩ = some (.int .i64 Y2.has) := HX4.out.cell 2
        have x3 : w4.cell? ⟨wr.heap.size, 3, none⟩ = some (.int .i64 Y2.org) := HX4.out.cell 3
        have x4 : w4.cell? ⟨wr.heap.size, 4, none⟩ = some (.slice B1 k1 e1) := HX4.out.cell 4
        have x5 : w4.cell? ⟨wr.heap.size, 5, none⟩ = some (.int .u32 Y2.hop) := HX4.out.cell 5
        have x6 : w4.cell? ⟨wr.heap.size, 6, none⟩ = some (.int .u32 Y2.med) := HX4.out.cell 6
        have x7 : w4.cell? ⟨wr.heap.size, 7, none⟩ = some (.int .u32 Y2.pref) := HX4.out.cell 7
        have x8 : w4.cell? ⟨wr.heap.size, 8, none⟩ = some (.int .u32 Y2.aas) := HX4.out.cell 8
        have x9 : w4.cell? ⟨wr.heap.size, 9, none⟩ = some (.int .u32 Y2.aid) := HX4.out.cell 9
        have x10 : w4.cell? ⟨wr.heap.size, 10, none⟩ = some (.slice B2 m2 d2) := HX4.out.cell 10
        have u0 : w4.cell? ⟨w3.heap.size, 0, none⟩ = some (.int .i64 Y2.has) := HV4.out.cell 0
        have u1 : w4.cell? ⟨w3.heap.size, 1, none⟩ = some (.int .i64 Y2.org) := HV4.out.cell 1
        have u2 : w4.cell? ⟨w3.heap.size, 2, none⟩ = some (.slice XA xn xc) := HV4.out.cell 2
        have u3 : w4.cell? ⟨w3.heap.size, 3, none⟩ = some (.int .u32 Y2.hop) := HV4.out.cell 3
        have u4 : w4.cell? ⟨w3.heap.size, 4, none⟩ = some (.int .u32 Y2.med) := HV4.out.cell 4
        have u5 : w4.cell? ⟨w3.heap.size, 5, none⟩ = some (.int .u32 Y2.pref) := HV4.out.cell 5
        have u6 : w4.cell? ⟨w3.heap.size, 6, none⟩ = some (.int .u32 Y2.aas) := HV4.out.cell 6
        have u7 : w4.cell? ⟨w3.heap.size, 7, none⟩ = some (.int .u32 Y2.aid) := HV4.out.cell 7
        have u8 : w4.cell? ⟨w3.heap.size, 8, none⟩ = some (.slice XB xm xd) := HV4.out.cell 8
        go_wp2_with fail
        refine HSm.out.mono ?_
        rintro e w6 ⟨rfl, hb6⟩
        have HB6 := hide (HBe.out.trans ((HB4.out.trans (hb6.mono HB4s)).mono HBe.out.size))
        have HL6 := hide ((HLo.out.below HB4.out).below hb6)
        clear hb6
        go_wp2
        go_roundw
        case rel =>
          have e : (((trL t).take (q + 1)).filter (lackP o)).map tdN = (((trL t).take q).filter (lackP o)).map tdN := by
            rw [HTk.out, List.filter_append, List.map_append]
            simp [HPo.out]
          exact ⟨q + 1, n1, A1, c1, xs, by omega, by omega, HZn.out, by go_num, rfl, by rw [e]; exact HL6.out, HB6.out⟩
        case measure => simp [intOf]; omega
    · obtain rfl : q = N := by omega
      have e1 : decide ((q : Int) < (q : Int)) = false := by simp
      have hall : (trL t).take q = trL t := List.take_of_length_le (by rw [trL_len, HN.out]; exact Nat.le_refl _)
      rw [hall] at hlo
      have HLf := hide hlo
      clear hlo hbel hlt HLo hall
      go_wp2
      go_ret
      exact ⟨A1, n1, c1, xs, rfl, HLf.out.less HB1.out.size (Nat.le_refl _), HB1.out.trans (HBe.out.mono HB1.out.size), HZn.out⟩
end Go.Proofs.YtgkpkljenndpkaaGreat
set_option linter.unusedSimpArgs false
set_option linter.unusedVariables false
namespace Go.Proofs.YtgkpkljenndpkaaGreat
open Go.RowKit Go.WideShapes Go.ChangeShapes
attribute [local go_sem] Oper.semAt_some
set_option maxRecDepth 100000 in
set_option maxHeartbeats 8000000 in
theorem here1_any (r ga gt b a n0 : Nat) (Y : AT) (F : Nat → Prop) (w : World) (hPg : PG a n0) (hOk : AtOk Y) (hpl : Y.path.length ≤ 100000) (hY : normA Y = Y) (hk : Blk w r 170 #[.pointer (some ⟨ga, 0, none⟩), .pointer (some ⟨gt, 0, none⟩), .int .i64 0, .int .i64 0]) (hT : TrT F w ga (.nd b a n0 (some Y) .nil .nil)) (hg : Blk w gt 251 #[.pointer none]) (h1 : r ≠ gt) :
    Calls Tryz.prog 40 #[.pointer (some ⟨r, 0, none⟩)] w fun e w' => ∃ g3 c, e = .returned (.slice (some ⟨g3, 0, none⟩) 1 c) ∧ w'.cell? ⟨g3, 0, none⟩ = some (.int .u32 (a : Int)) ∧ w'.cell? ⟨g3, 1, none⟩ = some (.int .i64 (n0 : Int)) ∧ Blk w' r 170 #[.pointer (some ⟨ga, 0, none⟩), .pointer (some ⟨gt, 0, none⟩), .int .i64 0, .int .i64 0] ∧ TrOne w w' gt a n0 Y ∧ ChgS (fun k => k = gt ∨ k = r) w w' := by
  have hTn : ∀ W, Below w.heap.size w W → TrT (fun _ => False) W gt (.nil : Tr AT) := fun W hb => ⟨hg.below hb hg.lt, TrA.nil_, by simp, by simp [trB], by simp, by simp [trL], by simp [trCnt]⟩
  have hflt : ((trL (.nd b a n0 (some Y) .nil .nil)).filter (lackP (.nil : Tr AT))).map tdN = [⟨(a : Int), (n0 : Int), Y⟩] := by
    have e : lackP (.nil : Tr AT) (a, n0, Y) = true := rfl
    simp [trL, e, tdN, hY]
  have HLk := hide (fun W (hb : Below w.heap.size w W) => lacks_any F (fun _ => False) ga gt (.nd b a n0 (some Y) .nil .nil) .nil W (hT.below hb) (hTn W hb) (fun z hz Z hZ => by simp [trGet] at hZ) (fun z hz => by simp [trL] at hz; subst hz; rw [hY]; exact hpl))
  rw [hflt] at HLk
  have HRr := hide hk
  have HGt := hide hg
  have HTa := hide hT
  have HPg := hide hPg
  have HOk := hide hOk
  have HY := hide hY
  have hrl := hk.lt
  have hgl := hg.lt
  have z0 : w.cell? ⟨r, 3, none⟩ = some (.int .i64 0) := hk.cell 3
  clear hk hg hT hPg hOk hpl hY hTn hflt
  go_enter Tryz.func40, Tryz.ntmps40
  go_upto_region 3 with fail
  have Hmn := hide (show AllMono [(fun v _ => v = .pointer (some ⟨r, 0, none⟩)), (fun v _ => v = .pointer (some ⟨r, 0, none⟩)), (fun v _ => v = .pointer (some ⟨r, 0, none⟩)), (fun v _ => v = .pointer (some ⟨ga, 0, none⟩)), (fun v _ => v = .pointer (some ⟨r, 0, none⟩)), (fun v _ => v = .pointer (some ⟨r, 0, none⟩)), (fun v _ => v = .pointer (some ⟨r, 1, none⟩)), (fun v _ => v = .pointer (some ⟨gt, 0, none⟩)), (fun v W => ∃ A n c xs, v = .slice A n c ∧ LOw 11 172 tdR W w.heap.size w.heap.size A n c [⟨(a : Int), (n0 : Int), Y⟩] xs)] from ⟨fun _ _ _ _ h => h, fun _ _ _ _ h => h, fun _ _ _ _ h => h, fun _ _ _ _ h => h, fun _ _ _ _ h => h, fun _ _ _ _ h => h, fun _ _ _ _ h => h, fun _ _ _ _ h => h, fun v w1 w2 hb ⟨A, n, c, xs, e, h⟩ => ⟨A, n, c, xs, e, h.below hb⟩, trivial⟩)
  refine wp_region_relT 9 _ (by kernel_rfl) (by kernel_rfl) (by kernel_rfl) (by kernel_rfl) (by kernel_rfl) (relMono _ Hmn.out) ⟨?_, ?_, ?_, ?_, ?_, ?_, ?_, ?_, ?_, trivial⟩ ?_
  · refine relStep_plain rfl ?_
    intro Ac w5 hp
    have hb := hp.bel
    have a0 : Ac.eval (.tmp 0) = .pointer (some ⟨r, 0, none⟩) := hp.out 0 (by rfl)
    have hc := evalC Ac; have hf := evalF Ac; have hgl := evalG Ac
    obtain ⟨ρ, hρ⟩ : ∃ ρ, Ac.eval = ρ := ⟨_, rfl⟩
    rw [hρ] at a0 hc hf hgl
    exact relPure hρ (.pointer (some ⟨r, 0, none⟩)) (by simp [go_sem, hc, hf, hgl, ↓IntWalk.iteOmega, a0, *]) rfl
  · refine relStep_plain rfl ?_
    intro Ac w5 hp
    have hb := hp.bel
    have a15 : Ac.eval (.tmp 15) = .pointer (some ⟨r, 0, none⟩) := hp.dep 0 (by kernel_rfl)
    have hc := evalC Ac; have hf := evalF Ac; have hgl := evalG Ac
    obtain ⟨ρ, hρ⟩ : ∃ ρ, Ac.eval = ρ := ⟨_, rfl⟩
    rw [hρ] at a15 hc hf hgl
    exact relPure hρ (.pointer (some ⟨r, 0, none⟩)) (by simp [go_sem, hc, hf, hgl, ↓IntWalk.iteOmega, a15, *]) rfl
  · refine relStep_plain rfl ?_
    intro Ac w5 hp
    have hb := hp.bel
    have a16 : Ac.eval (.tmp 16) = .pointer (some ⟨r, 0, none⟩) := hp.dep 1 (by kernel_rfl)
    have hc := evalC Ac; have hf := evalF Ac; have hgl := evalG Ac
    obtain ⟨ρ, hρ⟩ : ∃ ρ, Ac.eval = ρ := ⟨_, rfl⟩
    rw [hρ] at a16 hc hf hgl
    exact relPure hρ (.pointer (some ⟨r, 0, none⟩)) (by simp [go_sem, hc, hf, hgl, ↓IntWalk.iteOmega, a16, *]) rfl
  · refine relStep_plain rfl ?_
    intro Ac w5 hp
    have hb := hp.bel
    have a17 : Ac.eval (.tmp 17) = .pointer (some ⟨r, 0, none⟩) := hp.dep 2 (by kernel_rfl)
    have hr5 := HRr.out.below hb HRr.out.lt
    have z0 : w5.cell? ⟨r, 0, none⟩ = some (.pointer (some ⟨ga, 0, none⟩)) := hr5.cell 0
    have z1 : w5.cell? ⟨r, 1, none⟩ = some (.pointer (some ⟨gt, 0, none⟩)) := hr5.cell 1
    have hc := evalC Ac; have hf := evalF Ac; have hgl := evalG Ac
    obtain ⟨ρ, hρ⟩ : ∃ ρ, Ac.eval = ρ := ⟨_, rfl⟩
    rw [hρ] at a17 hc hf hgl
    exact relPure hρ (.pointer (some ⟨ga, 0, none⟩)) (by simp [go_sem, hc, hf, hgl, ↓IntWalk.iteOmega, a17, *]) rfl
  · refine relStep_plain rfl ?_
    intro Ac w5 hp
    have hb := hp.bel
    have a0 : Ac.eval (.tmp 0) = .pointer (some ⟨r, 0, none⟩) := hp.out 0 (by rfl)
    have hc := evalC Ac; have hf := evalF Ac; have hgl := evalG Ac
    obtain ⟨ρ, hρ⟩ : ∃ ρ, Ac.eval = ρ := ⟨_, rfl⟩
    rw [hρ] at a0 hc hf hgl
    exact relPure hρ (.pointer (some ⟨r, 0, none⟩)) (by simp [go_sem, hc, hf, hgl, ↓IntWalk.iteOmega, a0, *]) rfl
  · refine relStep_plain rfl ?_
    intro Ac w5 hp
    have hb := hp.bel
    have a19 : Ac.eval (.tmp 19) = .pointer (some ⟨r, 0, none⟩) := hp.dep 4 (by kernel_rfl)
    have hc := evalC Ac; have hf := evalF Ac; have hgl := evalG Ac
    obtain ⟨ρ, hρ⟩ : ∃ ρ, Ac.eval = ρ := ⟨_, rfl⟩
    rw [hρ] at a19 hc hf hgl
    exact relPure hρ (.pointer (some ⟨r, 0, none⟩)) (by simp [go_sem, hc, hf, hgl, ↓IntWalk.iteOmega, a19, *]) rfl
  · refine relStep_plain rfl ?_
    intro Ac w5 hp
    have hb := hp.bel
    have a20 : Ac.eval (.tmp 20) = .pointer (some ⟨r, 0, none⟩) := hp.dep 5 (by kernel_rfl)
    have hc := evalC Ac; have hf := evalF Ac; have hgl := evalG Ac
    obtain ⟨ρ, hρ⟩ : ∃ ρ, Ac.eval = ρ := ⟨_, rfl⟩
    rw [hρ] at a20 hc hf hgl
    exact relPure hρ (.pointer (some ⟨r, 1, none⟩)) (by simp [go_sem, hc, hf, hgl, ↓IntWalk.iteOmega, a20, *]) rfl
  · refine relStep_plain rfl ?_
    intro Ac w5 hp
    have hb := hp.bel
    have a21 : Ac.eval (.tmp 21) = .pointer (some ⟨r, 1, none⟩) := hp.dep 6 (by kernel_rfl)
    have hr5 := HRr.out.below hb HRr.out.lt
    have z0 : w5.cell? ⟨r, 0, none⟩ = some (.pointer (some ⟨ga, 0, none⟩)) := hr5.cell 0
    have z1 : w5.cell? ⟨r, 1, none⟩ = some (.pointer (some ⟨gt, 0, none⟩)) := hr5.cell 1
    have hc := evalC Ac; have hf := evalF Ac; have hgl := evalG Ac
    obtain ⟨ρ, hρ⟩ : ∃ ρ, Ac.eval = ρ := ⟨_, rfl⟩
    rw [hρ] at a21 hc hf hgl
    exact relPure hρ (.pointer (some ⟨gt, 0, none⟩)) (by simp [go_sem, hc, hf, hgl, ↓IntWalk.iteOmega, a21, *]) rfl
  · refine relStep_plain rfl ?_
    intro Ac w5 hp
    have hb := hp.bel
    have a18 : Ac.eval (.tmp 18) = .pointer (some ⟨ga, 0, none⟩) := hp.dep 3 (by kernel_rfl)
    have a22 : Ac.eval (.tmp 22) = .pointer (some ⟨gt, 0, none⟩) := hp.dep 7 (by kernel_rfl)
    have hc := evalC Ac; have hf := evalF Ac; have hgl := evalG Ac
    obtain ⟨ρ, hρ⟩ : ∃ ρ, Ac.eval = ρ := ⟨_, rfl⟩
    rw [hρ] at a18 a22 hc hf hgl
    refine relCall hρ 141 #[.pointer (some ⟨ga, 0, none⟩), .pointer (some ⟨gt, 0, none⟩)] (by simp [go_sem, hc, hf, hgl, ↓IntWalk.iteOmega, a18, a22, *]) ?_
    refine (HLk.out w5 hb).mono ?_
    rintro e w6 ⟨A6, n6, c6, xs6, rfl, hl6, hb6, _⟩
    exact ⟨_, rfl, ⟨A6, n6, c6, xs6, rfl, hl6.less hb.size hb.size⟩, hb6⟩
  intro u w3 hb7 hall
  obtain ⟨A3, n3, c3, xs3, e23, hl3⟩ := relAll_at hall (i := 8) (by decide +kernel)
  change u 8 = _ at e23
  clear hall
  simp only [List.drop_succ_cons, List.drop_zero, List.take_succ_cons, List.take_zero, putAll, Act.put, List.setIfInBounds_toArray, List.set_cons_zero, List.set_cons_succ, Nat.zero_add, Nat.reduceAdd, e23]
  have HL3 := hide hl3
  have HB3 := hide hb7
  have hn3 : n3 = 1 := (hl3.lst (by decide)).1.symm
  subst hn3
  have hcm := (hl3.lst (by decide)).2.2.1
  have h1c := (hl3.lst (by decide)).2.1
  unfold maxLen at hcm
  obtain ⟨g3, x, vs, rfl, hg3, hgB, hx, hvl, hfr, hcs⟩ := lo_at (by decide) hl3 (show 0 < 1 by omega)
  simp only [List.getElem?_cons_zero, Option.some.injEq] at hx
  subst hx
  obtain ⟨XA, xn, xc, XB, xm, xd, rfl, hxr, hxu⟩ := hfr.here
  simp only [Nat.zero_mul, Nat.zero_add] at hcs hxr hxu
  have HCs := hide hcs
  have HXr0 := hide hxr
  have HXu0 := hide hxu
  have HRr3 := hide (HRr.out.below hb7 hrl)
  have HG3 := hide (HGt.out.below hb7 hgl)
  have hs3 := hb7.size
  clear hl3 hb7 hcs hxr hxu hfr hvl z0
  go_wp2
  go_loopw [26] (fun iv wr => (iv = .int .i64 0 ∧ wr = w3) ∨ (iv = .int .i64 1 ∧ wr.cell? ⟨g3, 0, none⟩ = some (.int .u32 (a : Int)) ∧ wr.cell? ⟨g3, 1, none⟩ = some (.int .i64 (n0 : Int)) ∧ Blk wr r 170 #[.pointer (some ⟨ga, 0, none⟩), .pointer (some ⟨gt, 0, none⟩), .int .i64 0, .int .i64 0] ∧ TrOne w wr gt a n0 Y ∧ ChgS (fun k => k = gt ∨ k = r) w wr)) (fun iv _ => 1 - (intOf iv).toNat)
  case atStart => exact .inl ⟨rfl, rfl⟩
  case round =>
    rcases hrel with ⟨rfl, hww⟩ | ⟨rfl, hc0, hc1, hr, hT, hc⟩
    · have hww2 := hww.symm
      subst hww2
      clear hww
      have f0 : w3.cell? ⟨g3, 0, none⟩ = some (.int .u32 (a : Int)) := HCs.out 0 _ rfl
      have f1 : w3.cell? ⟨g3, 1, none⟩ = some (.int .i64 (n0 : Int)) := HCs.out 1 _ rfl
      have f2 : w3.cell? ⟨g3, 2, none⟩ = some (.int .i64 Y.has) := HCs.out 2 _ rfl
      have f3 : w3.cell? ⟨g3, 3, none⟩ = some (.int .i64 Y.org) := HCs.out 3 _ rfl
      have f4 : w3.cell? ⟨g3, 4, none⟩ = some (.slice XA xn xc) := HCs.out 4 _ rfl
      have f5 : w3.cell? ⟨g3, 5, none⟩ = some (.int .u32 Y.hop) := HCs.out 5 _ rfl
      have f6 : w3.cell? ⟨g3, 6, none⟩ = some (.int .u32 Y.med) := HCs.out 6 _ rfl
      have f7 : w3.cell? ⟨g3, 7, none⟩ = some (.int .u32 Y.pref) := HCs.out 7 _ rfl
      have f8 : w3.cell? ⟨g3, 8, none⟩ = some (.int .u32 Y.aas) := HCs.out 8 _ rfl
      have f9 : w3.cell? ⟨g3, 9, none⟩ = some (.int .u32 Y.aid) := HCs.out 9 _ rfl
      have f10 : w3.cell? ⟨g3, 10, none⟩ = some (.slice XB xm xd) := HCs.out 10 _ rfl
      obtain ⟨w4, hw4⟩ : ∃ W, w3.alloc (.cells #[.int .u32 (a : Int), .int .i64 (n0 : Int), .int .i64 Y.has, .int .i64 Y.org, .slice XA xn xc, .int .u32 Y.hop, .int .u32 Y.med, .int .u32 Y.pref, .int .u32 Y.aas, .int .u32 Y.aid, .slice XB xm xd] 172) = W := ⟨_, rfl⟩
      have hb4 : Below w3.heap.size w3 w4 := hw4 ▸ blkBelow1 w3 _
      have HBx : Hid (Blk w4 w3.heap.size 172 #[.int .u32 (a : Int), .int .i64 (n0 : Int), .int .i64 Y.has, .int .i64 Y.org, .slice XA xn xc, .int .u32 Y.hop, .int .u32 Y.med, .int .u32 Y.pref, .int .u32 Y.aas, .int .u32 Y.aid, .slice XB xm xd]) := hide (hw4 ▸ Blk.new w3 _ _)
      have HRr := hide (HRr3.out.below hb4 HRr3.out.lt)
      have HXr := hide (HXr0.out.below sgMono hb4)
      have HXu := hide (HXu0.out.below hb4)
      have HB4 := hide hb4
      have HW4 := hide hw4
      clear hb4 hw4
      go_upto_region 7 with fail
      rw [HW4.out]
      have Hmn := hide (show AllMono [(fun v _ => v = .pointer (some ⟨r, 0, none⟩)), (fun v _ => v = .pointer (some ⟨r, 0, none⟩)), (fun v _ => v = .pointer (some ⟨r, 1, none⟩)), (fun v _ => v = .pointer (some ⟨gt, 0, none⟩)), (fun v _ => v = .pointer (some ⟨w3.heap.size, 0, none⟩)), (fun v _ => v = .agg #[.int .u32 (a : Int), .int .i64 (n0 : Int)]), (fun v _ => v = .pointer (some ⟨w3.heap.size, 2, none⟩)), (fun v _ => v = atV Y.has Y.org XA xn xc Y.hop Y.med Y.pref Y.aas Y.aid XB xm xd), (fun v W2 => ∃ A n c B m d, v = atV Y.has Y.org A n c Y.hop Y.med Y.pref Y.aas Y.aid B m d ∧ (∃ xs, LOw 2 64 sgR W2 w4.heap.size w4.heap.size A n c Y.path xs) ∧ FrB w4.heap.size none (fun w => U32s w B m d Y.comms) W2)] from ⟨fun _ _ _ _ h => h, fun _ _ _ _ h => h, fun _ _ _ _ h => h, fun _ _ _ _ h => h, fun _ _ _ _ h => h, fun _ _ _ _ h => h, fun _ _ _ _ h => h, fun _ _ _ _ h => h, fun v w2 w3 hb ⟨A, n, c, B, m, d, e, ⟨xs, h1⟩, h2⟩ => ⟨A, n, c, B, m, d, e, ⟨xs, h1.below hb⟩, h2.below hb⟩, trivial⟩)
      refine wp_region_relT 9 _ (by kernel_rfl) (by kernel_rfl) (by kernel_rfl) (by kernel_rfl) (by kernel_rfl) (relMono _ Hmn.out) ⟨?_, ?_, ?_, ?_, ?_, ?_, ?_, ?_, ?_, trivial⟩ ?_
      · refine relStep_plain rfl ?_
        intro Ac w5 hp
        have hb := hp.bel
        have a0 : Ac.eval (.tmp 0) = .pointer (some ⟨r, 0, none⟩) := hp.out 0 (by rfl)
        have hc := evalC Ac; have hf := evalF Ac; have hgl := evalG Ac
        obtain ⟨ρ, hρ⟩ : ∃ ρ, Ac.eval = ρ := ⟨_, rfl⟩
        rw [hρ] at a0 hc hf hgl
        exact relPure hρ (.pointer (some ⟨r, 0, none⟩)) (by simp [go_sem, hc, hf, hgl, ↓IntWalk.iteOmega, a0, *]) rfl
      · refine relStep_plain rfl ?_
        intro Ac w5 hp
        have hb := hp.bel
        have a30 : Ac.eval (.tmp 30) = .pointer (some ⟨r, 0, none⟩) := hp.dep 0 (by kernel_rfl)
        have hc := evalC Ac; have hf := evalF Ac; have hgl := evalG Ac
        obtain ⟨ρ, hρ⟩ : ∃ ρ, Ac.eval = ρ := ⟨_, rfl⟩
        rw [hρ] at a30 hc hf hgl
        exact relPure hρ (.pointer (some ⟨r, 0, none⟩)) (by simp [go_sem, hc, hf, hgl, ↓IntWalk.iteOmega, a30, *]) rfl
      · refine relStep_plain rfl ?_
        intro Ac w5 hp
        have hb := hp.bel
        have a31 : Ac.eval (.tmp 31) = .pointer (some ⟨r, 0, none⟩) := hp.dep 1 (by kernel_rfl)
        have hc := evalC Ac; have hf := evalF Ac; have hgl := evalG Ac
        obtain ⟨ρ, hρ⟩ : ∃ ρ, Ac.eval = ρ := ⟨_, rfl⟩
        rw [hρ] at a31 hc hf hgl
        exact relPure hρ (.pointer (some ⟨r, 1, none⟩)) (by simp [go_sem, hc, hf, hgl, ↓IntWalk.iteOmega, a31, *]) rfl
      · refine relStep_plain rfl ?_
        intro Ac w5 hp
        have hb := hp.bel
        have a32 : Ac.eval (.tmp 32) = .pointer (some ⟨r, 1, none⟩) := hp.dep 2 (by kernel_rfl)
        have hr5 := HRr.out.below hb HRr.out.lt
        have z0 : w5.cell? ⟨r, 1, none⟩ = some (.pointer (some ⟨gt, 0, none⟩)) := hr5.cell 1
        have hc := evalC Ac; have hf := evalF Ac; have hgl := evalG Ac
        obtain ⟨ρ, hρ⟩ : ∃ ρ, Ac.eval = ρ := ⟨_, rfl⟩
        rw [hρ] at a32 hc hf hgl
        exact relPure hρ (.pointer (some ⟨gt, 0, none⟩)) (by simp [go_sem, hc, hf, hgl, ↓IntWalk.iteOmega, a32, *]) rfl
      · refine relStep_plain rfl ?_
        intro Ac w5 hp
        have hb := hp.bel
        have a5 : Ac.eval (.tmp 5) = .pointer (some ⟨w3.heap.size, 0, none⟩) := hp.out 5 (by rfl)
        have hc := evalC Ac; have hf := evalF Ac; have hgl := evalG Ac
        obtain ⟨ρ, hρ⟩ : ∃ ρ, Ac.eval = ρ := ⟨_, rfl⟩
        rw [hρ] at a5 hc hf hgl
        exact relPure hρ (.pointer (some ⟨w3.heap.size, 0, none⟩)) (by simp [go_sem, hc, hf, hgl, ↓IntWalk.iteOmega, a5, *]) rfl
      · refine relStep_plain rfl ?_
        intro Ac w5 hp
        have hb := hp.bel
        have a34 : Ac.eval (.tmp 34) = .pointer (some ⟨w3.heap.size, 0, none⟩) := hp.dep 4 (by kernel_rfl)
        have hx5 := HBx.out.below hb HBx.out.lt
        have z1 : w5.cell? ⟨w3.heap.size, 0, none⟩ = some (.int .u32 (a : Int)) := hx5.cell 0
        have z2 : w5.cell? ⟨w3.heap.size, 1, none⟩ = some (.int .i64 (n0 : Int)) := hx5.cell 1
        have hc := evalC Ac; have hf := evalF Ac; have hgl := evalG Ac
        obtain ⟨ρ, hρ⟩ : ∃ ρ, Ac.eval = ρ := ⟨_, rfl⟩
        rw [hρ] at a34 hc hf hgl
        exact relPure hρ (.agg #[.int .u32 (a : Int), .int .i64 (n0 : Int)]) (by simp [go_sem, hc, hf, hgl, ↓IntWalk.iteOmega, a34, *]) rfl
      · refine relStep_plain rfl ?_
        intro Ac w5 hp
        have hb := hp.bel
        have a5 : Ac.eval (.tmp 5) = .pointer (some ⟨w3.heap.size, 0, none⟩) := hp.out 5 (by rfl)
        have hc := evalC Ac; have hf := evalF Ac; have hgl := evalG Ac
        obtain ⟨ρ, hρ⟩ : ∃ ρ, Ac.eval = ρ := ⟨_, rfl⟩
        rw [hρ] at a5 hc hf hgl
        exact relPure hρ (.pointer (some ⟨w3.heap.size, 2, none⟩)) (by simp [go_sem, hc, hf, hgl, ↓IntWalk.iteOmega, a5, *]) rfl
      · refine relStep_plain rfl ?_
        intro Ac w5 hp
        have hb := hp.bel
        have a36 : Ac.eval (.tmp 36) = .pointer (some ⟨w3.heap.size, 2, none⟩) := hp.dep 6 (by kernel_rfl)
        have hx5 := HBx.out.below hb HBx.out.lt
        have z3 : w5.cell? ⟨w3.heap.size, 2, none⟩ = some (.int .i64 Y.has) := hx5.cell 2
        have z4 : w5.cell? ⟨w3.heap.size, 3, none⟩ = some (.int .i64 Y.org) := hx5.cell 3
        have z5 : w5.cell? ⟨w3.heap.size, 4, none⟩ = some (.slice XA xn xc) := hx5.cell 4
        have z6 : w5.cell? ⟨w3.heap.size, 5, none⟩ = some (.int .u32 Y.hop) := hx5.cell 5
        have z7 : w5.cell? ⟨w3.heap.size, 6, none⟩ = some (.int .u32 Y.med) := hx5.cell 6
        have z8 : w5.cell? ⟨w3.heap.size, 7, none⟩ = some (.int .u32 Y.pref) := hx5.cell 7
        have z9 : w5.cell? ⟨w3.heap.size, 8, none⟩ = some (.int .u32 Y.aas) := hx5.cell 8
        have z10 : w5.cell? ⟨w3.heap.size, 9, none⟩ = some (.int .u32 Y.aid) := hx5.cell 9
        have z11 : w5.cell? ⟨w3.heap.size, 10, none⟩ = some (.slice XB xm xd) := hx5.cell 10
        have hc := evalC Ac; have hf := evalF Ac; have hgl := evalG Ac
        obtain ⟨ρ, hρ⟩ : ∃ ρ, Ac.eval = ρ := ⟨_, rfl⟩
        rw [hρ] at a36 hc hf hgl
        exact relPure hρ (atV Y.has Y.org XA xn xc Y.hop Y.med Y.pref Y.aas Y.aid XB xm xd) (by simp [go_sem, hc, hf, hgl, ↓IntWalk.iteOmega, a36, *]) rfl
      · refine relStep_plain rfl ?_
        intro Ac w5 hp
        have hb := hp.bel
        have a37 : Ac.eval (.tmp 37) = atV Y.has Y.org XA xn xc Y.hop Y.med Y.pref Y.aas Y.aid XB xm xd := hp.dep 7 (by kernel_rfl)
        have hc := evalC Ac; have hf := evalF Ac; have hgl := evalG Ac
        obtain ⟨ρ, hρ⟩ : ∃ ρ, Ac.eval = ρ := ⟨_, rfl⟩
        rw [hρ] at a37 hc hf hgl
        refine relCall hρ 127 #[atV Y.has Y.org XA xn xc Y.hop Y.med Y.pref Y.aas Y.aid XB xm xd] (by simp [go_sem, hc, hf, hgl, ↓IntWalk.iteOmega, a37, *]) ?_
        refine (attrNormX_any Y (atV Y.has Y.org XA xn xc Y.hop Y.med Y.pref Y.aas Y.aid XB xm xd) w5 ⟨XA, xn, xc, XB, xm, xd, rfl, HXr.out.below sgMono hb, HXu.out.below hb⟩ HOk.out.1 HOk.out.2).mono ?_
        rintro e w6 ⟨v6, rfl, ⟨A6, n6, c6, xs6, B6, m6, d6, rfl, hl6, hu6⟩, hb6⟩
        rw [HY.out] at hl6 hu6 ⊢
        exact ⟨_, rfl, ⟨A6, n6, c6, B6, m6, d6, rfl, ⟨xs6, hl6.less hb.size hb.size⟩, hu6.less hb.size⟩, hb6⟩
      intro u w8 hb7 hall
      have e33 : u 3 = .pointer (some ⟨gt, 0, none⟩) := relAll_at hall (i := 3) (by decide +kernel)
      have e35 : u 5 = .agg #[.int .u32 (a : Int), .int .i64 (n0 : Int)] := relAll_at hall (i := 5) (by decide +kernel)
      obtain ⟨A9, n9, c9, B9, m9, d9, e38, ⟨xs9, hl9⟩, hu9⟩ := relAll_at hall (i := 8) (by decide +kernel)
      change u 8 = _ at e38
      clear hall
      simp only [List.drop_succ_cons, List.drop_zero, List.take_succ_cons, List.take_zero, putAll, Act.put, List.setIfInBounds_toArray, List.set_cons_zero, List.set_cons_succ, Nat.zero_add, Nat.reduceAdd, e33, e35, e38]
      have HG8 := hide ((HG3.out.below HB4.out HG3.out.lt).below hb7 (HG3.out.below HB4.out HG3.out.lt).lt)
      have hg4 := (HG3.out.below HB4.out HG3.out.lt).lt
      have HR8 := hide (HRr.out.below hb7 HRr.out.lt)
      have HPt := hide (puteA_any (R := atR) (F := fun k => w4.heap.size ≤ k ∧ k < w8.heap.size) gt a n0 Y Y.has Y.org A9 n9 c9 Y.hop Y.med Y.pref Y.aas Y.aid B9 m9 d9 w8 HPg.out HG8.out (fun k hk => hk.2) (ato_frs hl9 hu9) (by omega))
      have HB8 := hide (HB4.out.trans (hb7.mono HB4.out.size))
      have hs8 := hb7.size
      have hs4 := HB4.out.size
      clear hb7 hl9 hu9 f0 f1 f2 f3 f4 f5 f6 f7 f8 f9 f10
      go_wp2_with fail
      refine HPt.out.mono ?_
      rintro e w9 ⟨rfl, b2, hbb, hk9, hT9, hc9⟩
      have HR9 := hide (chg_blk hc9 HR8.out h1)
      have HT9 : Hid (TrOne w w9 gt a n0 Y) := hide ⟨b2, _, by omega, ⟨hk9, hT9, by omega, by simp only [trB, List.append_nil, List.mem_singleton]; omega, fun k hk => Nat.lt_of_lt_of_le hk.2 hc9.size, fun z hz => by simp [trL] at hz; subst hz; exact HOk.out, by simp [trCnt]⟩, fun k hk => by have := hk.1; omega⟩
      have hcG : ChgS (fun k => k = gt) w3 w9 := chg_trans (chg_below HB8.out) hc9 (fun k h => .inl h)
      have HC9 : Hid (ChgS (fun k => k = gt ∨ k = r) w w9) := hide (chg_trans (chg_below (S := fun k => k = gt ∨ k = r) HB3.out) hcG (fun k h => .inl (.inl h)))
      have hgne : ¬ (g3 = gt) := by omega
      have HE0 : Hid (w9.cell? ⟨g3, 0, none⟩ = some (.int .u32 (a : Int))) := hide ((World.cell?_of_block (w := w3) (hcG.block g3 hg3 hgne)).trans (HCs.out 0 _ rfl))
      have HE1 : Hid (w9.cell? ⟨g3, 1, none⟩ = some (.int .i64 (n0 : Int))) := hide ((World.cell?_of_block (w := w3) (hcG.block g3 hg3 hgne)).trans (HCs.out 1 _ rfl))
      clear hk9 hT9 hc9 hbb hcG
      go_wp2
      go_roundw
      case rel => exact .inr ⟨by go_num, HE0.out, HE1.out, HR9.out, HT9.out, HC9.out⟩
      case measure => simp [intOf]
    · have HTx := hide hT
      have HRx := hide hr
      have HCx := hide hc
      have HE0 := hide hc0
      have HE1 := hide hc1
      have y2 : wr.cell? ⟨r, 2, none⟩ = some (.int .i64 0) := hr.cell 2
      have y3 : wr.cell? ⟨r, 3, none⟩ = some (.int .i64 0) := hr.cell 3
      have yf := hr.frozen 3
      have hset : wr.setCell ⟨r, 3, none⟩ (.int .i64 0) = wr := set_same hr (i := 3) rfl
      clear hr hT hc hc0 hc1
      go_wp2
      go_ret
      exact ⟨g3, c3, rfl, HE0.out, HE1.out, HRx.out, HTx.out, HCx.out⟩
end Go.Proofs.YtgkpkljenndpkaaGreat
set_option linter.unusedSimpArgs false
set_option linter.unusedVariables false
namespace Go.Proofs.YtgkpkljenndpkaaGreat
open Go.RowKit Go.WideShapes Go.ChangeShapes
attribute [local go_sem] Oper.semAt_some
set_option maxRecDepth 100000 in
theorem pxClone_nil (w : World) : Calls Tryz.prog 151 #[.slice none 0 0] w fun e w' => e = .returned (.slice none 0 0) ∧ w' = w := by
  have hnil := fun w => Lib.run_eql_slice_nil (P := Tryz.prog) w
  go_enter Tryz.func151, Tryz.ntmps151
  go_wp2
  go_ret
  exact ⟨rfl, rfl⟩
set_option maxRecDepth 100000 in
theorem pxCompact_nil (w : World) : Calls Tryz.prog 244 #[.slice none 0 0] w fun e w' => e = .returned (.slice none 0 0) ∧ w' = w := by
  have hnil := fun w => Lib.run_eql_slice_nil (P := Tryz.prog) w
  go_enter Tryz.func244, Tryz.ntmps244
  go_wp2
  go_ret
  exact ⟨rfl, rfl⟩
set_option maxRecDepth 100000 in
theorem pxIndex_nil (f : Value) (w : World) : Calls Tryz.prog 324 #[.slice none 0 0, f] w fun e w' => e = .returned (.int .i64 (-1)) ∧ w' = w := by
  go_enter Tryz.func324, Tryz.ntmps324
  go_wp2
  go_loopw [8] (fun iv wr => iv = .int .i64 0 ∧ wr = w) (fun iv _ => 0)
  case atStart => exact ⟨rfl, rfl⟩
  case round =>
    obtain ⟨rfl, rfl⟩ := hrel
    go_wp2
    go_ret
    exact ⟨rfl, rfl⟩
set_option maxRecDepth 100000 in
theorem pxDelete_nil (f : Value) (w : World) : Calls Tryz.prog 240 #[.slice none 0 0, f] w fun e w' => e = .returned (.slice none 0 0) ∧ w' = w := by
  have H := hide (pxIndex_nil f w)
  go_enter Tryz.func240, Tryz.ntmps240
  go_wp2_with fail
  refine H.out.mono ?_
  rintro e w1 ⟨rfl, rfl⟩
  go_wp2
  go_ret
  exact ⟨rfl, rfl⟩
set_option maxRecDepth 100000 in
theorem pxIns_nil (f : Value) (w : World) : Calls Tryz.prog 379 #[.slice none 0 0, .int .i64 0, .int .i64 0, f] w fun e w' => e = .returned (.tuple #[]) ∧ w' = w := by
  go_enter Tryz.func379, Tryz.ntmps379
  go_wp2
  go_loopw [8] (fun iv wr => iv = .int .i64 1 ∧ wr = w) (fun iv _ => 0)
  case atStart => exact ⟨rfl, rfl⟩
  case round =>
    obtain ⟨rfl, rfl⟩ := hrel
    go_wp2
    refine bodyPost_end (results_none rfl _ _ _) rfl ?_
    exact ⟨rfl, rfl⟩
set_option maxRecDepth 100000 in
set_option maxHeartbeats 4000000 in
theorem pxPdq_nil (f : Value) (k : Int) (w : World) : Calls Tryz.prog 325 #[.slice none 0 0, .int .i64 0, .int .i64 0, .int .i64 k, f] w fun e w' => e = .returned (.tuple #[]) ∧ w' = w := by
  have H := hide (pxIns_nil f w)
  go_enter Tryz.func325, Tryz.ntmps325
  go_wp2
  go_loopw [1, 2] (fun a b wr => a = .int .i64 0 ∧ b = .int .i64 0 ∧ wr = w) (fun _ _ _ => 0)
  case atStart => exact ⟨rfl, rfl, rfl⟩
  case round =>
    obtain ⟨rfl, rfl, rfl⟩ := hrel
    go_wp2_with fail
    refine H.out.mono ?_
    rintro e w1 ⟨rfl, rfl⟩
    go_wp2
    refine bodyPost_ret (results_none rfl _ _ _) rfl ?_
    exact ⟨rfl, rfl⟩
set_option maxRecDepth 100000 in
theorem pxSortF_nil (f : Value) (w : World) : Calls Tryz.prog 242 #[.slice none 0 0, f] w fun e w' => e = .returned (.tuple #[]) ∧ w' = w := by
  have HL := hide (Tryz.bits_Len 0 w (by omega) (by omega))
  have H := hide (fun k w => pxPdq_nil f k w)
  go_enter Tryz.func242, Tryz.ntmps242
  go_wp2_with fail
  refine HL.out.mono ?_
  rintro e w1 ⟨rfl, rfl⟩
  go_wp2_with fail
  refine (H.out _ _).mono ?_
  rintro e w1 ⟨rfl, rfl⟩
  go_wp2
  refine bodyPost_end (results_none rfl _ _ _) rfl ?_
  exact ⟨rfl, rfl⟩
set_option maxRecDepth 100000 in
theorem nSort_nil (w : World) : Calls Tryz.prog 143 #[.slice none 0 0] w fun e w' => e = .returned (.slice none 0 0) ∧ w' = w := by
  have H1 := hide (pxClone_nil w)
  have H2 := hide (fun f => pxDelete_nil f w)
  have H3 := hide (fun f => pxSortF_nil f w)
  have H4 := hide (pxCompact_nil w)
  go_enter Tryz.func143, Tryz.ntmps143
  go_wp2_with fail
  refine H1.out.mono ?_
  rintro e w1 ⟨rfl, rfl⟩
  go_wp2_with fail
  refine (H2.out _).mono ?_
  rintro e w1 ⟨rfl, rfl⟩
  go_wp2_with fail
  refine (H3.out _).mono ?_
  rintro e w1 ⟨rfl, rfl⟩
  go_wp2_with fail
  refine H4.out.mono ?_
  rintro e w1 ⟨rfl, rfl⟩
  go_wp2
  go_ret
  exact ⟨rfl, rfl⟩
end Go.Proofs.YtgkpkljenndpkaaGreat
set_option linter.unusedSimpArgs false
set_option linter.unusedVariables false
namespace Go.Proofs.YtgkpkljenndpkaaGreat
open Go.RowKit Go.WideShapes Go.ChangeShapes
attribute [local go_sem] Oper.semAt_some
set_option maxRecDepth 100000 in
theorem told1_any (r gt b a n0 : Nat) (Y : AT) (F : Nat → Prop) (v0 v2 v3 : Value) (w : World) (hk : Blk w r 170 #[v0, .pointer (some ⟨gt, 0, none⟩), v2, v3]) (hT : TrT F w gt (.nd b a n0 (some Y) .nil .nil)) :
    Calls Tryz.prog 41 #[.pointer (some ⟨r, 0, none⟩)] w fun e w' => ∃ A c, e = .returned (.slice A 1 c) ∧ Below w.heap.size w w' := by
  have HLi := hide (riblist_any F gt _ w hT)
  have z1 : w.cell? ⟨r, 1, none⟩ = some (.pointer (some ⟨gt, 0, none⟩)) := hk.cell 1
  have hct : trCnt (.nd b a n0 (some Y) .nil .nil : Tr AT) = 1 := rfl
  rw [hct] at HLi
  clear hk hT hct
  go_enter Tryz.func41, Tryz.ntmps41
  go_wp2_with fail
  refine HLi.out.mono ?_
  rintro e w1 ⟨A, c, xs, rfl, hl, hb⟩
  have HB := hide hb
  clear hl hb z1
  go_wp2
  go_ret
  exact ⟨A, c, rfl, HB.out⟩
set_option maxRecDepth 100000 in
set_option maxHeartbeats 8000000 in
theorem pend1_any (r ga gt b b2 a n0 : Nat) (Y : AT) (F F2 : Nat → Prop) (v2 v3 : Value) (w : World) (hPg : PG a n0) (hpl : Y.path.length ≤ 100000) (hY : normA Y = Y) (hk : Blk w r 170 #[.pointer (some ⟨ga, 0, none⟩), .pointer (some ⟨gt, 0, none⟩), v2, v3]) (hT : TrT F w ga (.nd b a n0 (some Y) .nil .nil)) (hT2 : TrT F2 w gt (.nd b2 a n0 (some Y) .nil .nil)) :
    Calls Tryz.prog 42 #[.pointer (some ⟨r, 0, none⟩)] w fun e w' => e = .returned (.slice none 0 0) ∧ Below w.heap.size w w' := by
  have hg : ∀ b : Nat, trGet a n0 (.nd b a n0 (some Y) .nil .nil : Tr AT) = some Y := fun b => by simp [trGet, cvN_refl hPg]
  have hflt : ∀ b b2 : Nat, ((trL (.nd b a n0 (some Y) .nil .nil : Tr AT)).filter (lackP (.nd b2 a n0 (some Y) .nil .nil))).map tdN = [] := fun b b2 => by
    have e : lackP (.nd b2 a n0 (some Y) .nil .nil) (a, n0, Y) = false := by unfold lackP; simp only; rw [hg b2]; rfl
    simp [trL, e]
  have hE : ∀ b b2 : Nat, ∀ z ∈ trL (.nd b a n0 (some Y) .nil .nil : Tr AT), ∀ Z, trGet z.1 z.2.1 (.nd b2 a n0 (some Y) .nil .nil : Tr AT) = some Z → Z = normA z.2.2 := fun b b2 z hz Z hZ => by
    simp only [trL, List.append_nil, List.mem_singleton] at hz
    subst hz
    simp only at hZ ⊢
    rw [hg b2] at hZ
    rw [hY]
    injection hZ with hZ
    exact hZ.symm
  have hP : ∀ b : Nat, ∀ z ∈ trL (.nd b a n0 (some Y) .nil .nil : Tr AT), (normA z.2.2).path.length ≤ 100000 := fun b z hz => by
    simp only [trL, List.append_nil, List.mem_singleton] at hz
    subst hz
    simp only
    rw [hY]
    exact hpl
  have HLa := hide (fun W (hb : Below w.heap.size w W) => lacks_any F F2 ga gt (.nd b a n0 (some Y) .nil .nil) (.nd b2 a n0 (some Y) .nil .nil) W (hT.below hb) (hT2.below hb) (hE b b2) (hP b))
  have HLb := hide (fun W (hb : Below w.heap.size w W) => lacks_any F2 F gt ga (.nd b2 a n0 (some Y) .nil .nil) (.nd b a n0 (some Y) .nil .nil) W (hT2.below hb) (hT.below hb) (hE b2 b) (hP b2))
  rw [hflt b b2] at HLa
  rw [hflt b2 b] at HLb
  have HRr := hide hk
  have HSn := hide (fun w => nSort_nil w)
  clear hg hflt hE hP hk hT hT2 hY hpl hPg
  go_enter Tryz.func42, Tryz.ntmps42
  go_upto_region 4 with fail
  have Hmn := hide (show AllMono [(fun v _ => v = .pointer (some ⟨r, 0, none⟩)), (fun v _ => v = .pointer (some ⟨r, 0, none⟩)), (fun v _ => v = .pointer (some ⟨r, 0, none⟩)), (fun v _ => v = .pointer (some ⟨ga, 0, none⟩)), (fun v _ => v = .pointer (some ⟨r, 0, none⟩)), (fun v _ => v = .pointer (some ⟨r, 0, none⟩)), (fun v _ => v = .pointer (some ⟨r, 1, none⟩)), (fun v _ => v = .pointer (some ⟨gt, 0, none⟩)), (fun v _ => v = .slice none 0 0), (fun v _ => v = .pointer (some ⟨r, 0, none⟩)), (fun v _ => v = .pointer (some ⟨r, 0, none⟩)), (fun v _ => v = .pointer (some ⟨r, 1, none⟩)), (fun v _ => v = .pointer (some ⟨gt, 0, none⟩)), (fun v _ => v = .pointer (some ⟨r, 0, none⟩)), (fun v _ => v = .pointer (some ⟨r, 0, none⟩)), (fun v _ => v = .pointer (some ⟨r, 0, none⟩)), (fun v _ => v = .pointer (some ⟨ga, 0, none⟩)), (fun v _ => v = .slice none 0 0), (fun v _ => v = .slice none 0 0), (fun v _ => v = .int .i64 0), (fun v _ => v = .int .i64 0)] from ⟨fun _ _ _ _ h => h, fun _ _ _ _ h => h, fun _ _ _ _ h => h, fun _ _ _ _ h => h, fun _ _ _ _ h => h, fun _ _ _ _ h => h, fun _ _ _ _ h => h, fun _ _ _ _ h => h, fun _ _ _ _ h => h, fun _ _ _ _ h => h, fun _ _ _ _ h => h, fun _ _ _ _ h => h, fun _ _ _ _ h => h, fun _ _ _ _ h => h, fun _ _ _ _ h => h, fun _ _ _ _ h => h, fun _ _ _ _ h => h, fun _ _ _ _ h => h, fun _ _ _ _ h => h, fun _ _ _ _ h => h, fun _ _ _ _ h => h, trivial⟩)
  refine wp_region_rel _ (by kernel_rfl) (by kernel_rfl) (relMono _ Hmn.out) ⟨?_, ?_, ?_, ?_, ?_, ?_, ?_, ?_, ?_, ?_, ?_, ?_, ?_, ?_, ?_, ?_, ?_, ?_, ?_, ?_, ?_, trivial⟩ ?_
  · refine relStep_plain rfl ?_
    intro Ac w5 hp
    have hb := hp.bel
    have a0 : Ac.eval (.tmp 0) = .pointer (some ⟨r, 0, none⟩) := hp.out 0 (by rfl)
    have hc := evalC Ac; have hf := evalF Ac; have hgl := evalG Ac
    obtain ⟨ρ, hρ⟩ : ∃ ρ, Ac.eval = ρ := ⟨_, rfl⟩
    rw [hρ] at a0 hc hf hgl
    exact relPure hρ (.pointer (some ⟨r, 0, none⟩)) (by simp [go_sem, hc, hf, hgl, ↓IntWalk.iteOmega, a0, *]) rfl
  · refine relStep_plain rfl ?_
    intro Ac w5 hp
    have hb := hp.bel
    have a8 : Ac.eval (.tmp 8) = .pointer (some ⟨r, 0, none⟩) := hp.dep 0 (by kernel_rfl)
    have hc := evalC Ac; have hf := evalF Ac; have hgl := evalG Ac
    obtain ⟨ρ, hρ⟩ : ∃ ρ, Ac.eval = ρ := ⟨_, rfl⟩
    rw [hρ] at a8 hc hf hgl
    exact relPure hρ (.pointer (some ⟨r, 0, none⟩)) (by simp [go_sem, hc, hf, hgl, ↓IntWalk.iteOmega, a8, *]) rfl
  · refine relStep_plain rfl ?_
    intro Ac w5 hp
    have hb := hp.bel
    have a9 : Ac.eval (.tmp 9) = .pointer (some ⟨r, 0, none⟩) := hp.dep 1 (by kernel_rfl)
    have hc := evalC Ac; have hf := evalF Ac; have hgl := evalG Ac
    obtain ⟨ρ, hρ⟩ : ∃ ρ, Ac.eval = ρ := ⟨_, rfl⟩
    rw [hρ] at a9 hc hf hgl
    exact relPure hρ (.pointer (some ⟨r, 0, none⟩)) (by simp [go_sem, hc, hf, hgl, ↓IntWalk.iteOmega, a9, *]) rfl
  · refine relStep_plain rfl ?_
    intro Ac w5 hp
    have hb := hp.bel
    have a10 : Ac.eval (.tmp 10) = .pointer (some ⟨r, 0, none⟩) := hp.dep 2 (by kernel_rfl)
    have hr5 := HRr.out.below hb HRr.out.lt
    have z0 : w5.cell? ⟨r, 0, none⟩ = some (.pointer (some ⟨ga, 0, none⟩)) := hr5.cell 0
    have z1 : w5.cell? ⟨r, 1, none⟩ = some (.pointer (some ⟨gt, 0, none⟩)) := hr5.cell 1
    have hc := evalC Ac; have hf := evalF Ac; have hgl := evalG Ac
    obtain ⟨ρ, hρ⟩ : ∃ ρ, Ac.eval = ρ := ⟨_, rfl⟩
    rw [hρ] at a10 hc hf hgl
    exact relPure hρ (.pointer (some ⟨ga, 0, none⟩)) (by simp [go_sem, hc, hf, hgl, ↓IntWalk.iteOmega, a10, *]) rfl
  · refine relStep_plain rfl ?_
    intro Ac w5 hp
    have hb := hp.bel
    have a0 : Ac.eval (.tmp 0) = .pointer (some ⟨r, 0, none⟩) := hp.out 0 (by rfl)
    have hc := evalC Ac; have hf := evalF Ac; have hgl := evalG Ac
    obtain ⟨ρ, hρ⟩ : ∃ ρ, Ac.eval = ρ := ⟨_, rfl⟩
    rw [hρ] at a0 hc hf hgl
    exact relPure hρ (.pointer (some ⟨r, 0, none⟩)) (by simp [go_sem, hc, hf, hgl, ↓IntWalk.iteOmega, a0, *]) rfl
  · refine relStep_plain rfl ?_
    intro Ac w5 hp
    have hb := hp.bel
    have a12 : Ac.eval (.tmp 12) = .pointer (some ⟨r, 0, none⟩) := hp.dep 4 (by kernel_rfl)
    have hc := evalC Ac; have hf := evalF Ac; have hgl := evalG Ac
    obtain ⟨ρ, hρ⟩ : ∃ ρ, Ac.eval = ρ := ⟨_, rfl⟩
    rw [hρ] at a12 hc hf hgl
    exact relPure hρ (.pointer (some ⟨r, 0, none⟩)) (by simp [go_sem, hc, hf, hgl, ↓IntWalk.iteOmega, a12, *]) rfl
  · refine relStep_plain rfl ?_
    intro Ac w5 hp
    have hb := hp.bel
    have a13 : Ac.eval (.tmp 13) = .pointer (some ⟨r, 0, none⟩) := hp.dep 5 (by kernel_rfl)
    have hc := evalC Ac; have hf := evalF Ac; have hgl := evalG Ac
    obtain ⟨ρ, hρ⟩ : ∃ ρ, Ac.eval = ρ := ⟨_, rfl⟩
    rw [hρ] at a13 hc hf hgl
    exact relPure hρ (.pointer (some ⟨r, 1, none⟩)) (by simp [go_sem, hc, hf, hgl, ↓IntWalk.iteOmega, a13, *]) rfl
  · refine relStep_plain rfl ?_
    intro Ac w5 hp
    have hb := hp.bel
    have a14 : Ac.eval (.tmp 14) = .pointer (some ⟨r, 1, none⟩) := hp.dep 6 (by kernel_rfl)
    have hr5 := HRr.out.below hb HRr.out.lt
    have z0 : w5.cell? ⟨r, 0, none⟩ = some (.pointer (some ⟨ga, 0, none⟩)) := hr5.cell 0
    have z1 : w5.cell? ⟨r, 1, none⟩ = some (.pointer (some ⟨gt, 0, none⟩)) := hr5.cell 1
    have hc := evalC Ac; have hf := evalF Ac; have hgl := evalG Ac
    obtain ⟨ρ, hρ⟩ : ∃ ρ, Ac.eval = ρ := ⟨_, rfl⟩
    rw [hρ] at a14 hc hf hgl
    exact relPure hρ (.pointer (some ⟨gt, 0, none⟩)) (by simp [go_sem, hc, hf, hgl, ↓IntWalk.iteOmega, a14, *]) rfl
  · refine relStep_plain rfl ?_
    intro Ac w5 hp
    have hb := hp.bel
    have a11 : Ac.eval (.tmp 11) = .pointer (some ⟨ga, 0, none⟩) := hp.dep 3 (by kernel_rfl)
    have a15 : Ac.eval (.tmp 15) = .pointer (some ⟨gt, 0, none⟩) := hp.dep 7 (by kernel_rfl)
    have hc := evalC Ac; have hf := evalF Ac; have hgl := evalG Ac
    obtain ⟨ρ, hρ⟩ : ∃ ρ, Ac.eval = ρ := ⟨_, rfl⟩
    rw [hρ] at a11 a15 hc hf hgl
    refine relCall hρ 141 #[.pointer (some ⟨ga, 0, none⟩), .pointer (some ⟨gt, 0, none⟩)] (by simp [go_sem, hc, hf, hgl, ↓IntWalk.iteOmega, a11, a15, *]) ?_
    refine (HLa.out w5 hb).mono ?_
    rintro e w6 ⟨A6, n6, c6, xs6, rfl, hl6, hb6, hz6⟩
    have hn6 : n6 = 0 := (hl6.lst (by decide)).1.symm
    obtain ⟨rfl, rfl⟩ := hz6 hn6
    subst hn6
    exact ⟨_, rfl, rfl, hb6⟩
  · refine relStep_plain rfl ?_
    intro Ac w5 hp
    have hb := hp.bel
    have a0 : Ac.eval (.tmp 0) = .pointer (some ⟨r, 0, none⟩) := hp.out 0 (by rfl)
    have hc := evalC Ac; have hf := evalF Ac; have hgl := evalG Ac
    obtain ⟨ρ, hρ⟩ : ∃ ρ, Ac.eval = ρ := ⟨_, rfl⟩
    rw [hρ] at a0 hc hf hgl
    exact relPure hρ (.pointer (some ⟨r, 0, none⟩)) (by simp [go_sem, hc, hf, hgl, ↓IntWalk.iteOmega, a0, *]) rfl
  · refine relStep_plain rfl ?_
    intro Ac w5 hp
    have hb := hp.bel
    have a17 : Ac.eval (.tmp 17) = .pointer (some ⟨r, 0, none⟩) := hp.dep 9 (by kernel_rfl)
    have hc := evalC Ac; have hf := evalF Ac; have hgl := evalG Ac
    obtain ⟨ρ, hρ⟩ : ∃ ρ, Ac.eval = ρ := ⟨_, rfl⟩
    rw [hρ] at a17 hc hf hgl
    exact relPure hρ (.pointer (some ⟨r, 0, none⟩)) (by simp [go_sem, hc, hf, hgl, ↓IntWalk.iteOmega, a17, *]) rfl
  · refine relStep_plain rfl ?_
    intro Ac w5 hp
    have hb := hp.bel
    have a18 : Ac.eval (.tmp 18) = .pointer (some ⟨r, 0, none⟩) := hp.dep 10 (by kernel_rfl)
    have hc := evalC Ac; have hf := evalF Ac; have hgl := evalG Ac
    obtain ⟨ρ, hρ⟩ : ∃ ρ, Ac.eval = ρ := ⟨_, rfl⟩
    rw [hρ] at a18 hc hf hgl
    exact relPure hρ (.pointer (some ⟨r, 1, none⟩)) (by simp [go_sem, hc, hf, hgl, ↓IntWalk.iteOmega, a18, *]) rfl
  · refine relStep_plain rfl ?_
    intro Ac w5 hp
    have hb := hp.bel
    have a19 : Ac.eval (.tmp 19) = .pointer (some ⟨r, 1, none⟩) := hp.dep 11 (by kernel_rfl)
    have hr5 := HRr.out.below hb HRr.out.lt
    have z0 : w5.cell? ⟨r, 0, none⟩ = some (.pointer (some ⟨ga, 0, none⟩)) := hr5.cell 0
    have z1 : w5.cell? ⟨r, 1, none⟩ = some (.pointer (some ⟨gt, 0, none⟩)) := hr5.cell 1
    have hc := evalC Ac; have hf := evalF Ac; have hgl := evalG Ac
    obtain ⟨ρ, hρ⟩ : ∃ ρ, Ac.eval = ρ := ⟨_, rfl⟩
    rw [hρ] at a19 hc hf hgl
    exact relPure hρ (.pointer (some ⟨gt, 0, none⟩)) (by simp [go_sem, hc, hf, hgl, ↓IntWalk.iteOmega, a19, *]) rfl
  · refine relStep_plain rfl ?_
    intro Ac w5 hp
    have hb := hp.bel
    have a0 : Ac.eval (.tmp 0) = .pointer (some ⟨r, 0, none⟩) := hp.out 0 (by rfl)
    have hc := evalC Ac; have hf := evalF Ac; have hgl := evalG Ac
    obtain ⟨ρ, hρ⟩ : ∃ ρ, Ac.eval = ρ := ⟨_, rfl⟩
    rw [hρ] at a0 hc hf hgl
    exact relPure hρ (.pointer (some ⟨r, 0, none⟩)) (by simp [go_sem, hc, hf, hgl, ↓IntWalk.iteOmega, a0, *]) rfl
  · refine relStep_plain rfl ?_
    intro Ac w5 hp
    have hb := hp.bel
    have a21 : Ac.eval (.tmp 21) = .pointer (some ⟨r, 0, none⟩) := hp.dep 13 (by kernel_rfl)
    have hc := evalC Ac; have hf := evalF Ac; have hgl := evalG Ac
    obtain ⟨ρ, hρ⟩ : ∃ ρ, Ac.eval = ρ := ⟨_, rfl⟩
    rw [hρ] at a21 hc hf hgl
    exact relPure hρ (.pointer (some ⟨r, 0, none⟩)) (by simp [go_sem, hc, hf, hgl, ↓IntWalk.iteOmega, a21, *]) rfl
  · refine relStep_plain rfl ?_
    intro Ac w5 hp
    have hb := hp.bel
    have a22 : Ac.eval (.tmp 22) = .pointer (some ⟨r, 0, none⟩) := hp.dep 14 (by kernel_rfl)
    have hc := evalC Ac; have hf := evalF Ac; have hgl := evalG Ac
    obtain ⟨ρ, hρ⟩ : ∃ ρ, Ac.eval = ρ := ⟨_, rfl⟩
    rw [hρ] at a22 hc hf hgl
    exact relPure hρ (.pointer (some ⟨r, 0, none⟩)) (by simp [go_sem, hc, hf, hgl, ↓IntWalk.iteOmega, a22, *]) rfl
  · refine relStep_plain rfl ?_
    intro Ac w5 hp
    have hb := hp.bel
    have a23 : Ac.eval (.tmp 23) = .pointer (some ⟨r, 0, none⟩) := hp.dep 15 (by kernel_rfl)
    have hr5 := HRr.out.below hb HRr.out.lt
    have z0 : w5.cell? ⟨r, 0, none⟩ = some (.pointer (some ⟨ga, 0, none⟩)) := hr5.cell 0
    have z1 : w5.cell? ⟨r, 1, none⟩ = some (.pointer (some ⟨gt, 0, none⟩)) := hr5.cell 1
    have hc := evalC Ac; have hf := evalF Ac; have hgl := evalG Ac
    obtain ⟨ρ, hρ⟩ : ∃ ρ, Ac.eval = ρ := ⟨_, rfl⟩
    rw [hρ] at a23 hc hf hgl
    exact relPure hρ (.pointer (some ⟨ga, 0, none⟩)) (by simp [go_sem, hc, hf, hgl, ↓IntWalk.iteOmega, a23, *]) rfl
  · refine relStep_plain rfl ?_
    intro Ac w5 hp
    have hb := hp.bel
    have a20 : Ac.eval (.tmp 20) = .pointer (some ⟨gt, 0, none⟩) := hp.dep 12 (by kernel_rfl)
    have a24 : Ac.eval (.tmp 24) = .pointer (some ⟨ga, 0, none⟩) := hp.dep 16 (by kernel_rfl)
    have hc := evalC Ac; have hf := evalF Ac; have hgl := evalG Ac
    obtain ⟨ρ, hρ⟩ : ∃ ρ, Ac.eval = ρ := ⟨_, rfl⟩
    rw [hρ] at a20 a24 hc hf hgl
    refine relCall hρ 141 #[.pointer (some ⟨gt, 0, none⟩), .pointer (some ⟨ga, 0, none⟩)] (by simp [go_sem, hc, hf, hgl, ↓IntWalk.iteOmega, a20, a24, *]) ?_
    refine (HLb.out w5 hb).mono ?_
    rintro e w6 ⟨A6, n6, c6, xs6, rfl, hl6, hb6, hz6⟩
    have hn6 : n6 = 0 := (hl6.lst (by decide)).1.symm
    obtain ⟨rfl, rfl⟩ := hz6 hn6
    subst hn6
    exact ⟨_, rfl, rfl, hb6⟩
  · refine relStep_plain rfl ?_
    intro Ac w5 hp
    have hb := hp.bel
    have a16 : Ac.eval (.tmp 16) = .slice none 0 0 := hp.dep 8 (by kernel_rfl)
    have a25 : Ac.eval (.tmp 25) = .slice none 0 0 := hp.dep 17 (by kernel_rfl)
    have hc := evalC Ac; have hf := evalF Ac; have hgl := evalG Ac
    obtain ⟨ρ, hρ⟩ : ∃ ρ, Ac.eval = ρ := ⟨_, rfl⟩
    rw [hρ] at a16 a25 hc hf hgl
    exact relPure hρ (.slice none 0 0) (by simp [go_sem, hc, hf, hgl, ↓IntWalk.iteOmega, a16, a25, *]) rfl
  · refine relStep_plain rfl ?_
    intro Ac w5 hp
    have hb := hp.bel
    have a26 : Ac.eval (.tmp 26) = .slice none 0 0 := hp.dep 18 (by kernel_rfl)
    have hc := evalC Ac; have hf := evalF Ac; have hgl := evalG Ac
    obtain ⟨ρ, hρ⟩ : ∃ ρ, Ac.eval = ρ := ⟨_, rfl⟩
    rw [hρ] at a26 hc hf hgl
    exact relPure hρ (.int .i64 0) (by simp [go_sem, hc, hf, hgl, ↓IntWalk.iteOmega, a26, *]) rfl
  · refine relStep_plain rfl ?_
    intro Ac w5 hp
    have hb := hp.bel
    have hc := evalC Ac; have hf := evalF Ac; have hgl := evalG Ac
    obtain ⟨ρ, hρ⟩ : ∃ ρ, Ac.eval = ρ := ⟨_, rfl⟩
    rw [hρ] at hc hf hgl
    exact relPure hρ (.int .i64 0) (by simp [go_sem, hc, hf, hgl, ↓IntWalk.iteOmega, *]) rfl
  intro u w3 hb7 hall
  have e26 : u 18 = .slice none 0 0 := relAll_at hall (i := 18) (by decide +kernel)
  have e27 : u 19 = .int .i64 0 := relAll_at hall (i := 19) (by decide +kernel)
  have e28 : u 20 = .int .i64 0 := relAll_at hall (i := 20) (by decide +kernel)
  clear hall
  simp only [List.drop_succ_cons, List.drop_zero, List.take_succ_cons, List.take_zero, putAll, Act.put, List.setIfInBounds_toArray, List.set_cons_zero, List.set_cons_succ, Nat.zero_add, Nat.reduceAdd, e26, e27, e28]
  have HB3 := hide hb7
  clear hb7
  go_wp2
  go_loopw [3, 28] (fun vo iv wr => vo = .slice none 0 0 ∧ iv = .int .i64 0 ∧ wr = w3) (fun _ _ _ => 0)
  case atStart => exact ⟨rfl, rfl, rfl⟩
  case round =>
    obtain ⟨rfl, rfl, rfl⟩ := hrel
    go_wp2_with fail
    refine (HSn.out _).mono ?_
    rintro e w4 ⟨rfl, rfl⟩
    go_wp2
    go_ret
    exact ⟨rfl, HB3.out⟩
end Go.Proofs.YtgkpkljenndpkaaGreat
set_option linter.unusedSimpArgs false
set_option linter.unusedVariables false
namespace Go.Proofs.YtgkpkljenndpkaaGreat
open Go.RowKit Go.WideShapes Go.ChangeShapes
attribute [local go_sem] Oper.semAt_some
/-- No attributes. -/
def X0 : AT := ⟨0, 0, [], 0, 0, 0, 0, 0, []⟩
theorem norm_X0 : normA X0 = X0 := by
  have h : ∀ k, K8 k → attB 0 k = false := fun k hk => by rcases k8_cases hk with rfl | rfl | rfl | rfl | rfl | rfl | rfl | rfl <;> rfl
  have h0 : (nmH 0 : Int) = 0 := by decide
  unfold normA X0
  simp only [h 1 (by unfold K8; omega), h 2 (by unfold K8; omega), h 3 (by unfold K8; omega), h 4 (by unfold K8; omega), h 5 (by unfold K8; omega), h 7 (by unfold K8; omega), h 8 (by unfold K8; omega), h0]
  rfl
theorem pg8 : PG 167772160 8 := ⟨by decide, by decide, by decide⟩
set_option maxRecDepth 100000 in
set_option maxHeartbeats 8000000 in
theorem lives36_any (w : World) : Calls Tryz.prog 44 #[] w (GoodP true w) := by
  have HN := hide (ribnew_any w)
  go_enter Tryz.func44, Tryz.ntmps44
  go_wp2_with fail
  refine HN.out.mono ?_
  rintro e w1 ⟨ga, gt, r, rfl, h1, h2, h3, hkt, hkr, hb1⟩
  obtain ⟨w2, hw2⟩ : ∃ W, w1.alloc (.cells #[.int .u32 167772160, .int .i64 8] 51) = W := ⟨_, rfl⟩
  have hb2 : Below w1.heap.size w1 w2 := hw2 ▸ blkBelow1 w1 _
  have hp2 : Blk w2 w1.heap.size 51 #[.int .u32 167772160, .int .i64 8] := hw2 ▸ Blk.new w1 _ _
  obtain ⟨w3, hw3⟩ : ∃ W, w2.alloc (.cells #[.int .u32 167772160, .int .i64 8, .int .i64 0, .int .i64 0, .slice none 0 0, .int .u32 0, .int .u32 0, .int .u32 0, .int .u32 0, .int .u32 0, .slice none 0 0] 172) = W := ⟨_, rfl⟩
  have hb3 : Below w2.heap.size w2 w3 := hw3 ▸ blkBelow1 w2 _
  have hl3 : Blk w3 w2.heap.size 172 #[.int .u32 167772160, .int .i64 8, .int .i64 0, .int .i64 0, .slice none 0 0, .int .u32 0, .int .u32 0, .int .u32 0, .int .u32 0, .int .u32 0, .slice none 0 0] := hw3 ▸ Blk.new w2 _ _
  have hrl := hkr.lt
  have hs2 := hb2.size
  have HRr3 := hide ((hkr.below hb2 hrl).below hb3 (Nat.lt_of_lt_of_le hrl hs2))
  have HGt3 := hide ((hkt.below hb2 hkt.lt).below hb3 (Nat.lt_of_lt_of_le hkt.lt hs2))
  have HPb3 := hide (hp2.below hb3 hp2.lt)
  have HB3 := hide (hb1.trans ((hb2.trans (hb3.mono hs2)).mono hb1.size))
  have HAim := hide (aim1_any r gt 0 0 (some ⟨ga, 0, none⟩) (some ⟨w2.heap.size, 0, none⟩) 1 167772160 8 X0 X0 w3 pg8 ⟨by decide, by decide⟩ norm_X0 HRr3.out (fun W hc => by
    have hne : ¬ (w2.heap.size = r) := by have := hp2.lt; omega
    have hk := chg_blk hc hl3 hne
    refine ⟨rfl, Nat.le_refl _, by unfold maxLen; omega, fun _ => ⟨_, _, rfl, hk.lt, fun k x hx => ?_⟩⟩
    have hk0 : k = 0 := by
      have := (List.getElem?_eq_some_iff.1 hx).1
      simp at this
      exact this
    subst hk0
    simp only [List.getElem?_cons_zero, Option.some.injEq] at hx
    subst hx
    refine ⟨[.int .u32 167772160, .int .i64 8, .int .i64 0, .int .i64 0, .slice none 0 0, .int .u32 0, .int .u32 0, .int .u32 0, .int .u32 0, .int .u32 0, .slice none 0 0], rfl, ⟨none, 0, 0, none, 0, 0, rfl, LstAt.none_, rfl, Nat.le_refl _, Nat.zero_le _, by simp [X0], fun h => absurd h (by omega)⟩, fun j v hj => ?_⟩
    rw [Nat.zero_mul, Nat.add_zero, Nat.zero_add, hk.cell j]
    simpa using hj))
  have HW2 := hide hw2
  have HW3 := hide hw3
  have hs1 := hb1.size
  have hpl := hp2.lt
  have q0 : w2.cell? ⟨w1.heap.size, 0, none⟩ = some (.int .u32 167772160) := hp2.cell 0
  have q1 : w2.cell? ⟨w1.heap.size, 1, none⟩ = some (.int .i64 8) := hp2.cell 1
  clear hw2 hw3 hb2 hb3 hp2 hl3 hkt hkr hb1
  go_upto_region 3 with fail
  rw [HW2.out]
  go_wp2_with fail
  rw [HW3.out]
  refine HAim.out.mono ?_
  rintro e w4 ⟨rfl, hr4, ⟨b, F, hbb, hT1, hF⟩, hc4⟩
  have HT1a := hide hT1
  have hgt4 : Blk w4 gt 251 #[.pointer none] := chg_blk hc4 HGt3.out (by omega)
  have hpb4 := chg_blk hc4 HPb3.out (show ¬ (w1.heap.size = r) by omega)
  have hs3 := HPb3.out.lt
  have HHe := hide (here1_any r w3.heap.size gt b 167772160 8 X0 F w4 pg8 ⟨by decide, by decide⟩ (by simp [X0]) norm_X0 hr4 hT1 hgt4 (by omega))
  have HPb4 := hide hpb4
  have HC4 := hide hc4
  have HFl := hide hF
  have HGl := hide hgt4.lt
  clear hr4 hT1 hc4 hgt4 hpb4 hF q0 q1
  go_wp2_with fail
  refine HHe.out.mono ?_
  rintro e w6 ⟨g3, c3, rfl, he0, he1, hr5, ⟨b2, F2, hb2b, hT2, hF2⟩, hc5⟩
  have hgs := HGt3.out.lt
  have hrs := HRr3.out.lt
  have HE0 := hide he0
  have HE1 := hide he1
  have HG3 := hide (World.block_lt_of_cell? w6 ⟨g3, 0, none⟩ he0)
  have HRr := hide hr5
  have HT2 := hide hT2
  have HT1 : Hid (TrT F w6 w3.heap.size (.nd b 167772160 8 (some X0) .nil .nil)) := hide (HT1a.out.chg hc5 (by intro k hk; simp only [trB, List.append_nil, List.mem_singleton] at hk; omega) (by intro k hk; have := HFl.out k hk; omega) (by omega))
  have HPb := hide (chg_blk hc5 HPb4.out (by omega))
  have HB6 : Hid (Below w.heap.size w w6) := hide (HB3.out.trans ((chg_to_below HC4.out (B := w.heap.size) HB3.out.size (fun k hk => by omega)).trans (chg_to_below hc5 (B := w.heap.size) (Nat.le_trans HB3.out.size HC4.out.size) (fun k hk => by omega))))
  clear he0 he1 hr5 hT2 hF2 hc5 hb2b hgs hrs
  go_upto_region 5 with fail
  have Hmn := hide (show AllMono [(fun v _ => v = .slice (some ⟨g3, 0, none⟩) 1 c3), (fun v _ => v = .int .i64 1), (fun v _ => v = .bool true), (fun v _ => v = .bool true), (fun v _ => v = .slice (some ⟨g3, 0, none⟩) 1 c3), (fun v _ => v = .pointer (some ⟨g3, 0, none⟩)), (fun v _ => v = .pointer (some ⟨g3, 0, none⟩)), (fun v _ => v = .agg #[.int .u32 167772160, .int .i64 8]), (fun v _ => v = .agg #[.int .u32 167772160, .int .i64 8]), (fun v _ => v = .bool true), (fun v _ => v = .bool true), (fun v _ => v = .bool true), (fun v _ => v = .pointer (some ⟨r, 0, none⟩)), (fun v _ => ∃ A c, v = .slice A 1 c), (fun v _ => v = .int .i64 1), (fun v _ => v = .bool true), (fun v _ => v = .bool true), (fun v _ => v = .bool true), (fun v _ => v = .pointer (some ⟨r, 0, none⟩)), (fun v _ => v = .slice none 0 0), (fun v _ => v = .int .i64 0), (fun v _ => v = .bool true), (fun v _ => v = .bool true)] from ⟨fun _ _ _ _ h => h, fun _ _ _ _ h => h, fun _ _ _ _ h => h, fun _ _ _ _ h => h, fun _ _ _ _ h => h, fun _ _ _ _ h => h, fun _ _ _ _ h => h, fun _ _ _ _ h => h, fun _ _ _ _ h => h, fun _ _ _ _ h => h, fun _ _ _ _ h => h, fun _ _ _ _ h => h, fun _ _ _ _ h => h, fun _ _ _ _ h => h, fun _ _ _ _ h => h, fun _ _ _ _ h => h, fun _ _ _ _ h => h, fun _ _ _ _ h => h, fun _ _ _ _ h => h, fun _ _ _ _ h => h, fun _ _ _ _ h => h, fun _ _ _ _ h => h, fun _ _ _ _ h => h, trivial⟩)
  refine wp_region_relT 23 _ (by kernel_rfl) (by kernel_rfl) (by kernel_rfl) (by kernel_rfl) (by kernel_rfl) (relMono _ Hmn.out) ⟨?_, ?_, ?_, ?_, ?_, ?_, ?_, ?_, ?_, ?_, ?_, ?_, ?_, ?_, ?_, ?_, ?_, ?_, ?_, ?_, ?_, ?_, ?_, trivial⟩ ?_
  · refine relStep_plain rfl ?_
    intro Ac w5 hp
    have hb := hp.bel
    have a3 : Ac.eval (.tmp 3) = .slice (some ⟨g3, 0, none⟩) 1 c3 := hp.out 3 (by rfl)
    have hc := evalC Ac; have hf := evalF Ac; have hgl := evalG Ac
    obtain ⟨ρ, hρ⟩ : ∃ ρ, Ac.eval = ρ := ⟨_, rfl⟩
    rw [hρ] at a3 hc hf hgl
    exact relPure hρ (.slice (some ⟨g3, 0, none⟩) 1 c3) (by simp [go_sem, hc, hf, hgl, ↓IntWalk.iteOmega, a3, *]) rfl
  · refine relStep_plain rfl ?_
    intro Ac w5 hp
    have hb := hp.bel
    have a13 : Ac.eval (.tmp 13) = .slice (some ⟨g3, 0, none⟩) 1 c3 := hp.dep 0 (by kernel_rfl)
    have hc := evalC Ac; have hf := evalF Ac; have hgl := evalG Ac
    obtain ⟨ρ, hρ⟩ : ∃ ρ, Ac.eval = ρ := ⟨_, rfl⟩
    rw [hρ] at a13 hc hf hgl
    exact relPure hρ (.int .i64 1) (by simp [go_sem, hc, hf, hgl, ↓IntWalk.iteOmega, a13, *]) rfl
  · refine relStep_plain rfl ?_
    intro Ac w5 hp
    have hb := hp.bel
    have a14 : Ac.eval (.tmp 14) = .int .i64 1 := hp.dep 1 (by kernel_rfl)
    have hc := evalC Ac; have hf := evalF Ac; have hgl := evalG Ac
    obtain ⟨ρ, hρ⟩ : ∃ ρ, Ac.eval = ρ := ⟨_, rfl⟩
    rw [hρ] at a14 hc hf hgl
    exact relPure hρ (.bool true) (by simp [go_sem, hc, hf, hgl, ↓IntWalk.iteOmega, a14, *]) rfl
  · refine relStep_plain rfl ?_
    intro Ac w5 hp
    have hb := hp.bel
    have a15 : Ac.eval (.tmp 15) = .bool true := hp.dep 2 (by kernel_rfl)
    have hc := evalC Ac; have hf := evalF Ac; have hgl := evalG Ac
    obtain ⟨ρ, hρ⟩ : ∃ ρ, Ac.eval = ρ := ⟨_, rfl⟩
    rw [hρ] at a15 hc hf hgl
    exact relPure hρ (.bool true) (by simp [go_sem, hc, hf, hgl, ↓IntWalk.iteOmega, a15, *]) rfl
  · refine relStep_guard (g := 3) (b := true) (x := true) rfl (by kernel_rfl) rfl (by kernel_rfl) rfl (fun _ _ h => h) ?_
    intro Ac w5 hp
    have hb := hp.bel
    have a3 : Ac.eval (.tmp 3) = .slice (some ⟨g3, 0, none⟩) 1 c3 := hp.out 3 (by rfl)
    have hc := evalC Ac; have hf := evalF Ac; have hgl := evalG Ac
    obtain ⟨ρ, hρ⟩ : ∃ ρ, Ac.eval = ρ := ⟨_, rfl⟩
    rw [hρ] at a3 hc hf hgl
    exact relPure hρ (.slice (some ⟨g3, 0, none⟩) 1 c3) (by simp [go_sem, hc, hf, hgl, ↓IntWalk.iteOmega, a3, *]) rfl
  · refine relStep_guard (g := 3) (b := true) (x := true) rfl (by kernel_rfl) rfl (by kernel_rfl) rfl (fun _ _ h => h) ?_
    intro Ac w5 hp
    have hb := hp.bel
    have a17 : Ac.eval (.tmp 17) = .slice (some ⟨g3, 0, none⟩) 1 c3 := hp.dep 4 (by kernel_rfl)
    have hc := evalC Ac; have hf := evalF Ac; have hgl := evalG Ac
    obtain ⟨ρ, hρ⟩ : ∃ ρ, Ac.eval = ρ := ⟨_, rfl⟩
    rw [hρ] at a17 hc hf hgl
    exact relPure hρ (.pointer (some ⟨g3, 0, none⟩)) (by simp [go_sem, hc, hf, hgl, ↓IntWalk.iteOmega, a17, *]) rfl
  · refine relStep_guard (g := 3) (b := true) (x := true) rfl (by kernel_rfl) rfl (by kernel_rfl) rfl (fun _ _ h => h) ?_
    intro Ac w5 hp
    have hb := hp.bel
    have a18 : Ac.eval (.tmp 18) = .pointer (some ⟨g3, 0, none⟩) := hp.dep 5 (by kernel_rfl)
    have hc := evalC Ac; have hf := evalF Ac; have hgl := evalG Ac
    obtain ⟨ρ, hρ⟩ : ∃ ρ, Ac.eval = ρ := ⟨_, rfl⟩
    rw [hρ] at a18 hc hf hgl
    exact relPure hρ (.pointer (some ⟨g3, 0, none⟩)) (by simp [go_sem, hc, hf, hgl, ↓IntWalk.iteOmega, a18, *]) rfl
  · refine relStep_guard (g := 3) (b := true) (x := true) rfl (by kernel_rfl) rfl (by kernel_rfl) rfl (fun _ _ h => h) ?_
    intro Ac w5 hp
    have hb := hp.bel
    have a19 : Ac.eval (.tmp 19) = .pointer (some ⟨g3, 0, none⟩) := hp.dep 6 (by kernel_rfl)
    have e0 : w5.cell? ⟨g3, 0, none⟩ = some (.int .u32 167772160) := (hb.cell HG3.out).trans HE0.out
    have e1 : w5.cell? ⟨g3, 1, none⟩ = some (.int .i64 8) := (hb.cell HG3.out).trans HE1.out
    have hc := evalC Ac; have hf := evalF Ac; have hgl := evalG Ac
    obtain ⟨ρ, hρ⟩ : ∃ ρ, Ac.eval = ρ := ⟨_, rfl⟩
    rw [hρ] at a19 hc hf hgl
    exact relPure hρ (.agg #[.int .u32 167772160, .int .i64 8]) (by simp [go_sem, hc, hf, hgl, ↓IntWalk.iteOmega, a19, *]) rfl
  · refine relStep_guard (g := 3) (b := true) (x := true) rfl (by kernel_rfl) rfl (by kernel_rfl) rfl (fun _ _ h => h) ?_
    intro Ac w5 hp
    have hb := hp.bel
    have a2 : Ac.eval (.tmp 2) = .pointer (some ⟨w1.heap.size, 0, none⟩) := hp.out 2 (by rfl)
    have hp5 := HPb.out.below hb HPb.out.lt
    have p0 : w5.cell? ⟨w1.heap.size, 0, none⟩ = some (.int .u32 167772160) := hp5.cell 0
    have p1 : w5.cell? ⟨w1.heap.size, 1, none⟩ = some (.int .i64 8) := hp5.cell 1
    have hc := evalC Ac; have hf := evalF Ac; have hgl := evalG Ac
    obtain ⟨ρ, hρ⟩ : ∃ ρ, Ac.eval = ρ := ⟨_, rfl⟩
    rw [hρ] at a2 hc hf hgl
    exact relPure hρ (.agg #[.int .u32 167772160, .int .i64 8]) (by simp [go_sem, hc, hf, hgl, ↓IntWalk.iteOmega, a2, *]) rfl
  · refine relStep_guard (g := 3) (b := true) (x := true) rfl (by kernel_rfl) rfl (by kernel_rfl) rfl (fun _ _ h => h) ?_
    intro Ac w5 hp
    have hb := hp.bel
    have a20 : Ac.eval (.tmp 20) = .agg #[.int .u32 167772160, .int .i64 8] := hp.dep 7 (by kernel_rfl)
    have a21 : Ac.eval (.tmp 21) = .agg #[.int .u32 167772160, .int .i64 8] := hp.dep 8 (by kernel_rfl)
    have hc := evalC Ac; have hf := evalF Ac; have hgl := evalG Ac
    obtain ⟨ρ, hρ⟩ : ∃ ρ, Ac.eval = ρ := ⟨_, rfl⟩
    rw [hρ] at a20 a21 hc hf hgl
    exact relPure hρ (.bool true) (by simp [go_sem, hc, hf, hgl, ↓IntWalk.iteOmega, a20, a21, *]) rfl
  · refine relStep_plain rfl ?_
    intro Ac w5 hp
    have hb := hp.bel
    have a16 : Ac.eval (.tmp 16) = .bool true := hp.dep 3 (by kernel_rfl)
    have a22 : Ac.eval (.tmp 22) = .bool true := hp.dep 9 (by kernel_rfl)
    have hc := evalC Ac; have hf := evalF Ac; have hgl := evalG Ac
    obtain ⟨ρ, hρ⟩ : ∃ ρ, Ac.eval = ρ := ⟨_, rfl⟩
    rw [hρ] at a16 a22 hc hf hgl
    exact relPure hρ (.bool true) (by simp [go_sem, hc, hf, hgl, ↓IntWalk.iteOmega, a16, a22, *]) rfl
  · refine relStep_plain rfl ?_
    intro Ac w5 hp
    have hb := hp.bel
    have a23 : Ac.eval (.tmp 23) = .bool true := hp.dep 10 (by kernel_rfl)
    have hc := evalC Ac; have hf := evalF Ac; have hgl := evalG Ac
    obtain ⟨ρ, hρ⟩ : ∃ ρ, Ac.eval = ρ := ⟨_, rfl⟩
    rw [hρ] at a23 hc hf hgl
    exact relPure hρ (.bool true) (by simp [go_sem, hc, hf, hgl, ↓IntWalk.iteOmega, a23, *]) rfl
  · refine relStep_guard (g := 11) (b := true) (x := true) rfl (by kernel_rfl) rfl (by kernel_rfl) rfl (fun _ _ h => h) ?_
    intro Ac w5 hp
    have hb := hp.bel
    have a1 : Ac.eval (.tmp 1) = .pointer (some ⟨r, 0, none⟩) := hp.out 1 (by rfl)
    have hc := evalC Ac; have hf := evalF Ac; have hgl := evalG Ac
    obtain ⟨ρ, hρ⟩ : ∃ ρ, Ac.eval = ρ := ⟨_, rfl⟩
    rw [hρ] at a1 hc hf hgl
    exact relPure hρ (.pointer (some ⟨r, 0, none⟩)) (by simp [go_sem, hc, hf, hgl, ↓IntWalk.iteOmega, a1, *]) rfl
  · refine relStep_guard (g := 11) (b := true) (x := true) rfl (by kernel_rfl) rfl (by kernel_rfl) rfl (fun _ _ h => h) ?_
    intro Ac w5 hp
    have hb := hp.bel
    have a25 : Ac.eval (.tmp 25) = .pointer (some ⟨r, 0, none⟩) := hp.dep 12 (by kernel_rfl)
    have hc := evalC Ac; have hf := evalF Ac; have hgl := evalG Ac
    obtain ⟨ρ, hρ⟩ : ∃ ρ, Ac.eval = ρ := ⟨_, rfl⟩
    rw [hρ] at a25 hc hf hgl
    refine relCall hρ 41 #[.pointer (some ⟨r, 0, none⟩)] (by simp [go_sem, hc, hf, hgl, ↓IntWalk.iteOmega, a25, *]) ?_
    refine (told1_any r gt b2 167772160 8 X0 F2 _ _ _ w5 (HRr.out.below hb HRr.out.lt) (HT2.out.below hb)).mono ?_
    rintro e w6 ⟨A6, c6, rfl, hb6⟩
    exact ⟨_, rfl, ⟨A6, c6, rfl⟩, hb6⟩
  · refine relStep_guard (g := 11) (b := true) (x := true) rfl (by kernel_rfl) rfl (by kernel_rfl) rfl (fun _ _ h => h) ?_
    intro Ac w5 hp
    have hb := hp.bel
    obtain ⟨A7, c7, a26⟩ := hp.dep 13 (by kernel_rfl)
    change Ac.eval (.tmp 26) = _ at a26
    have hc := evalC Ac; have hf := evalF Ac; have hgl := evalG Ac
    obtain ⟨ρ, hρ⟩ : ∃ ρ, Ac.eval = ρ := ⟨_, rfl⟩
    rw [hρ] at a26 hc hf hgl
    exact relPure hρ (.int .i64 1) (by simp [go_sem, hc, hf, hgl, ↓IntWalk.iteOmega, a26, *]) rfl
  · refine relStep_guard (g := 11) (b := true) (x := true) rfl (by kernel_rfl) rfl (by kernel_rfl) rfl (fun _ _ h => h) ?_
    intro Ac w5 hp
    have hb := hp.bel
    have a27 : Ac.eval (.tmp 27) = .int .i64 1 := hp.dep 14 (by kernel_rfl)
    have hc := evalC Ac; have hf := evalF Ac; have hgl := evalG Ac
    obtain ⟨ρ, hρ⟩ : ∃ ρ, Ac.eval = ρ := ⟨_, rfl⟩
    rw [hρ] at a27 hc hf hgl
    exact relPure hρ (.bool true) (by simp [go_sem, hc, hf, hgl, ↓IntWalk.iteOmega, a27, *]) rfl
  · refine relStep_plain rfl ?_
    intro Ac w5 hp
    have hb := hp.bel
    have a24 : Ac.eval (.tmp 24) = .bool true := hp.dep 11 (by kernel_rfl)
    have a28 : Ac.eval (.tmp 28) = .bool true := hp.dep 15 (by kernel_rfl)
    have hc := evalC Ac; have hf := evalF Ac; have hgl := evalG Ac
    obtain ⟨ρ, hρ⟩ : ∃ ρ, Ac.eval = ρ := ⟨_, rfl⟩
    rw [hρ] at a24 a28 hc hf hgl
    exact relPure hρ (.bool true) (by simp [go_sem, hc, hf, hgl, ↓IntWalk.iteOmega, a24, a28, *]) rfl
  · refine relStep_plain rfl ?_
    intro Ac w5 hp
    have hb := hp.bel
    have a29 : Ac.eval (.tmp 29) = .bool true := hp.dep 16 (by kernel_rfl)
    have hc := evalC Ac; have hf := evalF Ac; have hgl := evalG Ac
    obtain ⟨ρ, hρ⟩ : ∃ ρ, Ac.eval = ρ := ⟨_, rfl⟩
    rw [hρ] at a29 hc hf hgl
    exact relPure hρ (.bool true) (by simp [go_sem, hc, hf, hgl, ↓IntWalk.iteOmega, a29, *]) rfl
  · refine relStep_guard (g := 17) (b := true) (x := true) rfl (by kernel_rfl) rfl (by kernel_rfl) rfl (fun _ _ h => h) ?_
    intro Ac w5 hp
    have hb := hp.bel
    have a1 : Ac.eval (.tmp 1) = .pointer (some ⟨r, 0, none⟩) := hp.out 1 (by rfl)
    have hc := evalC Ac; have hf := evalF Ac; have hgl := evalG Ac
    obtain ⟨ρ, hρ⟩ : ∃ ρ, Ac.eval = ρ := ⟨_, rfl⟩
    rw [hρ] at a1 hc hf hgl
    exact relPure hρ (.pointer (some ⟨r, 0, none⟩)) (by simp [go_sem, hc, hf, hgl, ↓IntWalk.iteOmega, a1, *]) rfl
  · refine relStep_guard (g := 17) (b := true) (x := true) rfl (by kernel_rfl) rfl (by kernel_rfl) rfl (fun _ _ h => h) ?_
    intro Ac w5 hp
    have hb := hp.bel
    have a31 : Ac.eval (.tmp 31) = .pointer (some ⟨r, 0, none⟩) := hp.dep 18 (by kernel_rfl)
    have hc := evalC Ac; have hf := evalF Ac; have hgl := evalG Ac
    obtain ⟨ρ, hρ⟩ : ∃ ρ, Ac.eval = ρ := ⟨_, rfl⟩
    rw [hρ] at a31 hc hf hgl
    refine relCall hρ 42 #[.pointer (some ⟨r, 0, none⟩)] (by simp [go_sem, hc, hf, hgl, ↓IntWalk.iteOmega, a31, *]) ?_
    refine (pend1_any r w3.heap.size gt b b2 167772160 8 X0 F F2 _ _ w5 pg8 (by simp [X0]) norm_X0 (HRr.out.below hb HRr.out.lt) (HT1.out.below hb) (HT2.out.below hb)).mono ?_
    rintro e w6 ⟨rfl, hb6⟩
    exact ⟨_, rfl, rfl, hb6⟩
  · refine relStep_guard (g := 17) (b := true) (x := true) rfl (by kernel_rfl) rfl (by kernel_rfl) rfl (fun _ _ h => h) ?_
    intro Ac w5 hp
    have hb := hp.bel
    have a32 : Ac.eval (.tmp 32) = .slice none 0 0 := hp.dep 19 (by kernel_rfl)
    have hc := evalC Ac; have hf := evalF Ac; have hgl := evalG Ac
    obtain ⟨ρ, hρ⟩ : ∃ ρ, Ac.eval = ρ := ⟨_, rfl⟩
    rw [hρ] at a32 hc hf hgl
    exact relPure hρ (.int .i64 0) (by simp [go_sem, hc, hf, hgl, ↓IntWalk.iteOmega, a32, *]) rfl
  · refine relStep_guard (g := 17) (b := true) (x := true) rfl (by kernel_rfl) rfl (by kernel_rfl) rfl (fun _ _ h => h) ?_
    intro Ac w5 hp
    have hb := hp.bel
    have a33 : Ac.eval (.tmp 33) = .int .i64 0 := hp.dep 20 (by kernel_rfl)
    have hc := evalC Ac; have hf := evalF Ac; have hgl := evalG Ac
    obtain ⟨ρ, hρ⟩ : ∃ ρ, Ac.eval = ρ := ⟨_, rfl⟩
    rw [hρ] at a33 hc hf hgl
    exact relPure hρ (.bool true) (by simp [go_sem, hc, hf, hgl, ↓IntWalk.iteOmega, a33, *]) rfl
  · refine relStep_plain rfl ?_
    intro Ac w5 hp
    have hb := hp.bel
    have a30 : Ac.eval (.tmp 30) = .bool true := hp.dep 17 (by kernel_rfl)
    have a34 : Ac.eval (.tmp 34) = .bool true := hp.dep 21 (by kernel_rfl)
    have hc := evalC Ac; have hf := evalF Ac; have hgl := evalG Ac
    obtain ⟨ρ, hρ⟩ : ∃ ρ, Ac.eval = ρ := ⟨_, rfl⟩
    rw [hρ] at a30 a34 hc hf hgl
    exact relPure hρ (.bool true) (by simp [go_sem, hc, hf, hgl, ↓IntWalk.iteOmega, a30, a34, *]) rfl
  intro u w8 hb7 hall
  have e35 : u 22 = .bool true := relAll_at hall (i := 22) (by decide +kernel)
  clear hall
  simp only [List.drop_succ_cons, List.drop_zero, List.take_succ_cons, List.take_zero, putAll, Act.put, List.setIfInBounds_toArray, List.set_cons_zero, List.set_cons_succ, Nat.zero_add, Nat.reduceAdd, e35]
  have HB8 := hide (HB6.out.trans (hb7.mono HB6.out.size))
  clear hb7
  go_wp2
  go_ret
  exact ⟨rfl, HB8.out⟩
end Go.Proofs.YtgkpkljenndpkaaGreat
set_option linter.unusedSimpArgs false
set_option linter.unusedVariables false
namespace Go.Proofs.YtgkpkljenndpkaaGreat
open Go.RowKit Go.WideShapes Go.ChangeShapes
attribute [local go_sem] Oper.semAt_some
set_option maxRecDepth 100000 in
theorem rnilAim (w : World) (v : Value) : Calls Tryz.prog 34 #[.pointer none, v] w fun e w' => e = .returned (.tuple #[]) ∧ w' = w := by
  go_enter Tryz.func34, Tryz.ntmps34
  go_wp2
  refine bodyPost_ret (results_none rfl _ _ _) rfl ?_
  exact ⟨rfl, rfl⟩
set_option maxRecDepth 100000 in
theorem rnilTick (w : World) : Calls Tryz.prog 36 #[.pointer none] w fun e w' => e = .returned (.tuple #[]) ∧ w' = w := by
  go_enter Tryz.func36, Tryz.ntmps36
  go_wp2
  refine bodyPost_end (results_none rfl _ _ _) rfl ?_
  exact ⟨rfl, rfl⟩
set_option maxRecDepth 100000 in
theorem rnilClear (w : World) : Calls Tryz.prog 37 #[.pointer none] w fun e w' => e = .returned (.tuple #[]) ∧ w' = w := by
  go_enter Tryz.func37, Tryz.ntmps37
  go_wp2
  refine bodyPost_end (results_none rfl _ _ _) rfl ?_
  exact ⟨rfl, rfl⟩
set_option maxRecDepth 100000 in
theorem rnilSet (w : World) : Calls Tryz.prog 38 #[.pointer none, .int .i64 5] w fun e w' => e = .returned (.tuple #[]) ∧ w' = w := by
  go_enter Tryz.func38, Tryz.ntmps38
  go_wp2
  refine bodyPost_end (results_none rfl _ _ _) rfl ?_
  exact ⟨rfl, rfl⟩
set_option maxRecDepth 100000 in
theorem rnilGone (w : World) : Calls Tryz.prog 39 #[.pointer none] w fun e w' => e = .returned (.slice none 0 0) ∧ w' = w := by
  go_enter Tryz.func39, Tryz.ntmps39
  go_wp2
  go_ret
  exact ⟨rfl, rfl⟩
set_option maxRecDepth 100000 in
theorem rnilHere (w : World) : Calls Tryz.prog 40 #[.pointer none] w fun e w' => e = .returned (.slice none 0 0) ∧ w' = w := by
  go_enter Tryz.func40, Tryz.ntmps40
  go_wp2
  go_ret
  exact ⟨rfl, rfl⟩
set_option maxRecDepth 100000 in
theorem rnilTold (w : World) : Calls Tryz.prog 41 #[.pointer none] w fun e w' => e = .returned (.slice none 0 0) ∧ w' = w := by
  go_enter Tryz.func41, Tryz.ntmps41
  go_wp2
  go_ret
  exact ⟨rfl, rfl⟩
set_option maxRecDepth 100000 in
theorem rnilPending (w : World) : Calls Tryz.prog 42 #[.pointer none] w fun e w' => e = .returned (.slice none 0 0) ∧ w' = w := by
  go_enter Tryz.func42, Tryz.ntmps42
  go_wp2
  go_ret
  exact ⟨rfl, rfl⟩
set_option maxRecDepth 100000 in
theorem rnilLeft (w : World) : Calls Tryz.prog 43 #[.pointer none] w fun e w' => e = .returned (.int .i64 0) ∧ w' = w := by
  go_enter Tryz.func43, Tryz.ntmps43
  go_wp2
  go_ret
  exact ⟨rfl, rfl⟩
set_option maxRecDepth 100000 in
set_option maxHeartbeats 4000000 in
theorem riboutNone_any (A : Option Addr) (n c : Nat) (l : List TD) (w : World) (h : LstAt 11 tdR w A n c l) : Calls Tryz.prog 6 #[.slice A n c] w fun e w' => e = .returned (.bool true) ∧ Below w.heap.size w w' := by
  have HFw := hide (few36_any A n c l w h)
  have HAi := hide (fun w v => rnilAim w v)
  have HTk := hide rnilTick
  have HCl := hide rnilClear
  have HSt := hide rnilSet
  have HGo := hide rnilGone
  have HHe := hide rnilHere
  have HTo := hide rnilTold
  have HPe := hide rnilPending
  have HLe := hide rnilLeft
  have HLi := hide lives36_any
  clear h
  go_enter Tryz.func6, Tryz.ntmps6
  go_wp2_with fail
  refine HFw.out.mono ?_
  rintro e w1 ⟨A', n', c', xs, rfl, _, hb1⟩
  have HB1 := hide hb1
  clear hb1
  go_wp2_with fail
  refine (HAi.out _ _).mono ?_
  rintro e w2 ⟨rfl, rfl⟩
  go_wp2_with fail
  refine (HTk.out _).mono ?_
  rintro e w2 ⟨rfl, rfl⟩
  go_wp2_with fail
  refine (HCl.out _).mono ?_
  rintro e w2 ⟨rfl, rfl⟩
  go_wp2_with fail
  refine (HSt.out _).mono ?_
  rintro e w2 ⟨rfl, rfl⟩
  go_wp2_with fail
  refine (HGo.out _).mono ?_
  rintro e w2 ⟨rfl, rfl⟩
  go_wp2_with fail
  refine (HHe.out _).mono ?_
  rintro e w2 ⟨rfl, rfl⟩
  go_wp2_with fail
  refine (HTo.out _).mono ?_
  rintro e w2 ⟨rfl, rfl⟩
  go_wp2_with fail
  refine (HPe.out _).mono ?_
  rintro e w2 ⟨rfl, rfl⟩
  go_wp2_with fail
  refine (HLe.out _).mono ?_
  rintro e w2 ⟨rfl, rfl⟩
  go_wp2_with fail
  refine (HLi.out _).mono ?_
  rintro e w3 ⟨rfl, hb3⟩
  have HB3 := hide (HB1.out.trans (hb3.mono HB1.out.size))
  clear hb3
  go_wp2
  go_ret
  exact ⟨rfl, HB3.out⟩
end Go.Proofs.YtgkpkljenndpkaaGreat
set_option linter.unusedSimpArgs false
set_option linter.unusedVariables false
namespace Go.Proofs.YtgkpkljenndpkaaGreat
open Go.RowKit Go.WideShapes Go.ChangeShapes
attribute [local go_sem] Oper.semAt_some
abbrev atL (h o : Int) (A : Option Addr) (n c : Nat) (hp md pf aa ai : Int) (B : Option Addr) (m d : Nat) : List Value := [.int .i64 h, .int .i64 o, .slice A n c, .int .u32 hp, .int .u32 md, .int .u32 pf, .int .u32 aa, .int .u32 ai, .slice B m d]
end Go.Proofs.YtgkpkljenndpkaaGreat
set_option linter.unusedSimpArgs false
set_option linter.unusedVariables false
namespace Go.Proofs.YtgkpkljenndpkaaGreat
open Go.RowKit Go.WideShapes Go.ChangeShapes
set_option maxRecDepth 100000 in
theorem u32s_opens {H : Type} {enc : TypeId × Value → H} {W : World} {f : Nat} {v : Value} {x : DataW H × List MemPlace} (h : DataW.trod enc Tryz.prog W 0 (fun _ => true) true f 35 [v] = some x) :
    ∃ A n c l, v = .slice A n c ∧ U32s W A n c l := by
  have h1' : ∃ A n c, v = .slice A n c := by
    rcases DataW.trod_slice Tryz.underlying35 h with ⟨e, _⟩ | ⟨a, len, cap, elems, rest, n, _, e, _⟩
    · exact ⟨none, 0, 0, by simpa using e⟩
    · exact ⟨some a, len, cap, by simpa using e⟩
  obtain ⟨A, m, c, rfl⟩ := h1'
  obtain ⟨l, hl⟩ := u32s_open (A := A) (n := m) (c := c) ⟨f, by simpa [Value.cells] using h⟩
  exact ⟨A, m, c, l, rfl, hl⟩
set_option maxRecDepth 100000 in
theorem segs_open {H : Type} {enc : TypeId × Value → H} {W : World} {A : Option Addr} {n c : Nat} {d : DataW H} {p : List MemPlace}
    (h : DataW.Trod enc Tryz.prog W 0 (fun _ => true) true 52 (.slice A n c) d p) : ∃ l : List SG, LstAt 2 sgR W A n c l := by
  obtain ⟨fuel, hf⟩ := h
  obtain ⟨A', n', c', l, e, hl⟩ := lst_open (R := sgR) (sz := 2) Tryz.underlying52 (by kernel_rfl) (by decide) (fun f cs x hx => by
    obtain ⟨z0, z1, n, _, hl, g0, g1⟩ := trod_struct2 Tryz.underlying64 hx
    have c2 : Tryz.prog.cellsOf 64 = 2 := by kernel_rfl
    have ci : Tryz.prog.cellsOf 3 = 1 := by kernel_rfl
    have cs1 : Tryz.prog.cellsOf 35 = 1 := by kernel_rfl
    rw [c2] at hl
    match cs, hl with
    | [v0, v1], _ =>
      simp only [ci, cs1, List.drop_zero, List.drop_succ_cons, List.take_succ_cons, List.take_zero] at g0 g1
      obtain ⟨k, e0, _⟩ := DataW.trod_int Tryz.underlying3 g0
      obtain ⟨A, m, c, l, rfl, hl⟩ := u32s_opens g1
      simp only [List.cons.injEq, and_true] at e0
      subst e0
      exact ⟨⟨k, l⟩, A, m, c, rfl, hl⟩) hf
  obtain ⟨rfl, rfl, rfl⟩ : A = A' ∧ n = n' ∧ c = c' := by simpa [Value.cells] using e
  exact ⟨l, hl⟩
end Go.Proofs.YtgkpkljenndpkaaGreat
set_option linter.unusedSimpArgs false
set_option linter.unusedVariables false
namespace Go.Proofs.YtgkpkljenndpkaaGreat
open Go.RowKit Go.WideShapes Go.ChangeShapes Go.ChangeAt
theorem segs_opens {H : Type} {enc : TypeId × Value → H} {W : World} {f : Nat} {v : Value} {x : DataW H × List MemPlace} (h : DataW.trod enc Tryz.prog W 0 (fun _ => true) true f 52 [v] = some x) :
    ∃ A n c l, v = .slice A n c ∧ LstAt 2 sgR W A n c l := by
  have h1' : ∃ A n c, v = .slice A n c := by
    rcases DataW.trod_slice Tryz.underlying52 h with ⟨e, _⟩ | ⟨a, len, cap, elems, rest, n, _, e, _⟩
    · exact ⟨none, 0, 0, by simpa using e⟩
    · exact ⟨some a, len, cap, by simpa using e⟩
  obtain ⟨A, m, c, rfl⟩ := h1'
  obtain ⟨l, hl⟩ := segs_open (A := A) (n := m) (c := c) ⟨f, by simpa [Value.cells] using h⟩
  exact ⟨A, m, c, l, rfl, hl⟩
set_option maxRecDepth 100000 in
set_option maxHeartbeats 4000000 in
theorem at_opens {H : Type} {enc : TypeId × Value → H} {W : World} {f : Nat} {cs : List Value} {x : DataW H × List MemPlace} (h : DataW.trod enc Tryz.prog W 0 (fun _ => true) true f 54 cs = some x) : ∃ (X : AT) (A : Option Addr) (n c : Nat) (B : Option Addr) (m d : Nat), cs = atL X.has X.org A n c X.hop X.med X.pref X.aas X.aid B m d ∧ LstAt 2 sgR W A n c X.path ∧ U32s W B m d X.comms := by
  obtain ⟨xs, f2, _, rfl, hl, hlen, hf⟩ := DataW.trod_struct Tryz.underlying54 h
  have c9 : Tryz.prog.cellsOf 54 = 9 := by kernel_rfl
  rw [c9] at hl
  match xs, hlen with
  | [y0, y1, y2, y3, y4, y5, y6, y7, y8], _ =>
  match cs, hl with
  | [v0, v1, v2, v3, v4, v5, v6, v7, v8], _ =>
    have h0 : DataW.trod enc Tryz.prog W 0 (fun _ => true) true f2 3 [v0] = some y0 := hf 0 _ rfl
    have h1 : DataW.trod enc Tryz.prog W 0 (fun _ => true) true f2 3 [v1] = some y1 := hf 1 _ rfl
    have h2 : DataW.trod enc Tryz.prog W 0 (fun _ => true) true f2 52 [v2] = some y2 := hf 2 _ rfl
    have h3 : DataW.trod enc Tryz.prog W 0 (fun _ => true) true f2 34 [v3] = some y3 := hf 3 _ rfl
    have h4 : DataW.trod enc Tryz.prog W 0 (fun _ => true) true f2 34 [v4] = some y4 := hf 4 _ rfl
    have h5 : DataW.trod enc Tryz.prog W 0 (fun _ => true) true f2 34 [v5] = some y5 := hf 5 _ rfl
    have h6 : DataW.trod enc Tryz.prog W 0 (fun _ => true) true f2 34 [v6] = some y6 := hf 6 _ rfl
    have h7 : DataW.trod enc Tryz.prog W 0 (fun _ => true) true f2 34 [v7] = some y7 := hf 7 _ rfl
    have h8 : DataW.trod enc Tryz.prog W 0 (fun _ => true) true f2 35 [v8] = some y8 := hf 8 _ rfl
    clear hf
    obtain ⟨q0, e0, _, j0⟩ := DataW.trod_int Tryz.underlying3 h0
    obtain ⟨q1, e1, _, j1⟩ := DataW.trod_int Tryz.underlying3 h1
    obtain ⟨A, n, c, pl, rfl, hP⟩ := segs_opens h2
    obtain ⟨q3, e3, _, j3⟩ := DataW.trod_int Tryz.underlying34 h3
    obtain ⟨q4, e4, _, j4⟩ := DataW.trod_int Tryz.underlying34 h4
    obtain ⟨q5, e5, _, j5⟩ := DataW.trod_int Tryz.underlying34 h5
    obtain ⟨q6, e6, _, j6⟩ := DataW.trod_int Tryz.underlying34 h6
    obtain ⟨q7, e7, _, j7⟩ := DataW.trod_int Tryz.underlying34 h7
    obtain ⟨B, m, d, cl, rfl, hC⟩ := u32s_opens h8
    simp only [List.cons.injEq, and_true] at e0 e1 e3 e4 e5 e6 e7
    subst e0 e1 e3 e4 e5 e6 e7
    exact ⟨⟨q0, q1, pl, q3, q4, q5, q6, q7, cl⟩, A, n, c, B, m, d, rfl, hP, hC⟩
set_option maxRecDepth 100000 in
set_option maxHeartbeats 4000000 in
theorem pf_opens {H : Type} {enc : TypeId × Value → H} {W : World} {f : Nat} {cs : List Value} {x : DataW H × List MemPlace} (h : DataW.trod enc Tryz.prog W 0 (fun _ => true) true f 51 cs = some x) : ∃ a b : Int, cs = [.int .u32 a, .int .i64 b] := by
  obtain ⟨xs, f2, _, rfl, hl, hlen, hf⟩ := DataW.trod_struct Tryz.underlying51 h
  have c9 : Tryz.prog.cellsOf 51 = 2 := by kernel_rfl
  rw [c9] at hl
  match xs, hlen with
  | [y0, y1], _ =>
  match cs, hl with
  | [v0, v1], _ =>
    have h0 : DataW.trod enc Tryz.prog W 0 (fun _ => true) true f2 34 [v0] = some y0 := hf 0 _ rfl
    have h1 : DataW.trod enc Tryz.prog W 0 (fun _ => true) true f2 3 [v1] = some y1 := hf 1 _ rfl
    clear hf
    obtain ⟨q0, e0, _, j0⟩ := DataW.trod_int Tryz.underlying34 h0
    obtain ⟨q1, e1, _, j1⟩ := DataW.trod_int Tryz.underlying3 h1
    simp only [List.cons.injEq, and_true] at e0 e1
    subst e0 e1
    exact ⟨q0, q1, rfl⟩
end Go.Proofs.YtgkpkljenndpkaaGreat
set_option linter.unusedSimpArgs false
set_option linter.unusedVariables false
namespace Go.Proofs.YtgkpkljenndpkaaGreat
open Go.RowKit Go.WideShapes Go.ChangeShapes Go.ChangeAt
attribute [local go_sem] Oper.semAt_some
set_option maxRecDepth 100000 in
set_option maxHeartbeats 4000000 in
theorem td_opens {H : Type} {enc : TypeId × Value → H} {W : World} {f : Nat} {cs : List Value} {x : DataW H × List MemPlace} (h : DataW.trod enc Tryz.prog W 0 (fun _ => true) true f 172 cs = some x) : ∃ y, tdR W cs y := by
  obtain ⟨xs, f2, _, rfl, hl, hlen, hf⟩ := DataW.trod_struct Tryz.underlying172 h
  have c11 : Tryz.prog.cellsOf 172 = 11 := by kernel_rfl
  have cP : Tryz.prog.cellsOf 51 = 2 := by kernel_rfl
  have cA : Tryz.prog.cellsOf 54 = 9 := by kernel_rfl
  rw [c11] at hl
  match xs, hlen with
  | [y0, y1], _ =>
  match cs, hl with
  | [v0, v1, v2, v3, v4, v5, v6, v7, v8, v9, v10], _ =>
    have h0 : DataW.trod enc Tryz.prog W 0 (fun _ => true) true f2 51 [v0, v1] = some y0 := hf 0 _ rfl
    have h1 : DataW.trod enc Tryz.prog W 0 (fun _ => true) true f2 54 [v2, v3, v4, v5, v6, v7, v8, v9, v10] = some y1 := hf 1 _ rfl
    clear hf
    obtain ⟨a, b, e0⟩ := pf_opens h0
    obtain ⟨X, A, n, c, B, m, d, e1, hP, hC⟩ := at_opens h1
    have e1 : [v2, v3, v4, v5, v6, v7, v8, v9, v10] = [.int .i64 X.has, .int .i64 X.org, .slice A n c, .int .u32 X.hop, .int .u32 X.med, .int .u32 X.pref, .int .u32 X.aas, .int .u32 X.aid, .slice B m d] := e1
    simp only [List.cons.injEq, and_true] at e0 e1
    obtain ⟨rfl, rfl⟩ := e0
    obtain ⟨rfl, rfl, rfl, rfl, rfl, rfl, rfl, rfl, rfl⟩ := e1
    exact ⟨⟨a, b, X⟩, A, n, c, B, m, d, rfl, hP, hC⟩
theorem tolds_open {H : Type} {enc : TypeId × Value → H} {W : World} {A : Option Addr} {n c : Nat} {d : DataW H} {p : List MemPlace}
    (h : DataW.Trod enc Tryz.prog W 0 (fun _ => true) true 76 (.slice A n c) d p) : ∃ l, LstAt 11 tdR W A n c l := by
  obtain ⟨fuel, hf⟩ := h
  obtain ⟨A', n', c', l, e, hl⟩ := lst_open (R := tdR) (sz := 11) Tryz.underlying76 (by kernel_rfl) (by decide) (fun f cs x hx => td_opens hx) hf
  have e2 : Value.slice A n c = .slice A' n' c' := by simpa [Value.cells] using e
  injection e2 with e1 e2 e3
  subst e1 e2 e3
  exact ⟨l, hl⟩
end Go.Proofs.YtgkpkljenndpkaaGreat
