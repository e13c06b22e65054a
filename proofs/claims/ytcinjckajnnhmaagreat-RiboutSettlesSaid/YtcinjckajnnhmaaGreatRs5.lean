import Derived.Test.YtcinjckajnnhmaaGreatRs4
import Derived.WalkKit
import Derived.ProofKit
import Derived.OpenShut
import Derived.Below
import Derived.Laws.OwnMore
import Derived.Laws.Rows
import Derived.Laws.MakeOwn
import Derived.Deep.AppendLies
import Derived.Deep.Draws
import Derived.Deep.OwnRows
import Derived.Deep.QuietTactic
import Derived.Maps.AppendAt
import Derived.RegionTactic
import Derived.OwnWalk
import Derived.ChangeSame
import Derived.Outline
import Derived.BigQuiet
import Derived.WalkMore
import Derived.ScopeJumps
import Derived.WalkLawsBesides
import Derived.WalkSpells
import Derived.Laws.BitsLemmas
import Derived.Laws.BitsAllLaws
import Derived.WideKeyArgs
import Derived.Deep.DeepHandedRow
import Derived.Deep.DeepWitnessRowRef
import Derived.Lib.LaidTab
import Derived.Lib.AppendIntMem
import Derived.LaidMore
import Derived.MakeChecks
import Derived.Lib.Itoa
import Derived.Lib.ItoaMem
import Derived.Deep.Quiet
import Derived.Deep.Slices
import Derived.BigRegion
import Derived.Orders
import Derived.OrdersIn
import Derived.RangeFuncCalls
import Derived.Shelf.RegionOpen
import Derived.StillTailTactics
import Derived.Lib.PathFns
import Derived.Lib.IndexBytes
import Derived.RangeFuncWrites
import Derived.RangeFuncNested
import Derived.RangeFuncBound
import Derived.RangeFuncLeaves
import Derived.RangeFuncBox
import Derived.Shelf.Abstract
import Derived.OwnWalkIn
import Derived.TacticsInMore
import Derived.LoopNIn
import Derived.LoopIn
import Derived.Lib.SmallJoins
import Derived.Lib.ParseIntBCases
import Derived.Lib.IndexMore
import Derived.Shelf.Vars
import Derived.Lib.AtoiAllCases
import Derived.SliceStrings
import Derived.Deep.RegionLaw
import Derived.Sort.LotA
import Derived.BigRegionIn
import Derived.Deep.RegionHeld3
import Derived.RangeFuncOwn
import Derived.Sort.WalkA6
import Derived.Sort.WalkB3
import Derived.Sort.WalkC4
import Derived.Sort.WalkA14
import Derived.Sort.Walk11
import Derived.Sort.Walk7
import Derived.Sort.Walk13
import Derived.Sort.Row
import Derived.Lib.Walk
import Derived.Lib.Strings
import Derived.BigGuard
import Derived.BigCall
import Derived.CellFam
import Derived.Deep.LoopGhost
import Derived.Sort.LotC
import Derived.Deep.RegionWith
import Derived.RowKit
import Derived.Sort.LotD3
import Derived.Sort.LotD4
import Derived.Sort.Grow
import Derived.Sort.AtCall
import Derived.Sort.LotD5
import Derived.Laws.Bits64
import Derived.Laws.Bits64b
import Derived.Sort.EncStr
import Derived.Sort.LotD1
import Derived.Sort.LotB
import Derived.Deep.Cut
import Derived.Sort.Walk13a
import Derived.Sort.AssemblyPlain
import Derived.Shelf.Spec.SlicesInsertGrow
import Derived.Deep.MidRow
import Derived.Lib.RowBridge
import Derived.Laws.CopyOwn
import Derived.Lib.AppendZerosOnto
import Derived.Deep.DeepCutAuto
import Derived.Lib.Bytealg
import Derived.Shelf.Strings.SplitShaped
import Derived.Shelf.Strings.Prefix
import Derived.Shelf.Small.Strs
set_option linter.unusedSimpArgs false
set_option linter.unusedVariables false
namespace Go.Proofs.YtcinjckajnnhmaaGreat
open Go.RowKit Go.WideShapes Go.ChangeShapes
attribute [local go_sem] Oper.semAt_some
set_option maxRecDepth 100000 in
set_option maxHeartbeats 4000000 in
theorem getA_any {α : Type} {F : Nat → Prop} {R : World → List Value → α → Prop} (g c k : Nat) (t : Tr α) (w : World) (hc : PG c k) (hg : Blk w g 201 #[trPtr t]) (h : TrW 9 205 F R w t) (hw : trWf t) (hF : ∀ k, F k → k < w.heap.size) :
  Calls Tryz.prog 82 #[.pointer (some ⟨g, 0, none⟩), .agg #[.int .u32 (c : Int), .int .i64 (k : Int)]] w fun e w' => Below w.heap.size w w' ∧ match trGet c k t with
   | some x => ∃ v0 v1 v2 v3 v4 v5 v6 v7 v8, e = .returned (.tuple #[.agg #[v0, v1, v2, v3, v4, v5, v6, v7, v8], .bool true]) ∧ FrS F none (fun w => R w [v0, v1, v2, v3, v4, v5, v6, v7, v8] x) w'
   | none => e = .returned (.tuple #[.agg #[.int .i64 0, .int .i64 0, .slice none 0 0, .int .u32 0, .int .u32 0, .int .u32 0, .int .u32 0, .int .u32 0, .slice none 0 0], .bool false]) := by
 obtain ⟨w0, hw0⟩ : ∃ w0, (w.alloc (.cells #[.int .u32 (c : Int), .int .i64 (k : Int)] 24)).alloc (.cells #[.int .i64 0, .int .i64 0, .slice none 0 0, .int .u32 0, .int .u32 0, .int .u32 0, .int .u32 0, .int .u32 0, .slice none 0 0] 28) = w0 := ⟨_, rfl⟩
 have hb0 : Below w.heap.size w w0 := hw0 ▸ blkBelow2 w _ _; have HZ0 : Hid (Blk w0 (w.heap.size + 1) 28 #[.int .i64 0, .int .i64 0, .slice none 0 0, .int .u32 0, .int .u32 0, .int .u32 0, .int .u32 0, .int .u32 0, .slice none 0 0]) := hide (hw0 ▸ blk_new' _ _ (by simp)); have HFd := hide (findA_any (R := R) g c k t w0 hc (hg.below hb0 hg.lt) (h.chg (chg_below (S := fun _ => False) hb0) (by simp) (by simp)) hw); have hgf := trGet_find c k t; have hfw := trFind_w c k t h; have HF := hide hF; obtain ⟨s, hs⟩ : ∃ s, trFind c k t = s := ⟨_, rfl⟩
 rw [hs] at hgf hfw HFd; have HW0 := hide hw0; have HB0 := hide hb0; clear hw0 hb0 hs hw hg h hF
 cases s with
 | nil =>
  simp only at hgf; rw [hgf]; have e0 : trPtr (.nil : Tr α) = .pointer none := rfl; rw [e0] at HFd; clear hgf e0 hfw
  go_enter Tryz.func82, Tryz.ntmps82
  go_wp2_with fail
  rw [HW0.out]; refine HFd.out.mono ?_; rintro e w1 ⟨rfl, hb1⟩; have HB1 := hide (HB0.out.trans (hb1.mono HB0.out.size)); have hz := HZ0.out.below hb1 HZ0.out.lt; have z0 : w1.cell? ⟨w.heap.size + 1, 0, none⟩ = some (.int .i64 0) := hz.cell 0; have z1 : w1.cell? ⟨w.heap.size + 1, 1, none⟩ = some (.int .i64 0) := hz.cell 1; have z2 : w1.cell? ⟨w.heap.size + 1, 2, none⟩ = some (.slice none 0 0) := hz.cell 2; have z3 : w1.cell? ⟨w.heap.size + 1, 3, none⟩ = some (.int .u32 0) := hz.cell 3; have z4 : w1.cell? ⟨w.heap.size + 1, 4, none⟩ = some (.int .u32 0) := hz.cell 4; have z5 : w1.cell? ⟨w.heap.size + 1, 5, none⟩ = some (.int .u32 0) := hz.cell 5; have z6 : w1.cell? ⟨w.heap.size + 1, 6, none⟩ = some (.int .u32 0) := hz.cell 6; have z7 : w1.cell? ⟨w.heap.size + 1, 7, none⟩ = some (.int .u32 0) := hz.cell 7; have z8 : w1.cell? ⟨w.heap.size + 1, 8, none⟩ = some (.slice none 0 0) := hz.cell 8; have zf := fun i => hz.frozen i; have HZ1 := hide hz; clear hb1 hz; go_wp2; change bodyPost _ _ _ _ _ (w1.setCells (w.heap.size + 1) 0 [.int .i64 0, .int .i64 0, .slice none 0 0, .int .u32 0, .int .u32 0, .int .u32 0, .int .u32 0, .int .u32 0, .slice none 0 0]); obtain ⟨wF, hwF⟩ : ∃ x, w1.setCells (w.heap.size + 1) 0 [.int .i64 0, .int .i64 0, .slice none 0 0, .int .u32 0, .int .u32 0, .int .u32 0, .int .u32 0, .int .u32 0, .slice none 0 0] = x := ⟨_, rfl⟩
  have HFk := hide (hwF ▸ blk_sets [.int .i64 0, .int .i64 0, .slice none 0 0, .int .u32 0, .int .u32 0, .int .u32 0, .int .u32 0, .int .u32 0, .slice none 0 0] [] [.int .i64 0, .int .i64 0, .slice none 0 0, .int .u32 0, .int .u32 0, .int .u32 0, .int .u32 0, .int .u32 0, .slice none 0 0] HZ1.out rfl : Blk wF (w.heap.size + 1) 28 #[.int .i64 0, .int .i64 0, .slice none 0 0, .int .u32 0, .int .u32 0, .int .u32 0, .int .u32 0, .int .u32 0, .slice none 0 0]); have HFb := hide (hwF ▸ below_sets [.int .i64 0, .int .i64 0, .slice none 0 0, .int .u32 0, .int .u32 0, .int .u32 0, .int .u32 0, .int .u32 0, .slice none 0 0] 0 HB1.out (by omega) : Below w.heap.size w wF); rw [hwF]; clear hwF z0 z1 z2 z3 z4 z5 z6 z7 z8 zf; have z0 : wF.cell? ⟨w.heap.size + 1, 0, none⟩ = some (.int .i64 0) := HFk.out.cell 0; have z1 : wF.cell? ⟨w.heap.size + 1, 1, none⟩ = some (.int .i64 0) := HFk.out.cell 1; have z2 : wF.cell? ⟨w.heap.size + 1, 2, none⟩ = some (.slice none 0 0) := HFk.out.cell 2; have z3 : wF.cell? ⟨w.heap.size + 1, 3, none⟩ = some (.int .u32 0) := HFk.out.cell 3; have z4 : wF.cell? ⟨w.heap.size + 1, 4, none⟩ = some (.int .u32 0) := HFk.out.cell 4; have z5 : wF.cell? ⟨w.heap.size + 1, 5, none⟩ = some (.int .u32 0) := HFk.out.cell 5; have z6 : wF.cell? ⟨w.heap.size + 1, 6, none⟩ = some (.int .u32 0) := HFk.out.cell 6; have z7 : wF.cell? ⟨w.heap.size + 1, 7, none⟩ = some (.int .u32 0) := HFk.out.cell 7; have z8 : wF.cell? ⟨w.heap.size + 1, 8, none⟩ = some (.slice none 0 0) := HFk.out.cell 8; exact bodyPost_ret (v := .tuple #[.agg #[.int .i64 0, .int .i64 0, .slice none 0 0, .int .u32 0, .int .u32 0, .int .u32 0, .int .u32 0, .int .u32 0, .slice none 0 0], .bool false]) (by simp [results, Tryz.results82, go_sem, z0, z1, z2, z3, z4, z5, z6, z7, z8]) rfl ⟨HFb.out, rfl⟩
 | nd b a n v l r =>
  have e0 : trPtr (.nd b a n v l r) = .pointer (some ⟨b, 0, none⟩) := rfl; rw [e0] at HFd; clear e0; simp only at hgf; rw [hgf]; obtain ⟨⟨vs, hv, hk, hval⟩, _, _⟩ := hfw; obtain ⟨v0, v1, v2, v3, v4, v5, v6, v7, v8, rfl⟩ := lenA hv; have HN := hide hk; have HVl := hide hval; have HOne := hide hv.2; clear hgf hv hk hval; obtain ⟨cn, hcn⟩ : ∃ c, trCnt l + trCnt r + (if v.isSome then 1 else 0) = c := ⟨_, rfl⟩
  rw [hcn] at HN; clear hcn
  cases v with
  | none =>
   go_enter Tryz.func82, Tryz.ntmps82
   go_wp2_with fail
   rw [HW0.out]; refine HFd.out.mono ?_; rintro e w1 ⟨rfl, hb1⟩; have HB1 := hide (HB0.out.trans (hb1.mono HB0.out.size)); have HZ1 := hide (HZ0.out.below hb1 HZ0.out.lt); have yp : w1.cell? ⟨b, 11, none⟩ = some (.bool false) := (HN.out.below HB1.out HN.out.lt).cell 11; have z0 : w1.cell? ⟨w.heap.size + 1, 0, none⟩ = some (.int .i64 0) := HZ1.out.cell 0; have z1 : w1.cell? ⟨w.heap.size + 1, 1, none⟩ = some (.int .i64 0) := HZ1.out.cell 1; have z2 : w1.cell? ⟨w.heap.size + 1, 2, none⟩ = some (.slice none 0 0) := HZ1.out.cell 2; have z3 : w1.cell? ⟨w.heap.size + 1, 3, none⟩ = some (.int .u32 0) := HZ1.out.cell 3; have z4 : w1.cell? ⟨w.heap.size + 1, 4, none⟩ = some (.int .u32 0) := HZ1.out.cell 4; have z5 : w1.cell? ⟨w.heap.size + 1, 5, none⟩ = some (.int .u32 0) := HZ1.out.cell 5; have z6 : w1.cell? ⟨w.heap.size + 1, 6, none⟩ = some (.int .u32 0) := HZ1.out.cell 6; have z7 : w1.cell? ⟨w.heap.size + 1, 7, none⟩ = some (.int .u32 0) := HZ1.out.cell 7; have z8 : w1.cell? ⟨w.heap.size + 1, 8, none⟩ = some (.slice none 0 0) := HZ1.out.cell 8; have zf := fun i => HZ1.out.frozen i; clear hb1; go_wp2; change bodyPost _ _ _ _ _ (w1.setCells (w.heap.size + 1) 0 [.int .i64 0, .int .i64 0, .slice none 0 0, .int .u32 0, .int .u32 0, .int .u32 0, .int .u32 0, .int .u32 0, .slice none 0 0]); obtain ⟨wF, hwF⟩ : ∃ x, w1.setCells (w.heap.size + 1) 0 [.int .i64 0, .int .i64 0, .slice none 0 0, .int .u32 0, .int .u32 0, .int .u32 0, .int .u32 0, .int .u32 0, .slice none 0 0] = x := ⟨_, rfl⟩
   have HFk := hide (hwF ▸ blk_sets [.int .i64 0, .int .i64 0, .slice none 0 0, .int .u32 0, .int .u32 0, .int .u32 0, .int .u32 0, .int .u32 0, .slice none 0 0] [] [.int .i64 0, .int .i64 0, .slice none 0 0, .int .u32 0, .int .u32 0, .int .u32 0, .int .u32 0, .int .u32 0, .slice none 0 0] HZ1.out rfl : Blk wF (w.heap.size + 1) 28 #[.int .i64 0, .int .i64 0, .slice none 0 0, .int .u32 0, .int .u32 0, .int .u32 0, .int .u32 0, .int .u32 0, .slice none 0 0]); have HFb := hide (hwF ▸ below_sets [.int .i64 0, .int .i64 0, .slice none 0 0, .int .u32 0, .int .u32 0, .int .u32 0, .int .u32 0, .int .u32 0, .slice none 0 0] 0 HB1.out (by omega) : Below w.heap.size w wF); rw [hwF]; clear hwF z0 z1 z2 z3 z4 z5 z6 z7 z8 zf yp; have z0 : wF.cell? ⟨w.heap.size + 1, 0, none⟩ = some (.int .i64 0) := HFk.out.cell 0; have z1 : wF.cell? ⟨w.heap.size + 1, 1, none⟩ = some (.int .i64 0) := HFk.out.cell 1; have z2 : wF.cell? ⟨w.heap.size + 1, 2, none⟩ = some (.slice none 0 0) := HFk.out.cell 2; have z3 : wF.cell? ⟨w.heap.size + 1, 3, none⟩ = some (.int .u32 0) := HFk.out.cell 3; have z4 : wF.cell? ⟨w.heap.size + 1, 4, none⟩ = some (.int .u32 0) := HFk.out.cell 4; have z5 : wF.cell? ⟨w.heap.size + 1, 5, none⟩ = some (.int .u32 0) := HFk.out.cell 5; have z6 : wF.cell? ⟨w.heap.size + 1, 6, none⟩ = some (.int .u32 0) := HFk.out.cell 6; have z7 : wF.cell? ⟨w.heap.size + 1, 7, none⟩ = some (.int .u32 0) := HFk.out.cell 7; have z8 : wF.cell? ⟨w.heap.size + 1, 8, none⟩ = some (.slice none 0 0) := HFk.out.cell 8; exact bodyPost_ret (v := .tuple #[.agg #[.int .i64 0, .int .i64 0, .slice none 0 0, .int .u32 0, .int .u32 0, .int .u32 0, .int .u32 0, .int .u32 0, .slice none 0 0], .bool false]) (by simp [results, Tryz.results82, go_sem, z0, z1, z2, z3, z4, z5, z6, z7, z8]) rfl ⟨HFb.out, rfl⟩
  | some x =>
   go_enter Tryz.func82, Tryz.ntmps82
   go_wp2_with fail
   rw [HW0.out]; refine HFd.out.mono ?_; rintro e w1 ⟨rfl, hb1⟩; have HB1 := hide (HB0.out.trans (hb1.mono HB0.out.size)); have HZ1 := hide (HZ0.out.below hb1 HZ0.out.lt); have hN1 := HN.out.below HB1.out HN.out.lt; have yp : w1.cell? ⟨b, 11, none⟩ = some (.bool true) := hN1.cell 11; have y0 : w1.cell? ⟨b, 2, none⟩ = some v0 := hN1.cell 2; have y1 : w1.cell? ⟨b, 3, none⟩ = some v1 := hN1.cell 3; have y2 : w1.cell? ⟨b, 4, none⟩ = some v2 := hN1.cell 4; have y3 : w1.cell? ⟨b, 5, none⟩ = some v3 := hN1.cell 5; have y4 : w1.cell? ⟨b, 6, none⟩ = some v4 := hN1.cell 6; have y5 : w1.cell? ⟨b, 7, none⟩ = some v5 := hN1.cell 7; have y6 : w1.cell? ⟨b, 8, none⟩ = some v6 := hN1.cell 8; have y7 : w1.cell? ⟨b, 9, none⟩ = some v7 := hN1.cell 9; have y8 : w1.cell? ⟨b, 10, none⟩ = some v8 := hN1.cell 10; have z0 : w1.cell? ⟨w.heap.size + 1, 0, none⟩ = some (.int .i64 0) := HZ1.out.cell 0; have z1 : w1.cell? ⟨w.heap.size + 1, 1, none⟩ = some (.int .i64 0) := HZ1.out.cell 1; have z2 : w1.cell? ⟨w.heap.size + 1, 2, none⟩ = some (.slice none 0 0) := HZ1.out.cell 2; have z3 : w1.cell? ⟨w.heap.size + 1, 3, none⟩ = some (.int .u32 0) := HZ1.out.cell 3; have z4 : w1.cell? ⟨w.heap.size + 1, 4, none⟩ = some (.int .u32 0) := HZ1.out.cell 4; have z5 : w1.cell? ⟨w.heap.size + 1, 5, none⟩ = some (.int .u32 0) := HZ1.out.cell 5; have z6 : w1.cell? ⟨w.heap.size + 1, 6, none⟩ = some (.int .u32 0) := HZ1.out.cell 6; have z7 : w1.cell? ⟨w.heap.size + 1, 7, none⟩ = some (.int .u32 0) := HZ1.out.cell 7; have z8 : w1.cell? ⟨w.heap.size + 1, 8, none⟩ = some (.slice none 0 0) := HZ1.out.cell 8; have zf := fun i => HZ1.out.frozen i; clear hb1 hN1; have o0 : ∀ (a : Addr) (m : Mode) (W : World), (store a v0 m).run Tryz.prog W = stored Tryz.prog W a v0 m := fun a m W => run_store _ W a v0 m (HOne.out v0 (by simp)); have o1 : ∀ (a : Addr) (m : Mode) (W : World), (store a v1 m).run Tryz.prog W = stored Tryz.prog W a v1 m := fun a m W => run_store _ W a v1 m (HOne.out v1 (by simp)); have o2 : ∀ (a : Addr) (m : Mode) (W : World), (store a v2 m).run Tryz.prog W = stored Tryz.prog W a v2 m := fun a m W => run_store _ W a v2 m (HOne.out v2 (by simp)); have o3 : ∀ (a : Addr) (m : Mode) (W : World), (store a v3 m).run Tryz.prog W = stored Tryz.prog W a v3 m := fun a m W => run_store _ W a v3 m (HOne.out v3 (by simp)); have o4 : ∀ (a : Addr) (m : Mode) (W : World), (store a v4 m).run Tryz.prog W = stored Tryz.prog W a v4 m := fun a m W => run_store _ W a v4 m (HOne.out v4 (by simp)); have o5 : ∀ (a : Addr) (m : Mode) (W : World), (store a v5 m).run Tryz.prog W = stored Tryz.prog W a v5 m := fun a m W => run_store _ W a v5 m (HOne.out v5 (by simp)); have o6 : ∀ (a : Addr) (m : Mode) (W : World), (store a v6 m).run Tryz.prog W = stored Tryz.prog W a v6 m := fun a m W => run_store _ W a v6 m (HOne.out v6 (by simp)); have o7 : ∀ (a : Addr) (m : Mode) (W : World), (store a v7 m).run Tryz.prog W = stored Tryz.prog W a v7 m := fun a m W => run_store _ W a v7 m (HOne.out v7 (by simp)); have o8 : ∀ (a : Addr) (m : Mode) (W : World), (store a v8 m).run Tryz.prog W = stored Tryz.prog W a v8 m := fun a m W => run_store _ W a v8 m (HOne.out v8 (by simp)); go_wp2; change bodyPost _ _ _ _ _ (w1.setCells (w.heap.size + 1) 0 [v0, v1, v2, v3, v4, v5, v6, v7, v8]); obtain ⟨wF, hwF⟩ : ∃ x, w1.setCells (w.heap.size + 1) 0 [v0, v1, v2, v3, v4, v5, v6, v7, v8] = x := ⟨_, rfl⟩
   have HFk := hide (hwF ▸ blk_sets [v0, v1, v2, v3, v4, v5, v6, v7, v8] [] [.int .i64 0, .int .i64 0, .slice none 0 0, .int .u32 0, .int .u32 0, .int .u32 0, .int .u32 0, .int .u32 0, .slice none 0 0] HZ1.out rfl : Blk wF (w.heap.size + 1) 28 #[v0, v1, v2, v3, v4, v5, v6, v7, v8]); have HFb := hide (hwF ▸ below_sets [v0, v1, v2, v3, v4, v5, v6, v7, v8] 0 HB1.out (by omega) : Below w.heap.size w wF); rw [hwF]; clear hwF y0 y1 y2 y3 y4 y5 y6 y7 y8 z0 z1 z2 z3 z4 z5 z6 z7 z8 zf yp o0 o1 o2 o3 o4 o5 o6 o7 o8; have z0 : wF.cell? ⟨w.heap.size + 1, 0, none⟩ = some v0 := HFk.out.cell 0; have z1 : wF.cell? ⟨w.heap.size + 1, 1, none⟩ = some v1 := HFk.out.cell 1; have z2 : wF.cell? ⟨w.heap.size + 1, 2, none⟩ = some v2 := HFk.out.cell 2; have z3 : wF.cell? ⟨w.heap.size + 1, 3, none⟩ = some v3 := HFk.out.cell 3; have z4 : wF.cell? ⟨w.heap.size + 1, 4, none⟩ = some v4 := HFk.out.cell 4; have z5 : wF.cell? ⟨w.heap.size + 1, 5, none⟩ = some v5 := HFk.out.cell 5; have z6 : wF.cell? ⟨w.heap.size + 1, 6, none⟩ = some v6 := HFk.out.cell 6; have z7 : wF.cell? ⟨w.heap.size + 1, 7, none⟩ = some v7 := HFk.out.cell 7; have z8 : wF.cell? ⟨w.heap.size + 1, 8, none⟩ = some v8 := HFk.out.cell 8; exact bodyPost_ret (v := .tuple #[.agg #[v0, v1, v2, v3, v4, v5, v6, v7, v8], .bool true]) (by simp [results, Tryz.results82, go_sem, z0, z1, z2, z3, z4, z5, z6, z7, z8]) rfl ⟨HFb.out, v0, v1, v2, v3, v4, v5, v6, v7, v8, rfl, frs_chg (HVl.out x rfl) (chg_below (S := fun _ => False) HFb.out) (by simp)⟩
end Go.Proofs.YtcinjckajnnhmaaGreat
set_option linter.unusedSimpArgs false
set_option linter.unusedVariables false
namespace Go.Proofs.YtcinjckajnnhmaaGreat
open Go.RowKit Go.WideShapes Go.ChangeShapes
attribute [local go_sem] Oper.semAt_some
structure TD where
  a : Int
  n : Int
  at_ : AT
def tdR (w : World) (vs : List Value) (x : TD) : Prop := ∃ A k c B m d, vs = [.int .u32 x.a, .int .i64 x.n, .int .i64 x.at_.has, .int .i64 x.at_.org, .slice A k c, .int .u32 x.at_.hop, .int .u32 x.at_.med, .int .u32 x.at_.pref, .int .u32 x.at_.aas, .int .u32 x.at_.aid, .slice B m d] ∧ LstAt 2 sgR w A k c x.at_.path ∧ U32s w B m d x.at_.comms
theorem tdMono : SMono tdR := fun _ _ _ _ hb ⟨A, k, c, B, m, d, e, h1, h2⟩ => ⟨A, k, c, B, m, d, e, h1.below sgMono hb, h2.below hb⟩
theorem toldInfo : (Tryz.prog.info? 71).map (fun i => (i.zero, i.size, i.bytes)) = some (some (.agg #[.int .u32 0, .int .i64 0, .int .i64 0, .int .i64 0, .slice none 0 0, .int .u32 0, .int .u32 0, .int .u32 0, .int .u32 0, .int .u32 0, .slice none 0 0]), 11, 104) := by kernel_rfl
theorem frb_ob {B : Nat} {ob : Option Nat} {R : World → Prop} {w : World} (h : FrB B none R w) (hob : ∀ k, ob = some k → k < B) : FrB B ob R w := fun w2 h2 =>
 h w2 ⟨h2.1, fun k o h0 h1 hc _ => h2.2 k o h0 h1 hc (fun e => by have := hob k e.symm; omega)⟩
theorem td_fr {b B : Nat} {w : World} {Y : AT} {a n : Int} {A : Option Addr} {k c : Nat} {Bq : Option Addr} {m d : Nat} {xs : List Value} {ob : Option Nat} (h1 : LOw 2 133 sgR w b b A k c Y.path xs) (h2 : FrB b none (fun w => U32s w Bq m d Y.comms) w) (hB : B ≤ b) (hob : ∀ k, ob = some k → k < b) :
  FrB B ob (fun w => tdR w [.int .u32 a, .int .i64 n, .int .i64 Y.has, .int .i64 Y.org, .slice A k c, .int .u32 Y.hop, .int .u32 Y.med, .int .u32 Y.pref, .int .u32 Y.aas, .int .u32 Y.aid, .slice Bq m d] ⟨a, n, Y⟩) w :=
 (frb_ob (((h1.fr (by decide) (Nat.le_refl _)).and h2).imp fun w h => ⟨A, k, c, Bq, m, d, rfl, h.1, h.2⟩) hob).less hB
theorem TDat {w : World} {A : Option Addr} {n c q : Nat} {l : List TD} (h : LstAt 11 tdR w A n c l) (hq : q < n) : ∃ g o x B1 k1 c1 B2 m2 d2, A = some ⟨g, o, none⟩ ∧ g < w.heap.size ∧ l[q]? = some x ∧ LstAt 2 sgR w B1 k1 c1 x.at_.path ∧ U32s w B2 m2 d2 x.at_.comms ∧ ∀ (j : Nat) (v : Value), [.int .u32 x.a, .int .i64 x.n, .int .i64 x.at_.has, .int .i64 x.at_.org, .slice B1 k1 c1, .int .u32 x.at_.hop, .int .u32 x.at_.med, .int .u32 x.at_.pref, .int .u32 x.at_.aas, .int .u32 x.at_.aid, .slice B2 m2 d2][j]? = some v → w.cell? ⟨g, o + q * 11 + j, none⟩ = some v := by
 obtain ⟨h1, h2, h3, h4⟩ := h; obtain ⟨g, o, rfl, hg, hc⟩ := h4 (by omega); have hx : l[q]? = some l[q] := List.getElem?_eq_getElem (by omega); obtain ⟨vs, hl, ⟨B1, k1, c1, B2, m2, d2, rfl, hr1, hr2⟩, hcs⟩ := hc q _ hx; exact ⟨g, o, _, B1, k1, c1, B2, m2, d2, rfl, hg, hx, hr1, hr2, hcs⟩
def cutTD (x : TD) : TD := ⟨x.a, x.n, cutA x.at_⟩
set_option maxRecDepth 100000 in
set_option maxHeartbeats 8000000 in
theorem few36_any (A : Option Addr) (n c : Nat) (l : List TD) (w : World) (h : LstAt 11 tdR w A n c l) :
    Calls Tryz.prog 21 #[.slice A n c] w fun e w' => ∃ A' n' c' xs, e = .returned (.slice A' n' c') ∧ LOw 11 71 tdR w' w.heap.size w.heap.size A' n' c' ((l.take 12).map cutTD) xs ∧ Below w.heap.size w w' := by
  obtain ⟨i0, hi, hz0, hz1, hz2⟩ := info_parts toldInfo; have hln := h.1; have hnc := h.2.1; have hmx := h.2.2.1; unfold maxLen at hmx; have HLs := hide h; have HL0 : Hid (LOw 11 71 tdR (w.alloc (.cells #[] 71)) w.heap.size w.heap.size (some ⟨w.heap.size, 0, none⟩) 0 0 [] []) := hide ⟨w.ownsRow_lit #[] 0 (Nat.le_refl _) (by unfold maxLen; omega) rfl, by simp, fun k x hk => by simp at hk⟩; have HB0 : Hid (Below w.heap.size w (w.alloc (.cells #[] 71))) := hide ((Below.refl _ w).alloc (Nat.le_refl _) _); clear h
  go_enter Tryz.func21, Tryz.ntmps21
  go_wp2
  go_loopw [3, 4] (fun vo iv wr => ∃ (q : Nat) (A1 : Option Addr) (n1 c1 : Nat) (xs : List Value), q ≤ n ∧ q ≤ 12 ∧ iv = .int .i64 (q : Nat) ∧ vo = .slice A1 n1 c1 ∧ LOw 11 71 tdR wr w.heap.size w.heap.size A1 n1 c1 ((l.take q).map cutTD) xs ∧ Below w.heap.size w wr) (fun _ iv _ => n - (intOf iv).toNat)
  case atStart => exact ⟨0, some ⟨w.heap.size, 0, none⟩, 0, 0, [], Nat.zero_le _, Nat.zero_le _, rfl, rfl, HL0.out, HB0.out⟩
  case round =>
    obtain ⟨q, A1, n1, c1, xs, hq, hq12, rfl, rfl, hlo, hbel⟩ := hrel; have HLo := hide hlo; have HBe := hide hbel; have hs1 := hbel.size; have hn1 := (hlo.lst (by decide)).1; rw [List.length_map, List.length_take] at hn1; by_cases hlt : q < n ∧ q < 12
    · obtain ⟨hlt, hl12⟩ := hlt; obtain ⟨g, o, x, B1, k1, c1', B2, m2, d2, rfl, hg, hx, hr1, hr2, hcs⟩ := TDat (HLs.out.below tdMono hbel) hlt; obtain ⟨Y, hY⟩ : ∃ Y, cutA x.at_ = Y := ⟨_, rfl⟩
      have HE : Hid ((l.take (q + 1)).map cutTD = (l.take q).map cutTD ++ [⟨x.a, x.n, Y⟩]) := hide (by rw [List.take_add_one, hx, ← hY]; simp [cutTD]); have HCs := hide hcs; have HZ0 : Hid (wr.cell? ⟨g, o + q * 11, none⟩ = some (.int .u32 x.a)) := hide (hcs 0 _ rfl); have HZ1 : Hid (wr.cell? ⟨g, o + q * 11 + 1, none⟩ = some (.int .i64 x.n)) := hide (hcs 1 _ rfl); have HR1 := hide hr1; have HR2 := hide hr2; have HY := hide hY; have q1 : (q : Int) < (n : Int) := (by omega)
      have q2 : (q : Int) < 12 := (by omega)
      have q0 : (0 : Int) ≤ (q : Int) := (by omega)
      have hwq : IntKind.i64.wrap ((q : Int) + 1) = (q : Int) + 1 := (by rw [IntKind.wrap_i64]; omega)
      clear hlo hbel hx hr1 hr2 hcs hY; go_wp2; have Hmn := hide (show AllMono [(fun v _ => v = Value.slice A1 n1 c1), (fun v _ => v = .slice (some ⟨g, o, none⟩) n c), (fun v _ => v = .int .i64 (q : Int)), (fun v _ => v = .pointer (some ⟨g, o + q * 11, none⟩)), (fun v _ => v = .pointer (some ⟨g, o + q * 11, none⟩)), (fun v _ => v = .agg #[.int .u32 x.a, .int .i64 x.n]), (fun v _ => v = .slice (some ⟨g, o, none⟩) n c), (fun v _ => v = .int .i64 (q : Int)), (fun v _ => v = .pointer (some ⟨g, o + q * 11, none⟩)), (fun v _ => v = .pointer (some ⟨g, o + q * 11 + 2, none⟩)), (fun v _ => v = atV x.at_.has x.at_.org B1 k1 c1' x.at_.hop x.at_.med x.at_.pref x.at_.aas x.at_.aid B2 m2 d2), (fun v W2 => ∃ A n c B m d, v = atV Y.has Y.org A n c Y.hop Y.med Y.pref Y.aas Y.aid B m d ∧ (∃ xs, LOw 2 133 sgR W2 wr.heap.size wr.heap.size A n c Y.path xs) ∧ FrB wr.heap.size none (fun w => U32s w B m d Y.comms) W2), (fun v W2 => ∃ A n c B m d, v = .agg #[.int .u32 x.a, .int .i64 x.n, .int .i64 Y.has, .int .i64 Y.org, .slice A n c, .int .u32 Y.hop, .int .u32 Y.med, .int .u32 Y.pref, .int .u32 Y.aas, .int .u32 Y.aid, .slice B m d] ∧ (∃ xs, LOw 2 133 sgR W2 wr.heap.size wr.heap.size A n c Y.path xs) ∧ FrB wr.heap.size none (fun w => U32s w B m d Y.comms) W2), (fun v W2 => ∃ R A n c B m d, v = .slice (some ⟨R, 0, none⟩) 1 1 ∧ Blk W2 R 71 #[.int .u32 x.a, .int .i64 x.n, .int .i64 Y.has, .int .i64 Y.org, .slice A n c, .int .u32 Y.hop, .int .u32 Y.med, .int .u32 Y.pref, .int .u32 Y.aas, .int .u32 Y.aid, .slice B m d] ∧ (∃ xs, LOw 2 133 sgR W2 wr.heap.size wr.heap.size A n c Y.path xs) ∧ FrB wr.heap.size none (fun w => U32s w B m d Y.comms) W2)] from ⟨fun _ _ _ _ h => h, fun _ _ _ _ h => h, fun _ _ _ _ h => h, fun _ _ _ _ h => h, fun _ _ _ _ h => h, fun _ _ _ _ h => h, fun _ _ _ _ h => h, fun _ _ _ _ h => h, fun _ _ _ _ h => h, fun _ _ _ _ h => h, fun _ _ _ _ h => h, fun v w2 w3 hb ⟨A, n, c, B, m, d, e, ⟨xs, h1⟩, h2⟩ => ⟨A, n, c, B, m, d, e, ⟨xs, h1.below hb⟩, h2.below hb⟩, fun v w2 w3 hb ⟨A, n, c, B, m, d, e, ⟨xs, h1⟩, h2⟩ => ⟨A, n, c, B, m, d, e, ⟨xs, h1.below hb⟩, h2.below hb⟩, fun v w2 w3 hb ⟨R, A, n, c, B, m, d, e, hk, ⟨xs, h1⟩, h2⟩ => ⟨R, A, n, c, B, m, d, e, hk.below hb hk.lt, ⟨xs, h1.below hb⟩, h2.below hb⟩, trivial⟩); refine wp_region_relT 14 _ (by kernel_rfl) (by kernel_rfl) (by kernel_rfl) (by kernel_rfl) (by kernel_rfl) (relMono _ Hmn.out) ⟨?_, ?_, ?_, ?_, ?_, ?_, ?_, ?_, ?_, ?_, ?_, ?_, ?_, ?_, trivial⟩ ?_
      · refine relStep_plain rfl ?_; intro Ac w5 hp; have a3 : Ac.eval (.tmp 3) = Value.slice A1 n1 c1 := hp.out 3 (by rfl); exact relPureX (Value.slice A1 n1 c1) (fun ρ hρ h1 h2 h3 => by rw [hρ] at a3; simp [go_sem, ↓IntWalk.iteOmega, *]) rfl
      · refine relStep_plain rfl ?_; intro Ac w5 hp; have a0 : Ac.eval (.tmp 0) = .slice (some ⟨g, o, none⟩) n c := hp.out 0 (by rfl); exact relPureX (.slice (some ⟨g, o, none⟩) n c) (fun ρ hρ h1 h2 h3 => by rw [hρ] at a0; simp [go_sem, ↓IntWalk.iteOmega, *]) rfl
      · refine relStep_plain rfl ?_; intro Ac w5 hp; have a4 : Ac.eval (.tmp 4) = .int .i64 (q : Int) := hp.out 4 (by rfl); exact relPureX (.int .i64 (q : Int)) (fun ρ hρ h1 h2 h3 => by rw [hρ] at a4; simp [go_sem, ↓IntWalk.iteOmega, *]) rfl
      · refine relStep_plain rfl ?_; intro Ac w5 hp; have a17 : Ac.eval (.tmp 17) = .slice (some ⟨g, o, none⟩) n c := hp.dep 1 (by kernel_rfl); have a18 : Ac.eval (.tmp 18) = .int .i64 (q : Int) := hp.dep 2 (by kernel_rfl); exact relPureX (.pointer (some ⟨g, o + q * 11, none⟩)) (fun ρ hρ h1 h2 h3 => by rw [hρ] at a17 a18; simp [go_sem, ↓IntWalk.iteOmega, *]) rfl
      · refine relStep_plain rfl ?_; intro Ac w5 hp; have a19 : Ac.eval (.tmp 19) = .pointer (some ⟨g, o + q * 11, none⟩) := hp.dep 3 (by kernel_rfl); exact relPureX (.pointer (some ⟨g, o + q * 11, none⟩)) (fun ρ hρ h1 h2 h3 => by rw [hρ] at a19; simp [go_sem, ↓IntWalk.iteOmega, *]) rfl
      · refine relStep_plain rfl ?_; intro Ac w5 hp; have hb := hp.bel; have a20 : Ac.eval (.tmp 20) = .pointer (some ⟨g, o + q * 11, none⟩) := hp.dep 4 (by kernel_rfl); have z0 : w5.cell? ⟨g, o + q * 11, none⟩ = some (.int .u32 x.a) := (hb.cell hg).trans HZ0.out; have z1 : w5.cell? ⟨g, o + q * 11 + 1, none⟩ = some (.int .i64 x.n) := (hb.cell hg).trans HZ1.out; exact relPureX (.agg #[.int .u32 x.a, .int .i64 x.n]) (fun ρ hρ h1 h2 h3 => by rw [hρ] at a20; simp [go_sem, ↓IntWalk.iteOmega, *]) rfl
      · refine relStep_plain rfl ?_; intro Ac w5 hp; have a0 : Ac.eval (.tmp 0) = .slice (some ⟨g, o, none⟩) n c := hp.out 0 (by rfl); exact relPureX (.slice (some ⟨g, o, none⟩) n c) (fun ρ hρ h1 h2 h3 => by rw [hρ] at a0; simp [go_sem, ↓IntWalk.iteOmega, *]) rfl
      · refine relStep_plain rfl ?_; intro Ac w5 hp; have a4 : Ac.eval (.tmp 4) = .int .i64 (q : Int) := hp.out 4 (by rfl); exact relPureX (.int .i64 (q : Int)) (fun ρ hρ h1 h2 h3 => by rw [hρ] at a4; simp [go_sem, ↓IntWalk.iteOmega, *]) rfl
      · refine relStep_plain rfl ?_; intro Ac w5 hp; have a22 : Ac.eval (.tmp 22) = .slice (some ⟨g, o, none⟩) n c := hp.dep 6 (by kernel_rfl); have a23 : Ac.eval (.tmp 23) = .int .i64 (q : Int) := hp.dep 7 (by kernel_rfl); exact relPureX (.pointer (some ⟨g, o + q * 11, none⟩)) (fun ρ hρ h1 h2 h3 => by rw [hρ] at a22 a23; simp [go_sem, ↓IntWalk.iteOmega, *]) rfl
      · refine relStep_plain rfl ?_; intro Ac w5 hp; have a24 : Ac.eval (.tmp 24) = .pointer (some ⟨g, o + q * 11, none⟩) := hp.dep 8 (by kernel_rfl); exact relPureX (.pointer (some ⟨g, o + q * 11 + 2, none⟩)) (fun ρ hρ h1 h2 h3 => by rw [hρ] at a24; simp [go_sem, ↓IntWalk.iteOmega, *]) rfl
      · refine relStep_plain rfl ?_; intro Ac w5 hp; have hb := hp.bel; have a25 : Ac.eval (.tmp 25) = .pointer (some ⟨g, o + q * 11 + 2, none⟩) := hp.dep 9 (by kernel_rfl); have z2 : w5.cell? ⟨g, o + q * 11 + 2, none⟩ = some (.int .i64 x.at_.has) := (hb.cell hg).trans (HCs.out 2 _ rfl); have z3 : w5.cell? ⟨g, o + q * 11 + 2 + 1, none⟩ = some (.int .i64 x.at_.org) := (hb.cell hg).trans (HCs.out 3 _ rfl); have z4 : w5.cell? ⟨g, o + q * 11 + 2 + 2, none⟩ = some (.slice B1 k1 c1') := (hb.cell hg).trans (HCs.out 4 _ rfl); have z5 : w5.cell? ⟨g, o + q * 11 + 2 + 3, none⟩ = some (.int .u32 x.at_.hop) := (hb.cell hg).trans (HCs.out 5 _ rfl); have z6 : w5.cell? ⟨g, o + q * 11 + 2 + 4, none⟩ = some (.int .u32 x.at_.med) := (hb.cell hg).trans (HCs.out 6 _ rfl); have z7 : w5.cell? ⟨g, o + q * 11 + 2 + 5, none⟩ = some (.int .u32 x.at_.pref) := (hb.cell hg).trans (HCs.out 7 _ rfl); have z8 : w5.cell? ⟨g, o + q * 11 + 2 + 6, none⟩ = some (.int .u32 x.at_.aas) := (hb.cell hg).trans (HCs.out 8 _ rfl); have z9 : w5.cell? ⟨g, o + q * 11 + 2 + 7, none⟩ = some (.int .u32 x.at_.aid) := (hb.cell hg).trans (HCs.out 9 _ rfl); have z10 : w5.cell? ⟨g, o + q * 11 + 2 + 8, none⟩ = some (.slice B2 m2 d2) := (hb.cell hg).trans (HCs.out 10 _ rfl); exact relPureX (atV x.at_.has x.at_.org B1 k1 c1' x.at_.hop x.at_.med x.at_.pref x.at_.aas x.at_.aid B2 m2 d2) (fun ρ hρ h1 h2 h3 => by rw [hρ] at a25; simp [go_sem, ↓IntWalk.iteOmega, *]) rfl
      · refine relStep_plain rfl ?_; intro Ac w5 hp; have hb := hp.bel; have a26 : Ac.eval (.tmp 26) = atV x.at_.has x.at_.org B1 k1 c1' x.at_.hop x.at_.med x.at_.pref x.at_.aas x.at_.aid B2 m2 d2 := hp.dep 10 (by kernel_rfl); obtain ⟨ρ, hρ, hc, hf, hgl⟩ := evalX Ac; rw [hρ] at a26; refine relCall hρ 72 #[atV x.at_.has x.at_.org B1 k1 c1' x.at_.hop x.at_.med x.at_.pref x.at_.aas x.at_.aid B2 m2 d2] (by simp [go_sem, ↓IntWalk.iteOmega, *]) ?_; refine (attrsFew_any x.at_ (atV x.at_.has x.at_.org B1 k1 c1' x.at_.hop x.at_.med x.at_.pref x.at_.aas x.at_.aid B2 m2 d2) w5 ⟨B1, k1, c1', B2, m2, d2, rfl, HR1.out.below sgMono hb, HR2.out.below hb⟩).mono ?_; rintro e w6 ⟨v6, rfl, ⟨A6, n6, c6, xs6, B6, m6, d6, rfl, hl6, hu6⟩, hb6⟩; rw [HY.out] at hl6 hu6 ⊢; exact ⟨_, rfl, ⟨A6, n6, c6, B6, m6, d6, rfl, ⟨xs6, hl6.less hb.size hb.size⟩, hu6.less hb.size⟩, hb6⟩
      · refine relStep_plain rfl ?_; intro Ac w5 hp; have a21 : Ac.eval (.tmp 21) = .agg #[.int .u32 x.a, .int .i64 x.n] := hp.dep 5 (by kernel_rfl); obtain ⟨A27, n27, c27, B27, m27, d27, a27, ⟨xs27, hl27⟩, hu27⟩ := hp.dep 11 (by kernel_rfl); change Ac.eval (.tmp 27) = _ at a27; exact relPureX (.agg #[.int .u32 x.a, .int .i64 x.n, .int .i64 Y.has, .int .i64 Y.org, .slice A27 n27 c27, .int .u32 Y.hop, .int .u32 Y.med, .int .u32 Y.pref, .int .u32 Y.aas, .int .u32 Y.aid, .slice B27 m27 d27]) (fun ρ hρ h1 h2 h3 => by rw [hρ] at a21 a27; simp [go_sem, ↓IntWalk.iteOmega, *]) ⟨A27, n27, c27, B27, m27, d27, rfl, ⟨xs27, hl27⟩, hu27⟩
      · refine relStep_plain rfl ?_; intro Ac w5 hp; obtain ⟨A28, n28, c28, B28, m28, d28, a28, ⟨xs28, hl28⟩, hu28⟩ := hp.dep 12 (by kernel_rfl); change Ac.eval (.tmp 28) = _ at a28; obtain ⟨ρ, hρ, hc, hf, hgl⟩ := evalX Ac; rw [hρ] at a28; exact relVal hρ (.slice (some ⟨w5.heap.size, 0, none⟩) 1 1) (w5.alloc (.cells #[.int .u32 x.a, .int .i64 x.n, .int .i64 Y.has, .int .i64 Y.org, .slice A28 n28 c28, .int .u32 Y.hop, .int .u32 Y.med, .int .u32 Y.pref, .int .u32 Y.aas, .int .u32 Y.aid, .slice B28 m28 d28] 71)) (by simp [go_sem, hc, hf, hgl, ↓IntWalk.iteOmega, a28]) ⟨w5.heap.size, A28, n28, c28, B28, m28, d28, rfl, Blk.new w5 _ _, ⟨xs28, hl28.below (blkBelow1 w5 _)⟩, hu28.below (blkBelow1 w5 _)⟩ ((Below.refl _ _).alloc (Nat.le_refl _) _)
      intro u w8 hb7 hall; have e16 : u 0 = Value.slice A1 n1 c1 := relAll_at hall (i := 0) (by decide +kernel); obtain ⟨R29, A29, n29, c29, B29, m29, d29, e29, hR29, ⟨xs29, hl29⟩, hu29⟩ := relAll_at hall (i := 13) (by decide +kernel); change u 13 = _ at e29; clear hall; simp only [List.drop_succ_cons, List.drop_zero, List.take_succ_cons, List.take_zero, putAll, Act.put, List.setIfInBounds_toArray, List.set_cons_zero, List.set_cons_succ, Nat.zero_add, Nat.reduceAdd, e16, e29]; have hsw := hb7.size; have HLo8 := hide (HLo.out.below hb7); have HB8 := hide (HBe.out.trans (hb7.mono hs1)); refine wpList_append_any w8 rfl (.tmp 16) (.tmp 29) 51 rfl w.heap.size 71 i0 _ 11 104 Tryz.underlying51 hi hz0 hz1 hz2 rfl (by decide) (.slice A1 n1 c1) n1 xs rfl HLo8.out.1 w8.heap.size (some ⟨R29, 0, none⟩) 1 1 [.int .u32 x.a, .int .i64 x.n, .int .i64 Y.has, .int .i64 Y.org, .slice A29 n29 c29, .int .u32 Y.hop, .int .u32 Y.med, .int .u32 Y.pref, .int .u32 Y.aas, .int .u32 Y.aid, .slice B29 m29 d29] rfl (reads_blkN hR29 hR29.lt rfl rfl) (by simp [Value.oneCell']) (by unfold maxLen; omega) (by omega) (by omega) ?_; intro v2 w9 h2 h3 h4; obtain ⟨A4, c4, rfl, hlo4⟩ := LOw.push HLo8.out (chunk1_fr rfl (td_fr hl29 hu29 hs1 (fun k hk => own_block_lt HLo.out.1 k hk))) h2 h3 h4; have HL9 := hide hlo4; have HB9 := hide (HB8.out.grown h3 (by omega) (fun k hk => own_low_block HLo.out.1 k hk)); clear hlo4 h2 h3 h4 hb7 hR29 hl29 hu29 e16 e29; go_wp2
      go_roundw
      case rel => exact ⟨q + 1, A4, n1 + 1, c4, _, by omega, by omega, by go_num, rfl, by rw [HE.out]; exact HL9.out, HB9.out⟩
      case measure => simp [intOf]; omega
    · have HF : Hid (LOw 11 71 tdR wr w.heap.size w.heap.size A1 n1 c1 ((l.take 12).map cutTD) xs) := hide (by
        have e : l.take q = l.take 12 := by
          by_cases h12 : q = 12
          · rw [h12]
          · rw [List.take_of_length_le (by omega), List.take_of_length_le (by omega)]
        rw [e] at hlo; exact hlo)
      clear hlo hbel; by_cases hqn : q < n
      · have e1 : decide ((q : Int) < (n : Int)) = true := decide_eq_true (by omega); have e2 : decide ((q : Int) < 12) = false := decide_eq_false (by omega); clear hlt; go_wp2; go_ret; exact ⟨A1, n1, c1, xs, rfl, HF.out, HBe.out⟩
      · have e1 : decide ((q : Int) < (n : Int)) = false := decide_eq_false (by omega); clear hlt; go_wp2; go_ret; exact ⟨A1, n1, c1, xs, rfl, HF.out, HBe.out⟩
end Go.Proofs.YtcinjckajnnhmaaGreat
set_option linter.unusedSimpArgs false
set_option linter.unusedVariables false
namespace Go.Proofs.YtcinjckajnnhmaaGreat
open Go.RowKit Go.WideShapes Go.ChangeShapes
attribute [local go_sem] Oper.semAt_some
def pxR (w : World) (vs : List Value) (x : Nat × Nat) : Prop := vs = [.int .u32 (x.1 : Int), .int .i64 (x.2 : Int)]
theorem pxMono : SMono pxR := fun _ _ _ _ _ h => h
theorem pxC_chunks (w : World) : ∀ l : List (Nat × Nat), Chunks 2 pxR w (pxC l) l
 | [] => Chunks.nil_
 | x :: l => by
   have h : pxC (x :: l) = [.int .u32 (x.1 : Int), .int .i64 (x.2 : Int)] ++ pxC l := (by simp [pxC])
   rw [h]; exact Chunks.app_ (l := [x]) (Chunks.one_ rfl rfl) (pxC_chunks w l)
theorem own_pxs {w : World} {b n c : Nat} {A : Option Addr} {l : List (Nat × Nat)} (h : w.ownsRow b 24 2 (.slice A n c) n (pxC l)) : LstAt 2 pxR w A n c l := LstAt.of_own (by decide) h (pxC_chunks w l)
theorem PXat {w : World} {A : Option Addr} {n c q : Nat} {l : List (Nat × Nat)} (h : LstAt 2 pxR w A n c l) (hq : q < n) : ∃ g o a m, A = some ⟨g, o, none⟩ ∧ g < w.heap.size ∧ l[q]? = some (a, m) ∧ w.cell? ⟨g, o + q * 2, none⟩ = some (.int .u32 (a : Int)) ∧ w.cell? ⟨g, o + q * 2 + 1, none⟩ = some (.int .i64 (m : Int)) := by
 obtain ⟨h1, h2, h3, h4⟩ := h; obtain ⟨g, o, rfl, hg, hc⟩ := h4 (by omega); have hx : l[q]? = some l[q] := List.getElem?_eq_getElem (by omega); obtain ⟨vs, hl, rfl, hcs⟩ := hc q _ hx; exact ⟨g, o, _, _, rfl, hg, hx, hcs 0 _ rfl, hcs 1 _ rfl⟩
def atR (w : World) (vs : List Value) (x : AT) : Prop := AtR w x (.agg vs.toArray)
def tdN (z : Nat × Nat × AT) : TD := ⟨(z.1 : Int), (z.2.1 : Int), normA z.2.2⟩
def AtOk (x : AT) : Prop := numS x.path ≤ 10000 ∧ x.comms.length ≤ 10000
structure TrT (F : Nat → Prop) (w : World) (g : Nat) (t : Tr AT) : Prop where
  root : Blk w g 201 #[trPtr t]
  tree : TrA 9 205 F atR w t
  gF : ¬ F g
  gB : g ∉ trB t
  low : ∀ k, F k → k < w.heap.size
  ok : ∀ z ∈ trL t, AtOk z.2.2
  cnt : trCnt t ≤ 100000
theorem TrT.chg {F S : Nat → Prop} {w w' : World} {g : Nat} {t : Tr AT} (h : TrT F w g t) (hc : ChgS S w w') (hs : ∀ k ∈ trB t, ¬ S k) (hF : ∀ k, F k → ¬ S k) (hg : ¬ S g) : TrT F w' g t :=
 ⟨chg_blk hc h.root hg, h.tree.chg hc hs hF, h.gF, h.gB, fun k hk => Nat.lt_of_lt_of_le (h.low k hk) hc.size, h.ok, h.cnt⟩
theorem TrT.below {F : Nat → Prop} {w w' : World} {g : Nat} {t : Tr AT} (h : TrT F w g t) (hb : Below w.heap.size w w') : TrT F w' g t := h.chg (S := fun _ => False) (chg_below hb) (by simp) (by simp) (by simp)
set_option maxRecDepth 100000 in
set_option maxHeartbeats 8000000 in
theorem riblist_any (F : Nat → Prop) (g : Nat) (t : Tr AT) (w : World) (h : TrT F w g t) :
  Calls Tryz.prog 88 #[.pointer (some ⟨g, 0, none⟩)] w fun e w' => ∃ A' c' xs, e = .returned (.slice A' (trCnt t) c') ∧ LOw 11 71 tdR w' w.heap.size w.heap.size A' (trCnt t) c' ((trL t).map tdN) xs ∧ Below w.heap.size w w' := by
 obtain ⟨i0, hi, hz0, hz1, hz2⟩ := info_parts toldInfo; have HAl := hide (allA_any (R := atR) g t w h.root h.tree.mem h.low (Nat.le_trans h.cnt (by decide))); have hcn := h.cnt; have hkl : (keyL (trL t)).length = trCnt t := (by unfold keyL; rw [List.length_map, trL_len])
 have HT := hide h; obtain ⟨N, hN⟩ : ∃ N, trCnt t = N := ⟨_, rfl⟩
 rw [hN] at HAl hcn hkl ⊢; have HN := hide hN; clear h hN
 go_enter Tryz.func88, Tryz.ntmps88
 go_wp2_with fail
 refine HAl.out.mono ?_; rintro e w1 ⟨hb1, A, c, rfl, ho⟩; have HP := hide (own_pxs ho); have HB1 := hide hb1; have hNc : N ≤ c := (own_pxs ho).2.1; have hcm := (own_pxs ho).2.2.1; unfold maxLen at hcm; have HTw := hide (HT.out.below hb1); clear hb1 ho; go_wp2
 go_loopw [3, 11] (fun vo iv wr => ∃ (q : Nat) (A1 : Option Addr) (c1 : Nat) (xs : List Value), q ≤ N ∧ iv = .int .i64 (q : Nat) ∧ vo = .slice A1 q c1 ∧ LOw 11 71 tdR wr w1.heap.size w1.heap.size A1 q c1 (((trL t).take q).map tdN) xs ∧ Below w1.heap.size w1 wr) (fun _ iv _ => N - (intOf iv).toNat)
 case atStart => exact ⟨0, none, 0, [], Nat.zero_le _, rfl, rfl, by simpa using LOw.nil, Below.refl _ _⟩
 case round =>
  obtain ⟨q, A1, c1, xs, hq, rfl, rfl, hlo, hbel⟩ := hrel; have HLo := hide hlo; have HBe := hide hbel; have hs1 := hbel.size; by_cases hlt : q < N
  ·obtain ⟨g2, o, a, m, rfl, hg, hx, hc0, hc1⟩ := PXat (HP.out.below pxMono hbel) hlt
   have hz : ∃ X, (trL t)[q]? = some (a, m, X) := by
    unfold keyL at hx; rw [List.getElem?_map] at hx
    cases hz : (trL t)[q]? with
    | none => rw [hz] at hx; simp at hx
    | some z =>
     rw [hz] at hx; simp only [Option.map_some, Option.some.injEq, Prod.mk.injEq] at hx; exact ⟨z.2.2, by rw [← hx.1, ← hx.2]⟩
   obtain ⟨X, hz⟩ := hz; have hzm := List.mem_of_getElem? hz; have hgt := (trL_mem t HT.out.tree.wf).1 hzm; have HOk := hide (HT.out.ok _ hzm); have HPg := hide (trGet_pg t HT.out.tree.wf hgt); obtain ⟨Y, hY⟩ : ∃ Y, normA X = Y := ⟨_, rfl⟩
   have HE : Hid (((trL t).take (q + 1)).map tdN = ((trL t).take q).map tdN ++ [⟨(a : Int), (m : Int), Y⟩]) := hide (by rw [List.take_add_one, hz, ← hY]; simp [tdN]); have HY := hide hY; obtain ⟨w2, hw2⟩ : ∃ W, wr.alloc (.cells #[.int .u32 (a : Int), .int .i64 (m : Int)] 24) = W := ⟨_, rfl⟩
   have hb2 : Below wr.heap.size wr w2 := hw2 ▸ blkBelow1 wr _; have HX2 : Hid (Blk w2 wr.heap.size 24 #[.int .u32 (a : Int), .int .i64 (m : Int)]) := hide (hw2 ▸ Blk.new wr _ _); have HT2 := (HTw.out.below hbel).below hb2; have HGt := hide (getA_any (R := atR) g a m t w2 HPg.out HT2.root HT2.tree.mem HT2.tree.wf HT2.low); rw [hgt] at HGt; have HW2 := hide hw2; have HB2 := hide hb2; have q1 : (q : Int) < (N : Int) := (by omega)
   have q0 : (0 : Int) ≤ (q : Int) := (by omega)
   have hwq : IntKind.i64.wrap ((q : Int) + 1) = (q : Int) + 1 := (by rw [IntKind.wrap_i64]; omega)
   clear hlo hbel hx hz hzm hgt hY hw2 hb2 HT2
   go_wp2_with fail
   rw [HW2.out]; refine HGt.out.mono ?_; rintro e w3 ⟨hb3, v0, v1, v2, v3, v4, v5, v6, v7, v8, rfl, hfr⟩; obtain ⟨XA, xn, xc, XB, xm, xd, hv, hxr, hxu⟩ := frs_here hfr; simp only [Value.agg.injEq, Array.mk.injEq, List.cons.injEq, and_true] at hv; obtain ⟨rfl, rfl, rfl, rfl, rfl, rfl, rfl, rfl, rfl⟩ := hv; obtain ⟨w4, hw4⟩ : ∃ W, w3.alloc (.cells #[.int .i64 X.has, .int .i64 X.org, .slice XA xn xc, .int .u32 X.hop, .int .u32 X.med, .int .u32 X.pref, .int .u32 X.aas, .int .u32 X.aid, .slice XB xm xd] 28) = W := ⟨_, rfl⟩
   have hb4 : Below w3.heap.size w3 w4 := hw4 ▸ blkBelow1 w3 _; have HV4 : Hid (Blk w4 w3.heap.size 28 #[.int .i64 X.has, .int .i64 X.org, .slice XA xn xc, .int .u32 X.hop, .int .u32 X.med, .int .u32 X.pref, .int .u32 X.aas, .int .u32 X.aid, .slice XB xm xd]) := hide (hw4 ▸ Blk.new w3 _ _); have HX4 := hide ((HX2.out.below hb3 HX2.out.lt).below hb4 (HX2.out.below hb3 HX2.out.lt).lt); have HXr := hide (hxr.below sgMono hb4); have HXu := hide (hxu.below hb4); have HB4 := hide (HB2.out.trans ((hb3.trans (hb4.mono hb3.size)).mono HB2.out.size)); have HW4 := hide hw4; clear hb3 hfr hxr hxu hw4 hb4 hc0 hc1 HGt
   go_upto_region 6 with fail
   rw [HW4.out]; have Hmn := hide (show AllMono [(fun v _ => v = Value.slice A1 q c1), (fun v _ => v = .agg #[.int .u32 (a : Int), .int .i64 (m : Int)]), (fun v _ => v = atV X.has X.org XA xn xc X.hop X.med X.pref X.aas X.aid XB xm xd), (fun v W2 => ∃ A n c B m_ d, v = atV Y.has Y.org A n c Y.hop Y.med Y.pref Y.aas Y.aid B m_ d ∧ (∃ xs, LOw 2 133 sgR W2 w4.heap.size w4.heap.size A n c Y.path xs) ∧ FrB w4.heap.size none (fun w => U32s w B m_ d Y.comms) W2), (fun v W2 => ∃ A n c B m_ d, v = .agg #[.int .u32 (a : Int), .int .i64 (m : Int), .int .i64 Y.has, .int .i64 Y.org, .slice A n c, .int .u32 Y.hop, .int .u32 Y.med, .int .u32 Y.pref, .int .u32 Y.aas, .int .u32 Y.aid, .slice B m_ d] ∧ (∃ xs, LOw 2 133 sgR W2 w4.heap.size w4.heap.size A n c Y.path xs) ∧ FrB w4.heap.size none (fun w => U32s w B m_ d Y.comms) W2), (fun v W2 => ∃ R A n c B m_ d, v = .slice (some ⟨R, 0, none⟩) 1 1 ∧ Blk W2 R 71 #[.int .u32 (a : Int), .int .i64 (m : Int), .int .i64 Y.has, .int .i64 Y.org, .slice A n c, .int .u32 Y.hop, .int .u32 Y.med, .int .u32 Y.pref, .int .u32 Y.aas, .int .u32 Y.aid, .slice B m_ d] ∧ (∃ xs, LOw 2 133 sgR W2 w4.heap.size w4.heap.size A n c Y.path xs) ∧ FrB w4.heap.size none (fun w => U32s w B m_ d Y.comms) W2)] from ⟨fun _ _ _ _ h => h, fun _ _ _ _ h => h, fun _ _ _ _ h => h, fun v w2 w3 hb ⟨A, n, c, B, m_, d, e, ⟨xs, h1⟩, h2⟩ => ⟨A, n, c, B, m_, d, e, ⟨xs, h1.below hb⟩, h2.below hb⟩, fun v w2 w3 hb ⟨A, n, c, B, m_, d, e, ⟨xs, h1⟩, h2⟩ => ⟨A, n, c, B, m_, d, e, ⟨xs, h1.below hb⟩, h2.below hb⟩, fun v w2 w3 hb ⟨R, A, n, c, B, m_, d, e, hk, ⟨xs, h1⟩, h2⟩ => ⟨R, A, n, c, B, m_, d, e, hk.below hb hk.lt, ⟨xs, h1.below hb⟩, h2.below hb⟩, trivial⟩); refine wp_region_relT 6 _ (by kernel_rfl) (by kernel_rfl) (by kernel_rfl) (by kernel_rfl) (by kernel_rfl) (relMono _ Hmn.out) ⟨?_, ?_, ?_, ?_, ?_, ?_, trivial⟩ ?_
   ·refine relStep_plain rfl ?_; intro Ac w5 hp; have a3 : Ac.eval (.tmp 3) = Value.slice A1 q c1 := hp.out 3 (by rfl); exact relPureX (Value.slice A1 q c1) (fun ρ hρ h1 h2 h3 => by rw [hρ] at a3; simp [go_sem, ↓IntWalk.iteOmega, *]) rfl
   ·refine relStep_plain rfl ?_; intro Ac w5 hp; have hb := hp.bel; have a5 : Ac.eval (.tmp 5) = .pointer (some ⟨wr.heap.size, 0, none⟩) := hp.out 5 (by rfl); have hx5 := HX4.out.below hb HX4.out.lt; have z0 : w5.cell? ⟨wr.heap.size, 0, none⟩ = some (.int .u32 (a : Int)) := hx5.cell 0; have z1 : w5.cell? ⟨wr.heap.size, 1, none⟩ = some (.int .i64 (m : Int)) := hx5.cell 1; exact relPureX (.agg #[.int .u32 (a : Int), .int .i64 (m : Int)]) (fun ρ hρ h1 h2 h3 => by rw [hρ] at a5; simp [go_sem, ↓IntWalk.iteOmega, *]) rfl
   ·refine relStep_plain rfl ?_; intro Ac w5 hp; have hb := hp.bel; have a6 : Ac.eval (.tmp 6) = .pointer (some ⟨w3.heap.size, 0, none⟩) := hp.out 6 (by rfl); have hv5 := HV4.out.below hb HV4.out.lt; have z2 : w5.cell? ⟨w3.heap.size, 0, none⟩ = some (.int .i64 X.has) := hv5.cell 0; have z3 : w5.cell? ⟨w3.heap.size, 1, none⟩ = some (.int .i64 X.org) := hv5.cell 1; have z4 : w5.cell? ⟨w3.heap.size, 2, none⟩ = some (.slice XA xn xc) := hv5.cell 2; have z5 : w5.cell? ⟨w3.heap.size, 3, none⟩ = some (.int .u32 X.hop) := hv5.cell 3; have z6 : w5.cell? ⟨w3.heap.size, 4, none⟩ = some (.int .u32 X.med) := hv5.cell 4; have z7 : w5.cell? ⟨w3.heap.size, 5, none⟩ = some (.int .u32 X.pref) := hv5.cell 5; have z8 : w5.cell? ⟨w3.heap.size, 6, none⟩ = some (.int .u32 X.aas) := hv5.cell 6; have z9 : w5.cell? ⟨w3.heap.size, 7, none⟩ = some (.int .u32 X.aid) := hv5.cell 7; have z10 : w5.cell? ⟨w3.heap.size, 8, none⟩ = some (.slice XB xm xd) := hv5.cell 8; exact relPureX (atV X.has X.org XA xn xc X.hop X.med X.pref X.aas X.aid XB xm xd) (fun ρ hρ h1 h2 h3 => by rw [hρ] at a6; simp [go_sem, ↓IntWalk.iteOmega, *]) rfl
   ·refine relStep_plain rfl ?_; intro Ac w5 hp; have hb := hp.bel; have a23 : Ac.eval (.tmp 23) = atV X.has X.org XA xn xc X.hop X.med X.pref X.aas X.aid XB xm xd := hp.dep 2 (by kernel_rfl); obtain ⟨ρ, hρ, hc, hf, hgl⟩ := evalX Ac; rw [hρ] at a23; refine relCall hρ 68 #[atV X.has X.org XA xn xc X.hop X.med X.pref X.aas X.aid XB xm xd] (by simp [go_sem, ↓IntWalk.iteOmega, *]) ?_; refine (attrNormX_any X (atV X.has X.org XA xn xc X.hop X.med X.pref X.aas X.aid XB xm xd) w5 ⟨XA, xn, xc, XB, xm, xd, rfl, HXr.out.below sgMono hb, HXu.out.below hb⟩ HOk.out.1 HOk.out.2).mono ?_; rintro e w6 ⟨v6, rfl, ⟨A6, n6, c6, xs6, B6, m6, d6, rfl, hl6, hu6⟩, hb6⟩; rw [HY.out] at hl6 hu6 ⊢; exact ⟨_, rfl, ⟨A6, n6, c6, B6, m6, d6, rfl, ⟨xs6, hl6.less hb.size hb.size⟩, hu6.less hb.size⟩, hb6⟩
   ·refine relStep_plain rfl ?_; intro Ac w5 hp; have a22 : Ac.eval (.tmp 22) = .agg #[.int .u32 (a : Int), .int .i64 (m : Int)] := hp.dep 1 (by kernel_rfl); obtain ⟨A24, n24, c24, B24, m24, d24, a24, ⟨xs24, hl24⟩, hu24⟩ := hp.dep 3 (by kernel_rfl); change Ac.eval (.tmp 24) = _ at a24; exact relPureX (.agg #[.int .u32 (a : Int), .int .i64 (m : Int), .int .i64 Y.has, .int .i64 Y.org, .slice A24 n24 c24, .int .u32 Y.hop, .int .u32 Y.med, .int .u32 Y.pref, .int .u32 Y.aas, .int .u32 Y.aid, .slice B24 m24 d24]) (fun ρ hρ h1 h2 h3 => by rw [hρ] at a22 a24; simp [go_sem, ↓IntWalk.iteOmega, *]) ⟨A24, n24, c24, B24, m24, d24, rfl, ⟨xs24, hl24⟩, hu24⟩
   ·refine relStep_plain rfl ?_; intro Ac w5 hp; obtain ⟨A25, n25, c25, B25, m25, d25, a25, ⟨xs25, hl25⟩, hu25⟩ := hp.dep 4 (by kernel_rfl); change Ac.eval (.tmp 25) = _ at a25; obtain ⟨ρ, hρ, hc, hf, hgl⟩ := evalX Ac; rw [hρ] at a25; exact relVal hρ (.slice (some ⟨w5.heap.size, 0, none⟩) 1 1) (w5.alloc (.cells #[.int .u32 (a : Int), .int .i64 (m : Int), .int .i64 Y.has, .int .i64 Y.org, .slice A25 n25 c25, .int .u32 Y.hop, .int .u32 Y.med, .int .u32 Y.pref, .int .u32 Y.aas, .int .u32 Y.aid, .slice B25 m25 d25] 71)) (by simp [go_sem, hc, hf, hgl, ↓IntWalk.iteOmega, a25]) ⟨w5.heap.size, A25, n25, c25, B25, m25, d25, rfl, Blk.new w5 _ _, ⟨xs25, hl25.below (blkBelow1 w5 _)⟩, hu25.below (blkBelow1 w5 _)⟩ ((Below.refl _ _).alloc (Nat.le_refl _) _)
   intro u w8 hb7 hall; have e21 : u 0 = Value.slice A1 q c1 := relAll_at hall (i := 0) (by decide +kernel); obtain ⟨R26, A26, n26, c26, B26, m26, d26, e26, hR26, ⟨xs26, hl26⟩, hu26⟩ := relAll_at hall (i := 5) (by decide +kernel); change u 5 = _ at e26; clear hall; simp only [List.drop_succ_cons, List.drop_zero, List.take_succ_cons, List.take_zero, putAll, Act.put, List.setIfInBounds_toArray, List.set_cons_zero, List.set_cons_succ, Nat.zero_add, Nat.reduceAdd, e21, e26]; have hsw := hb7.size; have HLo8 := hide ((HLo.out.below HB4.out).below hb7); have HB8 := hide (HBe.out.trans ((HB4.out.trans (hb7.mono HB4.out.size)).mono hs1)); have hs4 := HB4.out.size; refine wpList_append_any w8 rfl (.tmp 21) (.tmp 26) 51 rfl w1.heap.size 71 i0 _ 11 104 Tryz.underlying51 hi hz0 hz1 hz2 rfl (by decide) (.slice A1 q c1) q xs rfl HLo8.out.1 w8.heap.size (some ⟨R26, 0, none⟩) 1 1 [.int .u32 (a : Int), .int .i64 (m : Int), .int .i64 Y.has, .int .i64 Y.org, .slice A26 n26 c26, .int .u32 Y.hop, .int .u32 Y.med, .int .u32 Y.pref, .int .u32 Y.aas, .int .u32 Y.aid, .slice B26 m26 d26] rfl (reads_blkN hR26 hR26.lt rfl rfl) (by simp [Value.oneCell']) (by unfold maxLen; omega) (by omega) (by omega) ?_; intro v2 w9 h2 h3 h4; obtain ⟨A4, c4, rfl, hlo4⟩ := LOw.push HLo8.out (chunk1_fr rfl (td_fr hl26 hu26 (Nat.le_trans hs1 hs4) (fun k hk => Nat.lt_of_lt_of_le (own_block_lt HLo.out.1 k hk) hs4))) h2 h3 h4; have HL9 := hide hlo4; have HB9 := hide (HB8.out.grown h3 (by omega) (fun k hk => own_low_block HLo.out.1 k hk)); clear hlo4 h2 h3 h4 hb7 hR26 hl26 hu26 e21 e26; go_wp2
   go_roundw
   case rel => exact ⟨q + 1, A4, c4, _, by omega, by go_num, rfl, by rw [HE.out]; exact HL9.out, HB9.out⟩
   case measure => simp [intOf]; omega
  ·obtain rfl : q = N := (by omega)
   have e1 : decide ((q : Int) < (q : Int)) = false := (by simp)
   have hall : (trL t).take q = trL t := List.take_of_length_le (by rw [trL_len, HN.out]; exact Nat.le_refl _); rw [hall] at hlo; have HLf := hide hlo; clear hlo hbel hlt HLo hall; go_wp2; go_ret; exact ⟨A1, c1, xs, rfl, HLf.out.less HB1.out.size HB1.out.size, HB1.out.trans (HBe.out.mono HB1.out.size)⟩
end Go.Proofs.YtcinjckajnnhmaaGreat
set_option linter.unusedSimpArgs false
set_option linter.unusedVariables false
namespace Go.Proofs.YtcinjckajnnhmaaGreat
open Go.RowKit Go.WideShapes Go.ChangeShapes
attribute [local go_sem] Oper.semAt_some
theorem lo_at {α : Type} {sz : Nat} {t : TypeId} {R : World → List Value → α → Prop} {w : World} {B B' n c q : Nat} {A : Option Addr} {l : List α} {xs : List Value} (hsz : 0 < sz) (h : LOw sz t R w B B' A n c l xs) (hq : q < n) :
  ∃ g x vs, A = some ⟨g, 0, none⟩ ∧ g < w.heap.size ∧ B ≤ g ∧ l[q]? = some x ∧ vs.length = sz ∧ FrB B' (Value.slice A n c).ownBlock (fun w => R w vs x) w ∧ ∀ (j : Nat) (v : Value), vs[j]? = some v → w.cell? ⟨g, q * sz + j, none⟩ = some v := by
 have hln : l.length = n := (h.lst hsz).1; obtain ⟨⟨h1, h2⟩, h3, h4⟩ := h; rcases h2 with ⟨_, rfl⟩ | ⟨g, cap, cur, e1, e2, e3, e4, e5, e6, e7⟩
 ·omega
 injection e1 with e1 _ _
 subst e1; have hx : l[q]? = some l[q] := List.getElem?_eq_getElem (by omega); have hle : (q + 1) * sz ≤ n * sz := Nat.mul_le_mul_right _ (by omega); rw [Nat.add_mul, Nat.one_mul] at hle; have hxl : xs.length = n * sz := (by rw [h3, hln])
 refine ⟨g, _, (xs.drop (q * sz)).take sz, rfl, (Array.getElem?_eq_some_iff.1 e3).1, e2, hx, by rw [List.length_take, List.length_drop]; omega, h4 q _ hx, fun j v hj => ?_⟩
 have hjs : j < sz := by
  have := (List.getElem?_eq_some_iff.1 hj).1; rw [List.length_take] at this; omega
 rw [List.getElem?_take, if_pos hjs, List.getElem?_drop, ← e7, List.getElem?_take, if_pos (by omega)] at hj; rw [cell_of_row w g (q * sz + j) cur t (0, 0) e3]; simpa using hj
theorem frb_switch {B : Nat} {ob ob2 : Option Nat} {R : World → Prop} {w w' : World} (h : FrB B ob R w) (hb : Below w.heap.size w w') (hob : ∀ k, ob2 = some k → w.heap.size ≤ k) : FrB B ob2 R w' := fun w2 h2 =>
 h w2 ⟨Nat.le_trans hb.size h2.1, fun k o h0 h1 hc h3 => h2.2 k o h0 ((hb.block k (heap_lt h1)).trans h1) hc (fun e => by have := hob k e.symm; have := heap_lt h1; omega)⟩
end Go.Proofs.YtcinjckajnnhmaaGreat
set_option linter.unusedSimpArgs false
set_option linter.unusedVariables false
namespace Go.Proofs.YtcinjckajnnhmaaGreat
open Go.RowKit Go.WideShapes Go.ChangeShapes
attribute [local go_sem] Oper.semAt_some
set_option maxRecDepth 100000 in
set_option maxHeartbeats 8000000 in
theorem same1_any (b b2 : Int) (B1 B2 : Option Addr) (m1 d1 m2 d2 : Nat) (r r2 : List Nat) (w : World) (h1 : U32s w B1 m1 d1 r) (h2 : U32s w B2 m2 d2 r2) :
  Calls Tryz.prog 309 #[.agg #[.int .i64 b, .slice B1 m1 d1], .agg #[.int .i64 b2, .slice B2 m2 d2]] w fun e w' => ∃ q : Bool, e = .returned (.bool q) ∧ (q = true ↔ (b = b2 ∧ r = r2)) ∧ Below w.heap.size w w' := by
 have hb : Below w.heap.size w ((w.alloc (.cells #[.int .i64 b, .slice B1 m1 d1] 133)).alloc (.cells #[.int .i64 b2, .slice B2 m2 d2] 133)) := ((Below.refl _ w).alloc (Nat.le_refl _) _).alloc (by simp) _; have HEq := hide (slEqual_any B1 m1 d1 r B2 m2 d2 r2 _ (h1.below hb) (h2.below hb)); have HB := hide hb; clear h1 h2 hb; by_cases hbb : b = b2
 ·subst hbb; obtain ⟨q, hq⟩ : ∃ q, decide (r = r2) = q := ⟨_, rfl⟩
  rw [hq] at HEq; have HQ := hide hq; clear hq
  go_enter Tryz.func309, Tryz.ntmps309
  go_wp2_with fail
  refine HEq.out.mono ?_; rintro e w3 ⟨rfl, hb3⟩; have HB3 := hide (HB.out.trans (hb3.mono HB.out.size)); clear hb3; go_wp2; go_ret; exact ⟨q, rfl, by rw [← HQ.out]; simp, HB3.out⟩
 ·have hd : decide (b = b2) = false := decide_eq_false hbb; have HN := hide hbb; clear hbb
  go_enter Tryz.func309, Tryz.ntmps309
  go_wp2; go_ret; exact ⟨false, rfl, by simp [HN.out], HB.out⟩
set_option maxRecDepth 100000 in
set_option maxHeartbeats 8000000 in
theorem eqf_any (A B : Option Addr) (n c m d : Nat) (l l' : List SG) (w : World) (h : LstAt 2 sgR w A n c l) (h' : LstAt 2 sgR w B m d l') (hn2 : n ≤ 100000) (hm2 : m ≤ 100000) :
    Calls Tryz.prog 308 #[.slice A n c, .slice B m d, .func (.func 309) #[] #[]] w fun e w' => ∃ q : Bool, e = .returned (.bool q) ∧ (q = true ↔ l = l') ∧ Below w.heap.size w w' := by
  have hnc := h.2.1; have hmx := h.2.2.1; have hnd := h'.2.1; have hmx2 := h'.2.2.1; unfold maxLen at hmx hmx2; have HL1 := hide h; have HL2 := hide h'; clear h h'; by_cases hnm : n = m
  · subst hnm
    go_enter Tryz.func308, Tryz.ntmps308
    go_wp2
    go_loopw [17] (fun iv wr => ∃ i : Nat, i ≤ n ∧ iv = .int .i64 (i : Nat) ∧ l.take i = l'.take i ∧ Below w.heap.size w wr) (fun iv _ => n - (intOf iv).toNat)
    case atStart => exact ⟨0, Nat.zero_le _, rfl, by simp, Below.refl _ _⟩
    case round =>
      obtain ⟨i, hi, rfl, htk, hbel⟩ := hrel; have HBe := hide hbel; have HTk := hide htk; have hs1 := hbel.size; clear htk; by_cases hlt : i < n
      · obtain ⟨g, o, b, B1, m1, d1, r, rfl, hg, hx, hr1, hz0, hz1⟩ := SGat (HL1.out.below sgMono hbel) hlt; obtain ⟨g2, o2, b2, B2, m2, d2, r2, rfl, hg2, hx2, hr2, hy0, hy1⟩ := SGat (HL2.out.below sgMono hbel) hlt; have HX := hide hx; have HX2 := hide hx2; have hb2 : Below wr.heap.size wr ((wr.alloc (.cells #[.int .i64 b, .slice B1 m1 d1] 133)).alloc (.cells #[.int .i64 b2, .slice B2 m2 d2] 133)) := ((Below.refl _ wr).alloc (Nat.le_refl _) _).alloc (by simp) _; have HB2 := hide (HBe.out.trans (hb2.mono hs1)); have HSa := hide (same1_any b b2 B1 B2 m1 d1 m2 d2 r r2 _ (hr1.below hb2) (hr2.below hb2)); have i1 : (i : Int) < (n : Int) := (by omega)
        have i0 : (0 : Int) ≤ (i : Int) := (by omega)
        have hwi : IntKind.i64.wrap ((i : Int) + 1) = (i : Int) + 1 := (by rw [IntKind.wrap_i64]; omega)
        clear hbel hx hx2 hr1 hr2 hb2
        go_wp2_with fail
        refine HSa.out.mono ?_; rintro e w3 ⟨q, rfl, hq, hb3⟩; have HB3 := hide (HB2.out.trans (hb3.mono HB2.out.size)); have HQ := hide hq; clear hb3 hz0 hz1 hy0 hy1 hq
        cases q with
        | true =>
          have HTk2 : Hid (l.take (i + 1) = l'.take (i + 1)) := hide (by
            obtain ⟨e1, e2⟩ := HQ.out.1 rfl; rw [List.take_add_one, List.take_add_one, HTk.out, HX.out, HX2.out, e1, e2])
          go_wp2
          go_roundw
          case rel => exact ⟨i + 1, by omega, by go_num, HTk2.out, HB3.out⟩
          case measure => simp [intOf]; omega
        | false =>
          have HNe : Hid (l ≠ l') := hide (by
            rintro rfl; have h1 := HX.out; rw [HX2.out] at h1; simp only [Option.some.injEq, SG.mk.injEq] at h1; exact absurd (HQ.out.2 ⟨h1.1.symm, h1.2.symm⟩) (by simp))
          go_wp2; go_ret; exact ⟨false, rfl, by simp [HNe.out], HB3.out⟩
      · obtain rfl : i = n := (by omega)
        have e1 : decide ((i : Int) < (i : Int)) = false := (by simp)
        have HEq : Hid (l = l') := hide (by
          have h1 := HTk.out
          rwa [List.take_of_length_le (by rw [HL1.out.1]; exact Nat.le_refl _), List.take_of_length_le (by rw [HL2.out.1]; exact Nat.le_refl _)] at h1)
        clear hbel hlt; go_wp2; go_ret; exact ⟨true, rfl, by simp [HEq.out], HBe.out⟩
  · have hd : ((n : Int) != (m : Int)) = true := (by rw [bne_iff_ne]; omega)
    have HNe : Hid (l ≠ l') := hide (by rintro rfl; exact hnm (HL1.out.1.symm.trans HL2.out.1)); clear hnm
    go_enter Tryz.func308, Tryz.ntmps308
    go_wp2; go_ret; exact ⟨false, rfl, by simp [HNe.out], Below.refl _ _⟩
set_option maxRecDepth 100000 in
theorem psameC_any (A B : Option Addr) (n c m d : Nat) (l l' : List SG) (w : World) (h : LstAt 2 sgR w A n c l) (h' : LstAt 2 sgR w B m d l') (hn2 : n ≤ 100000) (hm2 : m ≤ 100000) :
  Calls Tryz.prog 277 #[.slice A n c, .slice B m d] w fun e w' => ∃ q : Bool, e = .returned (.bool q) ∧ (q = true ↔ l = l') ∧ Below w.heap.size w w' := by
 have H := hide (eqf_any A B n c m d l l' w h h' hn2 hm2); clear h h'
 go_enter Tryz.func277, Tryz.ntmps277
 go_wp2_with fail
 refine H.out.mono ?_; rintro e w3 ⟨q, rfl, hq, hb3⟩; have HB3 := hide hb3; have HQ := hide hq; clear hb3 hq; go_wp2; go_ret; exact ⟨q, rfl, HQ.out, HB3.out⟩
set_option maxRecDepth 100000 in
theorem pathSame_any (A B : Option Addr) (n c m d : Nat) (l l' : List SG) (w : World) (h : LstAt 2 sgR w A n c l) (h' : LstAt 2 sgR w B m d l') (hn2 : n ≤ 100000) (hm2 : m ≤ 100000) :
  Calls Tryz.prog 236 #[.slice A n c, .slice B m d] w fun e w' => ∃ q : Bool, e = .returned (.bool q) ∧ (q = true ↔ l = l') ∧ Below w.heap.size w w' := by
 have H := hide (psameC_any A B n c m d l l' w h h' hn2 hm2); clear h h'
 go_enter Tryz.func236, Tryz.ntmps236
 go_wp2_with fail
 refine H.out.mono ?_; rintro e w3 ⟨q, rfl, hq, hb3⟩; have HB3 := hide hb3; have HQ := hide hq; clear hb3 hq; go_wp2; go_ret; exact ⟨q, rfl, HQ.out, HB3.out⟩
def nuA (x : AT) : List Int := [x.has, x.org, x.hop, x.med, x.pref, x.aas, x.aid]
theorem at_ext {x y : AT} (h : nuA x = nuA y) (hp : x.path = y.path) (hc : x.comms = y.comms) : x = y := by
 cases x; cases y
 simp only [nuA, List.cons.injEq, and_true] at h; simp only at hp hc; obtain ⟨h1, h2, h3, h4, h5, h6, h7⟩ := h; subst h1 h2 h3 h4 h5 h6 h7 hp hc
 rfl
set_option maxRecDepth 100000 in
set_option maxHeartbeats 8000000 in
theorem attrsame_any (X Y : AT) (v v' : Value) (w : World) (hv : AtR w X v) (hv' : AtR w Y v') (hn : X.path.length ≤ 100000) (hm : Y.path.length ≤ 100000) : Calls Tryz.prog 190 #[v, v'] w fun e w' => ∃ q : Bool, e = .returned (.bool q) ∧ (q = true ↔ X = Y) ∧ Below w.heap.size w w' := by
 obtain ⟨A, n, c, B, m, d, rfl, hP, hC⟩ := hv; obtain ⟨A2, n2, c2, B2, m2, d2, rfl, hP2, hC2⟩ := hv'; obtain ⟨w1, hw1⟩ : ∃ w1, (w.alloc (.cells (atC X.has X.org A n c X.hop X.med X.pref X.aas X.aid B m d) 28)).alloc (.cells (atC Y.has Y.org A2 n2 c2 Y.hop Y.med Y.pref Y.aas Y.aid B2 m2 d2) 28) = w1 := ⟨_, rfl⟩
 have hb1 : Below w.heap.size w w1 := hw1 ▸ blkBelow2 w _ _; have HK1 : Hid (Blk w1 w.heap.size 28 (atC X.has X.org A n c X.hop X.med X.pref X.aas X.aid B m d)) := hide (hw1 ▸ (Blk.new w _ _).alloc _); have HK2 : Hid (Blk w1 (w.heap.size + 1) 28 (atC Y.has Y.org A2 n2 c2 Y.hop Y.med Y.pref Y.aas Y.aid B2 m2 d2)) := hide (hw1 ▸ blk_new' _ _ (by simp)); have HPs := hide (pathSame_any A A2 n c n2 c2 X.path Y.path w1 (hP.below sgMono hb1) (hP2.below sgMono hb1) (by rw [← hP.1]; exact hn) (by rw [← hP2.1]; exact hm)); have HU := hide (fun W (hb : Below w.heap.size w W) => hC.below hb); have HU2 := hide (fun W (hb : Below w.heap.size w W) => hC2.below hb); have HB1 := hide hb1; have HW1 := hide hw1; clear hw1 hb1 hP hP2 hC hC2 hn hm; have hcase : nuA X = nuA Y ∨ nuA X ≠ nuA Y := Decidable.em _; rcases hcase with hq | hq
 ·have HQ := hide hq; simp only [nuA, List.cons.injEq, and_true] at hq; obtain ⟨h1, h2, h3, h4, h5, h6, h7⟩ := hq; rw [h1, h2, h3, h4, h5, h6, h7] at HK1 HW1; rw [h1, h2, h3, h4, h5, h6, h7]; clear h1 h2 h3 h4 h5 h6 h7; obtain ⟨a0, a1, a2, a3, a4, a5, a6, a7, a8⟩ := blk9 HK1.out; obtain ⟨b0, b1, b2, b3, b4, b5, b6, b7, b8⟩ := blk9 HK2.out
  go_enter Tryz.func190, Tryz.ntmps190
  go_wp2_with fail
  rw [HW1.out]; refine HPs.out.mono ?_; rintro e w2 ⟨q, rfl, hq, hb⟩; have HB2 := hide (HB1.out.trans (hb.mono HB1.out.size)); have HK1 := hide (HK1.out.below hb HK1.out.lt); have HK2 := hide (HK2.out.below hb HK2.out.lt); have HSa := hide (slEqual_any B m d X.comms B2 m2 d2 Y.comms w2 (HU.out w2 HB2.out) (HU2.out w2 HB2.out)); have HPq := hide hq; clear hb hq a0 a1 a2 a3 a4 a5 a6 a7 a8 b0 b1 b2 b3 b4 b5 b6 b7 b8
  cases q with
  | false =>
   go_wp2; go_ret; exact ⟨false, rfl, ⟨fun h => (by cases h), fun h => absurd (HPq.out.2 (by rw [h])) (by simp)⟩, HB2.out⟩
  | true =>
   obtain ⟨a0, a1, a2, a3, a4, a5, a6, a7, a8⟩ := blk9 HK1.out; obtain ⟨b0, b1, b2, b3, b4, b5, b6, b7, b8⟩ := blk9 HK2.out; obtain ⟨q2, hq2⟩ : ∃ q, decide (X.comms = Y.comms) = q := ⟨_, rfl⟩
   rw [hq2] at HSa; have HQ2 := hide hq2; clear hq2
   go_wp2_with fail
   refine HSa.out.mono ?_; rintro e w3 ⟨rfl, hb⟩; have HB3 := hide (HB2.out.trans (hb.mono HB2.out.size)); clear hb a0 a1 a2 a3 a4 a5 a6 a7 a8 b0 b1 b2 b3 b4 b5 b6 b7 b8; go_wp2; go_ret; refine ⟨q2, rfl, ?_, HB3.out⟩; rw [← HQ2.out, decide_eq_true_iff]; exact ⟨fun h => at_ext HQ.out (HPq.out.1 (by simp)) h, fun h => by rw [h]⟩
 ·have HQ := hide hq; clear hq; obtain ⟨a0, a1, a2, a3, a4, a5, a6, a7, a8⟩ := blk9 HK1.out; obtain ⟨b0, b1, b2, b3, b4, b5, b6, b7, b8⟩ := blk9 HK2.out
  go_enter Tryz.func190, Tryz.ntmps190
  go_upto_region 1 with fail
  rw [HW1.out]; go_wp2
  all_goals first
   | (exfalso; refine HQ.out ?_; simp only [nuA, *]; done)
   | (go_ret; exact ⟨false, rfl, ⟨fun h => (by cases h), fun h => absurd (congrArg nuA h) HQ.out⟩, HB1.out⟩)
set_option maxRecDepth 100000 in
theorem attrSame_any (X Y : AT) (v v' : Value) (w : World) (hv : AtR w X v) (hv' : AtR w Y v') (hn : X.path.length ≤ 100000) (hm : Y.path.length ≤ 100000) : Calls Tryz.prog 146 #[v, v'] w fun e w' => ∃ q : Bool, e = .returned (.bool q) ∧ (q = true ↔ X = Y) ∧ Below w.heap.size w w' := by
 obtain ⟨A, n, c, B, m, d, rfl, hP, hC⟩ := hv; obtain ⟨A2, n2, c2, B2, m2, d2, rfl, hP2, hC2⟩ := hv'; obtain ⟨w1, hw1⟩ : ∃ w1, (w.alloc (.cells (atC X.has X.org A n c X.hop X.med X.pref X.aas X.aid B m d) 28)).alloc (.cells (atC Y.has Y.org A2 n2 c2 Y.hop Y.med Y.pref Y.aas Y.aid B2 m2 d2) 28) = w1 := ⟨_, rfl⟩
 have hb1 : Below w.heap.size w w1 := hw1 ▸ blkBelow2 w _ _; have H := hide (attrsame_any X Y (atV X.has X.org A n c X.hop X.med X.pref X.aas X.aid B m d) (atV Y.has Y.org A2 n2 c2 Y.hop Y.med Y.pref Y.aas Y.aid B2 m2 d2) w1 ⟨A, n, c, B, m, d, rfl, hP.below sgMono hb1, hC.below hb1⟩ ⟨A2, n2, c2, B2, m2, d2, rfl, hP2.below sgMono hb1, hC2.below hb1⟩ hn hm); have HB1 := hide hb1; have HW1 := hide hw1; clear hw1 hb1 hP hP2 hC hC2 hn hm
 go_enter Tryz.func146, Tryz.ntmps146
 go_wp2_with fail
 rw [HW1.out]; refine H.out.mono ?_; rintro e w3 ⟨q, rfl, hq, hb3⟩; have HB3 := hide (HB1.out.trans (hb3.mono HB1.out.size)); have HQ := hide hq; clear hb3 hq; go_wp2; go_ret; exact ⟨q, rfl, HQ.out, HB3.out⟩
end Go.Proofs.YtcinjckajnnhmaaGreat
set_option linter.unusedSimpArgs false
set_option linter.unusedVariables false
namespace Go.Proofs.YtcinjckajnnhmaaGreat
open Go.RowKit Go.WideShapes Go.ChangeShapes
attribute [local go_sem] Oper.semAt_some
def eqA (x y : AT) : Bool := decide (nuA x = nuA y) && decide (x.path.map (fun s => (s.k, s.r)) = y.path.map (fun s => (s.k, s.r))) && decide (x.comms = y.comms)
theorem sg_map : ∀ l r : List SG, l.map (fun s => (s.k, s.r)) = r.map (fun s => (s.k, s.r)) → l = r
 | [], [], _ => rfl
 | [], _ :: _, h => by simp at h
 | _ :: _, [], h => by simp at h
 | x :: l, y :: r, h => by
  simp only [List.map_cons, List.cons.injEq, Prod.mk.injEq] at h; obtain ⟨⟨h1, h2⟩, h3⟩ := h; rw [sg_map l r h3]
  cases x; cases y
  simp only at h1 h2; subst h1 h2
  rfl
theorem eqA_iff (x y : AT) : eqA x y = true ↔ x = y := by
 unfold eqA; simp only [Bool.and_eq_true, decide_eq_true_eq]; exact ⟨fun ⟨⟨h1, h2⟩, h3⟩ => at_ext h1 (sg_map _ _ h2) h3, fun h => by subst h; exact ⟨⟨rfl, rfl⟩, rfl⟩⟩
def lackG (o : Tr AT) (z : Nat × Nat × AT) : Bool := match trGet z.1 z.2.1 o with | none => true | some Y => !(eqA Y (normA z.2.2))
set_option maxRecDepth 100000 in
set_option maxHeartbeats 8000000 in
theorem lacksG_any (F F2 : Nat → Prop) (g g2 : Nat) (t o : Tr AT) (w : World) (h : TrT F w g t) (h2 : TrT F2 w g2 o) (hpl : ∀ z ∈ trL t, (normA z.2.2).path.length ≤ 100000) (hpo : ∀ z ∈ trL o, z.2.2.path.length ≤ 100000) :
  Calls Tryz.prog 84 #[.pointer (some ⟨g, 0, none⟩), .pointer (some ⟨g2, 0, none⟩)] w fun e w' => ∃ A' n' c' xs, e = .returned (.slice A' n' c') ∧ LOw 11 71 tdR w' w.heap.size w.heap.size A' n' c' (((trL t).filter (lackG o)).map tdN) xs ∧ Below w.heap.size w w' ∧ (n' = 0 → A' = none ∧ c' = 0) := by
 obtain ⟨i0, hi, hz0, hz1, hz2⟩ := info_parts toldInfo; have HAl := hide (riblist_any F g t w h); have hcn := h.cnt; have HWf := hide h.tree.wf; have HT2 := hide h2; have HPo2 := hide hpo; have HPl := hide hpl; obtain ⟨N, hN⟩ : ∃ N, trCnt t = N := ⟨_, rfl⟩
 rw [hN] at HAl hcn; have HN := hide hN; clear h h2 hpl hpo hN
 go_enter Tryz.func84, Tryz.ntmps84
 go_wp2_with fail
 refine HAl.out.mono ?_; rintro e w1 ⟨A, c, ys, rfl, hl1, hb1⟩; have HL1 := hide hl1; have HB1 := hide hb1; have hNc : N ≤ c := (hl1.lst (by decide)).2.1; have hcm := (hl1.lst (by decide)).2.2.1; unfold maxLen at hcm; have HTw := hide (HT2.out.below hb1); clear hb1 hl1; go_wp2
 go_loopw [5, 13] (fun vo iv wr => ∃ (q n1 : Nat) (A1 : Option Addr) (c1 : Nat) (xs : List Value), q ≤ N ∧ n1 ≤ q ∧ (n1 = 0 → A1 = none ∧ c1 = 0) ∧ iv = .int .i64 (q : Nat) ∧ vo = .slice A1 n1 c1 ∧ LOw 11 71 tdR wr w1.heap.size w.heap.size A1 n1 c1 ((((trL t).take q).filter (lackG o)).map tdN) xs ∧ Below w1.heap.size w1 wr) (fun _ iv _ => N - (intOf iv).toNat)
 case atStart => exact ⟨0, 0, none, 0, [], Nat.zero_le _, Nat.le_refl _, fun _ => ⟨rfl, rfl⟩, rfl, rfl, by simpa using LOw.nil, Below.refl _ _⟩
 case round =>
  obtain ⟨q, n1, A1, c1, xs, hq, hnq, hzn, rfl, rfl, hlo, hbel⟩ := hrel; have HZn := hide hzn; clear hzn; have HLo := hide hlo; have HBe := hide hbel; have hs1 := hbel.size; have hs0 := HB1.out.size; by_cases hlt : q < N
  ·obtain ⟨g3, x, vs, rfl, hg, hgB, hx, hvl, hfr, hcs⟩ := lo_at (by decide) HL1.out hlt; rw [List.getElem?_map] at hx
   obtain ⟨z, hz⟩ : ∃ z, (trL t)[q]? = some z := by
    cases hz : (trL t)[q]? with
    | none => rw [hz] at hx; simp at hx
    | some z => exact ⟨z, rfl⟩
   rw [hz] at hx; simp only [Option.map_some, Option.some.injEq] at hx; subst hx; have hzm := List.mem_of_getElem? hz; obtain ⟨a, m, X⟩ := z; have hPg := trGet_pg t HWf.out ((trL_mem t HWf.out).1 hzm); have HPz := hide (HPl.out _ hzm); have HTk : Hid ((trL t).take (q + 1) = (trL t).take q ++ [(a, m, X)]) := hide (by rw [List.take_add_one, hz]; rfl); simp only at HPz; obtain ⟨Y, hY⟩ : ∃ Y, normA X = Y := ⟨_, rfl⟩
   have hTd : tdN (a, m, X) = ⟨(a : Int), (m : Int), Y⟩ := (by unfold tdN; rw [← hY])
   rw [hTd] at hfr; rw [hY] at HPz; obtain ⟨B1, k1, e1, B2, m2, d2, rfl, hr1, hr2⟩ := hfr.here; have HFr := hide hfr; have HTd := hide hTd; have HPg := hide hPg; have f0 : wr.cell? ⟨g3, q * 11, none⟩ = some (.int .u32 (a : Int)) := (hbel.cell hg).trans (hcs 0 _ rfl); have f1 : wr.cell? ⟨g3, q * 11 + 1, none⟩ = some (.int .i64 (m : Int)) := (hbel.cell hg).trans (hcs 1 _ rfl); have f2 : wr.cell? ⟨g3, q * 11 + 2, none⟩ = some (.int .i64 Y.has) := (hbel.cell hg).trans (hcs 2 _ rfl); have f3 : wr.cell? ⟨g3, q * 11 + 3, none⟩ = some (.int .i64 Y.org) := (hbel.cell hg).trans (hcs 3 _ rfl); have f4 : wr.cell? ⟨g3, q * 11 + 4, none⟩ = some (.slice B1 k1 e1) := (hbel.cell hg).trans (hcs 4 _ rfl); have f5 : wr.cell? ⟨g3, q * 11 + 5, none⟩ = some (.int .u32 Y.hop) := (hbel.cell hg).trans (hcs 5 _ rfl); have f6 : wr.cell? ⟨g3, q * 11 + 6, none⟩ = some (.int .u32 Y.med) := (hbel.cell hg).trans (hcs 6 _ rfl); have f7 : wr.cell? ⟨g3, q * 11 + 7, none⟩ = some (.int .u32 Y.pref) := (hbel.cell hg).trans (hcs 7 _ rfl); have f8 : wr.cell? ⟨g3, q * 11 + 8, none⟩ = some (.int .u32 Y.aas) := (hbel.cell hg).trans (hcs 8 _ rfl); have f9 : wr.cell? ⟨g3, q * 11 + 9, none⟩ = some (.int .u32 Y.aid) := (hbel.cell hg).trans (hcs 9 _ rfl); have f10 : wr.cell? ⟨g3, q * 11 + 10, none⟩ = some (.slice B2 m2 d2) := (hbel.cell hg).trans (hcs 10 _ rfl); obtain ⟨w2, hw2⟩ : ∃ W, wr.alloc (.cells #[.int .u32 (a : Int), .int .i64 (m : Int), .int .i64 Y.has, .int .i64 Y.org, .slice B1 k1 e1, .int .u32 Y.hop, .int .u32 Y.med, .int .u32 Y.pref, .int .u32 Y.aas, .int .u32 Y.aid, .slice B2 m2 d2] 71) = W := ⟨_, rfl⟩
   have hb2 : Below wr.heap.size wr w2 := hw2 ▸ blkBelow1 wr _; have HX2 : Hid (Blk w2 wr.heap.size 71 #[.int .u32 (a : Int), .int .i64 (m : Int), .int .i64 Y.has, .int .i64 Y.org, .slice B1 k1 e1, .int .u32 Y.hop, .int .u32 Y.med, .int .u32 Y.pref, .int .u32 Y.aas, .int .u32 Y.aid, .slice B2 m2 d2]) := hide (hw2 ▸ Blk.new wr _ _); have HT3 := (HTw.out.below hbel).below hb2; have HGt := hide (getA_any (R := atR) g2 a m o w2 hPg HT3.root HT3.tree.mem HT3.tree.wf HT3.low); have HW2 := hide hw2; have HB2 := hide hb2; have HR1 := hide (hr1.below sgMono hbel); have HR2 := hide (hr2.below hbel); have q1 : (q : Int) < (N : Int) := (by omega)
   have q0 : (0 : Int) ≤ (q : Int) := (by omega)
   have hwq : IntKind.i64.wrap ((q : Int) + 1) = (q : Int) + 1 := (by rw [IntKind.wrap_i64]; omega)
   cases hgo : trGet a m o with
   | none =>
    have HPo : Hid (lackG o (a, m, X) = true) := hide (by unfold lackG; simp only; rw [hgo]); rw [hgo] at HGt; clear hlo hbel hcs hz hzm hPg hY hTd hfr hr1 hr2 hw2 hb2 HT3 hgo hvl
    go_wp2_with fail
    rw [HW2.out]; refine HGt.out.mono ?_; rintro e w3 ⟨hb3, rfl⟩; have HX3 := hide (HX2.out.below hb3 HX2.out.lt); have HB3 := hide (HB2.out.trans (hb3.mono HB2.out.size)); clear hb3 HGt f0 f1 f2 f3 f4 f5 f6 f7 f8 f9 f10; obtain ⟨w4, hw4⟩ : ∃ W, w3.alloc (.cells #[.int .i64 0, .int .i64 0, .slice none 0 0, .int .u32 0, .int .u32 0, .int .u32 0, .int .u32 0, .int .u32 0, .slice none 0 0] 28) = W := ⟨_, rfl⟩
    have hb4 : Below w3.heap.size w3 w4 := hw4 ▸ blkBelow1 w3 _; have HX4 := hide (HX3.out.below hb4 HX3.out.lt); have HB4 := hide (HB3.out.trans (hb4.mono HB3.out.size)); have HW4 := hide hw4; clear hw4 hb4
    go_upto_region 6 with fail
    rw [HW4.out]; have HB4s := HB4.out.size; have x0 : w4.cell? ⟨wr.heap.size, 0, none⟩ = some (.int .u32 (a : Int)) := HX4.out.cell 0; have x1 : w4.cell? ⟨wr.heap.size, 1, none⟩ = some (.int .i64 (m : Int)) := HX4.out.cell 1; have x2 : w4.cell? ⟨wr.heap.size, 2, none⟩ = some (.int .i64 Y.has) := HX4.out.cell 2; have x3 : w4.cell? ⟨wr.heap.size, 3, none⟩ = some (.int .i64 Y.org) := HX4.out.cell 3; have x4 : w4.cell? ⟨wr.heap.size, 4, none⟩ = some (.slice B1 k1 e1) := HX4.out.cell 4; have x5 : w4.cell? ⟨wr.heap.size, 5, none⟩ = some (.int .u32 Y.hop) := HX4.out.cell 5; have x6 : w4.cell? ⟨wr.heap.size, 6, none⟩ = some (.int .u32 Y.med) := HX4.out.cell 6; have x7 : w4.cell? ⟨wr.heap.size, 7, none⟩ = some (.int .u32 Y.pref) := HX4.out.cell 7; have x8 : w4.cell? ⟨wr.heap.size, 8, none⟩ = some (.int .u32 Y.aas) := HX4.out.cell 8; have x9 : w4.cell? ⟨wr.heap.size, 9, none⟩ = some (.int .u32 Y.aid) := HX4.out.cell 9; have x10 : w4.cell? ⟨wr.heap.size, 10, none⟩ = some (.slice B2 m2 d2) := HX4.out.cell 10
    go_wp2_with (at_builtin; refine wpList_append_any _ rfl (.tmp 33) (.tmp 35) 51 rfl w1.heap.size 71 i0 _ 11 104 Tryz.underlying51 hi hz0 hz1 hz2 rfl (by decide) (.slice A1 n1 c1) n1 xs rfl ((HLo.out.below HB4.out).1.alloc _) (w4.heap.size + 1) (some ⟨w4.heap.size, 0, none⟩) 1 1 [.int .u32 (a : Int), .int .i64 (m : Int), .int .i64 Y.has, .int .i64 Y.org, .slice B1 k1 e1, .int .u32 Y.hop, .int .u32 Y.med, .int .u32 Y.pref, .int .u32 Y.aas, .int .u32 Y.aid, .slice B2 m2 d2] rfl (reads_blkN (Blk.new _ _ _) (by simp) rfl rfl) (by simp [Value.oneCell']) (by unfold maxLen; omega) (by omega) (by simp; omega) ?_; intro v' w9 h5 h6 h7; obtain ⟨A4, c4, rfl, hlo4⟩ := LOw.push ((HLo.out.below HB4.out).below (blkBelow1 w4 _)) (chunk1_fr rfl (frb_switch HFr.out (HBe.out.trans ((HB4.out.trans ((blkBelow1 w4 _).mono HB4s)).mono HBe.out.size)) (fun k hk => own_low_block HLo.out.1 k hk))) h5 h6 h7; have HL9 := hide hlo4; have HB9 := hide ((HBe.out.trans ((HB4.out.trans ((blkBelow1 w4 _).mono HB4s)).mono HBe.out.size)).grown h6 (by simp; omega) (fun k hk => own_low_block HLo.out.1 k hk)); clear hlo4 h5 h6 h7)
    go_roundw
    case rel =>
     have e : (((trL t).take (q + 1)).filter (lackG o)).map tdN = (((trL t).take q).filter (lackG o)).map tdN ++ [⟨(a : Int), (m : Int), Y⟩] := by
      rw [HTk.out, List.filter_append, List.map_append]; simp [HPo.out, HTd.out]
     exact ⟨q + 1, n1 + 1, A4, c4, _, by omega, by omega, fun h => absurd h (by omega), by go_num, rfl, by rw [e]; exact HL9.out, HB9.out⟩
    case measure => simp [intOf]; omega
   | some Y2 =>
    have HPe : Hid (lackG o (a, m, X) = !(eqA Y2 Y)) := hide (by unfold lackG; simp only; rw [hgo]; simp only; rw [hY]); have HPz2 := hide (HPo2.out _ ((trL_mem o HT3.tree.wf).2 hgo)); simp only at HPz2; rw [hgo] at HGt; clear hlo hbel hcs hz hzm hPg hY hTd hfr hr1 hr2 hw2 hb2 HT3 hgo hvl
    go_wp2_with fail
    rw [HW2.out]; refine HGt.out.mono ?_; rintro e w3 ⟨hb3, v0, v1, v2, v3, v4, v5, v6, v7, v8, rfl, hfr⟩; obtain ⟨XA, xn, xc, XB, xm, xd, hv, hxr, hxu⟩ := frs_here hfr; simp only [Value.agg.injEq, Array.mk.injEq, List.cons.injEq, and_true] at hv; obtain ⟨rfl, rfl, rfl, rfl, rfl, rfl, rfl, rfl, rfl⟩ := hv; have HX3 := hide (HX2.out.below hb3 HX2.out.lt); have HB3 := hide (HB2.out.trans (hb3.mono HB2.out.size)); obtain ⟨w4, hw4⟩ : ∃ W, w3.alloc (.cells #[.int .i64 Y2.has, .int .i64 Y2.org, .slice XA xn xc, .int .u32 Y2.hop, .int .u32 Y2.med, .int .u32 Y2.pref, .int .u32 Y2.aas, .int .u32 Y2.aid, .slice XB xm xd] 28) = W := ⟨_, rfl⟩
    have hb4 : Below w3.heap.size w3 w4 := hw4 ▸ blkBelow1 w3 _; have HV4 : Hid (Blk w4 w3.heap.size 28 #[.int .i64 Y2.has, .int .i64 Y2.org, .slice XA xn xc, .int .u32 Y2.hop, .int .u32 Y2.med, .int .u32 Y2.pref, .int .u32 Y2.aas, .int .u32 Y2.aid, .slice XB xm xd]) := hide (hw4 ▸ Blk.new w3 _ _); have HX4 := hide (HX3.out.below hb4 HX3.out.lt); have HB4 := hide (HB3.out.trans (hb4.mono HB3.out.size)); have HSm := hide (attrSame_any Y2 Y (atV Y2.has Y2.org XA xn xc Y2.hop Y2.med Y2.pref Y2.aas Y2.aid XB xm xd) (atV Y.has Y.org B1 k1 e1 Y.hop Y.med Y.pref Y.aas Y.aid B2 m2 d2) w4 ⟨XA, xn, xc, XB, xm, xd, rfl, hxr.below sgMono hb4, hxu.below hb4⟩ ⟨B1, k1, e1, B2, m2, d2, rfl, HR1.out.below sgMono HB4.out, HR2.out.below HB4.out⟩ HPz2.out HPz.out); have HW4 := hide hw4; clear hb3 hfr hxr hxu hw4 hb4 HGt f0 f1 f2 f3 f4 f5 f6 f7 f8 f9 f10
    go_upto_region 6 with fail
    rw [HW4.out]; have HB4s := HB4.out.size; have x0 : w4.cell? ⟨wr.heap.size, 0, none⟩ = some (.int .u32 (a : Int)) := HX4.out.cell 0; have x1 : w4.cell? ⟨wr.heap.size, 1, none⟩ = some (.int .i64 (m : Int)) := HX4.out.cell 1; have x2 : w4.cell? ⟨wr.heap.size, 2, none⟩ = some (.int .i64 Y.has) := HX4.out.cell 2; have x3 : w4.cell? ⟨wr.heap.size, 3, none⟩ = some (.int .i64 Y.org) := HX4.out.cell 3; have x4 : w4.cell? ⟨wr.heap.size, 4, none⟩ = some (.slice B1 k1 e1) := HX4.out.cell 4; have x5 : w4.cell? ⟨wr.heap.size, 5, none⟩ = some (.int .u32 Y.hop) := HX4.out.cell 5; have x6 : w4.cell? ⟨wr.heap.size, 6, none⟩ = some (.int .u32 Y.med) := HX4.out.cell 6; have x7 : w4.cell? ⟨wr.heap.size, 7, none⟩ = some (.int .u32 Y.pref) := HX4.out.cell 7; have x8 : w4.cell? ⟨wr.heap.size, 8, none⟩ = some (.int .u32 Y.aas) := HX4.out.cell 8; have x9 : w4.cell? ⟨wr.heap.size, 9, none⟩ = some (.int .u32 Y.aid) := HX4.out.cell 9; have x10 : w4.cell? ⟨wr.heap.size, 10, none⟩ = some (.slice B2 m2 d2) := HX4.out.cell 10; have u0 : w4.cell? ⟨w3.heap.size, 0, none⟩ = some (.int .i64 Y2.has) := HV4.out.cell 0; have u1 : w4.cell? ⟨w3.heap.size, 1, none⟩ = some (.int .i64 Y2.org) := HV4.out.cell 1; have u2 : w4.cell? ⟨w3.heap.size, 2, none⟩ = some (.slice XA xn xc) := HV4.out.cell 2; have u3 : w4.cell? ⟨w3.heap.size, 3, none⟩ = some (.int .u32 Y2.hop) := HV4.out.cell 3; have u4 : w4.cell? ⟨w3.heap.size, 4, none⟩ = some (.int .u32 Y2.med) := HV4.out.cell 4; have u5 : w4.cell? ⟨w3.heap.size, 5, none⟩ = some (.int .u32 Y2.pref) := HV4.out.cell 5; have u6 : w4.cell? ⟨w3.heap.size, 6, none⟩ = some (.int .u32 Y2.aas) := HV4.out.cell 6; have u7 : w4.cell? ⟨w3.heap.size, 7, none⟩ = some (.int .u32 Y2.aid) := HV4.out.cell 7; have u8 : w4.cell? ⟨w3.heap.size, 8, none⟩ = some (.slice XB xm xd) := HV4.out.cell 8
    go_wp2_with fail
    refine HSm.out.mono ?_; rintro e w6 ⟨q6, rfl, hq6, hb6⟩
    cases q6 with
    | true =>
     have HEq6 : Hid (eqA Y2 Y = true) := hide ((eqA_iff Y2 Y).2 (hq6.1 (by simp))); clear hq6; have HB6 := hide (HBe.out.trans ((HB4.out.trans (hb6.mono HB4s)).mono HBe.out.size)); have HL6 := hide ((HLo.out.below HB4.out).below hb6); clear hb6; go_wp2
     go_roundw
     case rel =>
      have e : (((trL t).take (q + 1)).filter (lackG o)).map tdN = (((trL t).take q).filter (lackG o)).map tdN := by
       rw [HTk.out, List.filter_append, List.map_append]; simp [HPe.out, HEq6.out]
      exact ⟨q + 1, n1, A1, c1, xs, by omega, by omega, HZn.out, by go_num, rfl, by rw [e]; exact HL6.out, HB6.out⟩
     case measure => simp [intOf]; omega
    | false =>
     have HEq6 : Hid (eqA Y2 Y = false) := hide (by rw [Bool.eq_false_iff]; intro h; exact absurd (hq6.2 ((eqA_iff Y2 Y).1 h)) (by simp)); have HX6 := hide (HX4.out.below hb6 HX4.out.lt); have HB6 := hide (HB4.out.trans (hb6.mono HB4s)); have HB6s := HB6.out.size; clear hq6 hb6 x0 x1 x2 x3 x4 x5 x6 x7 x8 x9 x10 u0 u1 u2 u3 u4 u5 u6 u7 u8; have x0 : w6.cell? ⟨wr.heap.size, 0, none⟩ = some (.int .u32 (a : Int)) := HX6.out.cell 0; have x1 : w6.cell? ⟨wr.heap.size, 1, none⟩ = some (.int .i64 (m : Int)) := HX6.out.cell 1; have x2 : w6.cell? ⟨wr.heap.size, 2, none⟩ = some (.int .i64 Y.has) := HX6.out.cell 2; have x3 : w6.cell? ⟨wr.heap.size, 3, none⟩ = some (.int .i64 Y.org) := HX6.out.cell 3; have x4 : w6.cell? ⟨wr.heap.size, 4, none⟩ = some (.slice B1 k1 e1) := HX6.out.cell 4; have x5 : w6.cell? ⟨wr.heap.size, 5, none⟩ = some (.int .u32 Y.hop) := HX6.out.cell 5; have x6 : w6.cell? ⟨wr.heap.size, 6, none⟩ = some (.int .u32 Y.med) := HX6.out.cell 6; have x7 : w6.cell? ⟨wr.heap.size, 7, none⟩ = some (.int .u32 Y.pref) := HX6.out.cell 7; have x8 : w6.cell? ⟨wr.heap.size, 8, none⟩ = some (.int .u32 Y.aas) := HX6.out.cell 8; have x9 : w6.cell? ⟨wr.heap.size, 9, none⟩ = some (.int .u32 Y.aid) := HX6.out.cell 9; have x10 : w6.cell? ⟨wr.heap.size, 10, none⟩ = some (.slice B2 m2 d2) := HX6.out.cell 10
     go_wp2_with (at_builtin; refine wpList_append_any _ rfl (.tmp 33) (.tmp 35) 51 rfl w1.heap.size 71 i0 _ 11 104 Tryz.underlying51 hi hz0 hz1 hz2 rfl (by decide) (.slice A1 n1 c1) n1 xs rfl ((HLo.out.below HB6.out).1.alloc _) (w6.heap.size + 1) (some ⟨w6.heap.size, 0, none⟩) 1 1 [.int .u32 (a : Int), .int .i64 (m : Int), .int .i64 Y.has, .int .i64 Y.org, .slice B1 k1 e1, .int .u32 Y.hop, .int .u32 Y.med, .int .u32 Y.pref, .int .u32 Y.aas, .int .u32 Y.aid, .slice B2 m2 d2] rfl (reads_blkN (Blk.new _ _ _) (by simp) rfl rfl) (by simp [Value.oneCell']) (by unfold maxLen; omega) (by omega) (by simp; omega) ?_; intro v' w9 h5 h6 h7; obtain ⟨A4, c4, rfl, hlo4⟩ := LOw.push ((HLo.out.below HB6.out).below (blkBelow1 w6 _)) (chunk1_fr rfl (frb_switch HFr.out (HBe.out.trans ((HB6.out.trans ((blkBelow1 w6 _).mono HB6s)).mono HBe.out.size)) (fun k hk => own_low_block HLo.out.1 k hk))) h5 h6 h7; have HL9 := hide hlo4; have HB9 := hide ((HBe.out.trans ((HB6.out.trans ((blkBelow1 w6 _).mono HB6s)).mono HBe.out.size)).grown h6 (by simp; omega) (fun k hk => own_low_block HLo.out.1 k hk)); clear hlo4 h5 h6 h7)
     go_roundw
     case rel =>
      have e : (((trL t).take (q + 1)).filter (lackG o)).map tdN = (((trL t).take q).filter (lackG o)).map tdN ++ [⟨(a : Int), (m : Int), Y⟩] := by
       rw [HTk.out, List.filter_append, List.map_append]; simp [HPe.out, HEq6.out, HTd.out]
      exact ⟨q + 1, n1 + 1, A4, c4, _, by omega, by omega, fun h => absurd h (by omega), by go_num, rfl, by rw [e]; exact HL9.out, HB9.out⟩
     case measure => simp [intOf]; omega
  ·obtain rfl : q = N := (by omega)
   have e1 : decide ((q : Int) < (q : Int)) = false := (by simp)
   have hall : (trL t).take q = trL t := List.take_of_length_le (by rw [trL_len, HN.out]; exact Nat.le_refl _); rw [hall] at hlo; have HLf := hide hlo; clear hlo hbel hlt HLo hall; go_wp2; go_ret; exact ⟨A1, n1, c1, xs, rfl, HLf.out.less HB1.out.size (Nat.le_refl _), HB1.out.trans (HBe.out.mono HB1.out.size), HZn.out⟩
end Go.Proofs.YtcinjckajnnhmaaGreat
set_option linter.unusedSimpArgs false
set_option linter.unusedVariables false
namespace Go.Proofs.YtcinjckajnnhmaaGreat
open Go.RowKit Go.WideShapes Go.ChangeShapes
attribute [local go_sem] Oper.semAt_some
set_option maxRecDepth 100000 in
set_option maxHeartbeats 4000000 in
theorem putnilA_any (a n : Nat) (vh vo : Int) (vA : Option Addr) (vn vc : Nat) (vp vm vf vs vi : Int) (vB : Option Addr) (vk vd : Nat) (w : World) :
  Calls Tryz.prog 141 #[.pointer none, .agg #[.int .u32 (a : Int), .int .i64 (n : Int)], .agg #[.int .i64 vh, .int .i64 vo, .slice vA vn vc, .int .u32 vp, .int .u32 vm, .int .u32 vf, .int .u32 vs, .int .u32 vi, .slice vB vk vd]] w fun e w' => ∃ b, e = .returned (.pointer (some ⟨b, 0, none⟩)) ∧ w.heap.size ≤ b ∧ Blk w' b 205 (ndC a n [.int .i64 vh, .int .i64 vo, .slice vA vn vc, .int .u32 vp, .int .u32 vm, .int .u32 vf, .int .u32 vs, .int .u32 vi, .slice vB vk vd] true 1 (.pointer none) (.pointer none)) ∧ Below w.heap.size w w' := by
 have HB := hide (blkBelow3q w (.cells #[.int .u32 (a : Int), .int .i64 (n : Int)] 24) (.cells #[.int .i64 vh, .int .i64 vo, .slice vA vn vc, .int .u32 vp, .int .u32 vm, .int .u32 vf, .int .u32 vs, .int .u32 vi, .slice vB vk vd] 28) (.cells (ndC a n [.int .i64 vh, .int .i64 vo, .slice vA vn vc, .int .u32 vp, .int .u32 vm, .int .u32 vf, .int .u32 vs, .int .u32 vi, .slice vB vk vd] true 1 (.pointer none) (.pointer none)) 205)); have HK : Hid (Blk (((w.alloc (.cells #[.int .u32 (a : Int), .int .i64 (n : Int)] 24)).alloc (.cells #[.int .i64 vh, .int .i64 vo, .slice vA vn vc, .int .u32 vp, .int .u32 vm, .int .u32 vf, .int .u32 vs, .int .u32 vi, .slice vB vk vd] 28)).alloc (.cells (ndC a n [.int .i64 vh, .int .i64 vo, .slice vA vn vc, .int .u32 vp, .int .u32 vm, .int .u32 vf, .int .u32 vs, .int .u32 vi, .slice vB vk vd] true 1 (.pointer none) (.pointer none)) 205)) (w.heap.size + 1 + 1) 205 (ndC a n [.int .i64 vh, .int .i64 vo, .slice vA vn vc, .int .u32 vp, .int .u32 vm, .int .u32 vf, .int .u32 vs, .int .u32 vi, .slice vB vk vd] true 1 (.pointer none) (.pointer none))) := hide (blk_new' _ _ (by simp))
 go_enter Tryz.func141, Tryz.ntmps141
 go_wp2; go_ret; exact ⟨w.heap.size + 1 + 1, rfl, by omega, HK.out, HB.out⟩
end Go.Proofs.YtcinjckajnnhmaaGreat
set_option linter.unusedSimpArgs false
set_option linter.unusedVariables false
namespace Go.Proofs.YtcinjckajnnhmaaGreat
open Go.RowKit Go.WideShapes Go.ChangeShapes
attribute [local go_sem] Oper.semAt_some
theorem atok_norm {X : AT} (h : AtOk X) : AtOk (normA X) := by
 refine ⟨?_, ?_⟩
 ·show numS (if attB X.has 2 then normS X.path else []) ≤ 10000; split
  ·have := numS_norm X.path; have := h.1; omega
  ·simp [numS]
 ·show (if attB X.has 8 then setOf X.comms else []).length ≤ 10000; split
  ·have := setOf_len X.comms; have := h.2; omega
  ·simp
theorem ato_frs {b : Nat} {w : World} {x : AT} {A : Option Addr} {n c : Nat} {B : Option Addr} {m d : Nat} {xs : List Value} (h1 : LOw 2 133 sgR w b b A n c x.path xs) (h2 : FrB b none (fun w => U32s w B m d x.comms) w) :
  FrS (fun k => b ≤ k ∧ k < w.heap.size) none (fun w => atR w [.int .i64 x.has, .int .i64 x.org, .slice A n c, .int .u32 x.hop, .int .u32 x.med, .int .u32 x.pref, .int .u32 x.aas, .int .u32 x.aid, .slice B m d] x) w :=
 frs_of_frb (((h1.fr (by decide) (Nat.le_refl _)).and h2).imp fun w h => ⟨A, n, c, B, m, d, rfl, h.1, h.2⟩)
end Go.Proofs.YtcinjckajnnhmaaGreat
set_option linter.unusedSimpArgs false
set_option linter.unusedVariables false
namespace Go.Proofs.YtcinjckajnnhmaaGreat
open Go.RowKit Go.WideShapes Go.ChangeShapes
section
variable {α : Type} {sz : Nat} {T : TypeId} {F : Nat → Prop} {R : World → List Value → α → Prop} {w w9 w11 : World} {b p m b0 : Nat} {v : Option α} {l r t2 : Tr α} {vs us : List Value} {x : α}
theorem ndWhole (hc : ChgS (fun k => k ∈ trB l ∨ k = b) w w11) : ChgS (fun k => k ∈ trB (.nd b p m v l r)) w w11 := chg_mono hc fun k h => .inl (by
  rcases h with h | h
  · simp [trB, h]
  · simp [trB, h])
theorem ndWholeR (hc : ChgS (fun k => k ∈ trB r ∨ k = b) w w11) : ChgS (fun k => k ∈ trB (.nd b p m v l r)) w w11 := chg_mono hc fun k h => .inl (by
  rcases h with h | h
  · simp [trB, h]
  · simp [trB, h])
theorem nd_left (hd : NdA sz T F R w b p m v l r vs) (hw : trWf (.nd b p m v t2 r)) (h2 : TrA sz T F R w9 t2) (hsub : ∀ k ∈ trB t2, k ∈ trB l ∨ w.heap.size ≤ k) (hc : ChgS (fun k => k ∈ trB l ∨ k = b) w w11) (hc2 : ChgS (fun k => k = b) w9 w11)
  (hk : Blk w11 b T (ndC p m vs v.isSome (trCnt t2 + trCnt r + (if v.isSome then 1 else 0)) (trPtr t2) (trPtr r))) : TrA sz T F R w11 (.nd b p m v t2 r) ∧ ∀ k ∈ trB (.nd b p m v t2 r), k ∈ trB (.nd b p m v l r) ∨ w.heap.size ≤ k := by
 have hbl : b < w.heap.size := hd.blk.lt; have hb2 : b ∉ trB t2 := fun h => (hsub b h).elim hd.bl (fun h => by omega); refine ⟨NdA.tree (vs := vs) ⟨hd.len, hk, fun y e => frs_chg (hd.val y e) hc (fun k hF h => ?_), h2.chg hc2 (fun k hk e => hb2 (e ▸ hk)) (fun k hF e => hd.bf (e ▸ hF)), hd.right.chg hc (fun k hq h => ?_) (fun k hF h => ?_), hw, hb2, hd.br, hd.bf, fun k hk h => ?_⟩, fun k hk => ?_⟩
 ·rcases h with h | rfl
  ·exact hd.left.far k h hF
  ·exact hd.bf hF
 ·rcases h with h | rfl
  ·exact hd.lr k h hq
  ·exact hd.br hq
 ·rcases h with h | rfl
  ·exact hd.left.far k h hF
  ·exact hd.bf hF
 ·rcases hsub k hk with h1 | h1
  ·exact hd.lr k h1 h
  ·have := hd.right.mem.lt k h; omega
 ·simp only [trB, List.mem_cons, List.mem_append] at hk ⊢; rcases hk with rfl | hk | hk
  ·exact .inl (.inl rfl)
  ·exact (hsub k hk).imp (fun h => .inr (.inl h)) id
  ·exact .inl (.inr (.inr hk))
theorem nd_right (hd : NdA sz T F R w b p m v l r vs) (hw : trWf (.nd b p m v l t2)) (h2 : TrA sz T F R w9 t2) (hsub : ∀ k ∈ trB t2, k ∈ trB r ∨ w.heap.size ≤ k) (hc : ChgS (fun k => k ∈ trB r ∨ k = b) w w11) (hc2 : ChgS (fun k => k = b) w9 w11)
  (hk : Blk w11 b T (ndC p m vs v.isSome (trCnt l + trCnt t2 + (if v.isSome then 1 else 0)) (trPtr l) (trPtr t2))) : TrA sz T F R w11 (.nd b p m v l t2) ∧ ∀ k ∈ trB (.nd b p m v l t2), k ∈ trB (.nd b p m v l r) ∨ w.heap.size ≤ k := by
 have hbl : b < w.heap.size := hd.blk.lt; have hb2 : b ∉ trB t2 := fun h => (hsub b h).elim hd.br (fun h => by omega); refine ⟨NdA.tree (vs := vs) ⟨hd.len, hk, fun y e => frs_chg (hd.val y e) hc (fun k hF h => ?_), hd.left.chg hc (fun k hq h => ?_) (fun k hF h => ?_), h2.chg hc2 (fun k hk e => hb2 (e ▸ hk)) (fun k hF e => hd.bf (e ▸ hF)), hw, hd.bl, hb2, hd.bf, fun k hk h => ?_⟩, fun k hk => ?_⟩
 ·rcases h with h | rfl
  ·exact hd.right.far k h hF
  ·exact hd.bf hF
 ·rcases h with h | rfl
  ·exact hd.lr k hq h
  ·exact hd.bl hq
 ·rcases h with h | rfl
  ·exact hd.right.far k h hF
  ·exact hd.bf hF
 ·rcases hsub k h with h1 | h1
  ·exact hd.lr k hk h1
  ·have := hd.left.mem.lt k hk; omega
 ·simp only [trB, List.mem_cons, List.mem_append] at hk ⊢; rcases hk with rfl | hk | hk
  ·exact .inl (.inl rfl)
  ·exact .inl (.inr (.inl hk))
  ·exact (hsub k hk).imp (fun h => .inr (.inr h)) id
theorem nd_here (hd : NdA sz T F R w b p m v l r vs) (hu : VOk sz us) (hx : FrS F none (fun w => R w us x) w) (hc : ChgS (fun k => k = b) w w11)
  (hk : Blk w11 b T (ndC p m us true (trCnt l + trCnt r + 1) (trPtr l) (trPtr r))) : TrA sz T F R w11 (.nd b p m (some x) l r) := by
 have hF : ∀ k, F k → ¬ (k = b) := fun k h e => hd.bf (e ▸ h); exact NdA.tree (vs := us) ⟨hu, hk, fun y e => by injection e with e; subst e; exact frs_chg hx hc hF, hd.left.chg hc (fun k hk e => hd.bl (e ▸ hk)) hF, hd.right.chg hc (fun k hk e => hd.br (e ▸ hk)) hF, hd.wf, hd.bl, hd.br, hd.bf, hd.lr⟩
theorem nd_new (h1 : TrA sz T F R w l) (h2 : TrA sz T F R w r) (hlow : ∀ k, F k → k < w.heap.size) (hw : trWf (.nd b0 p m v l r)) (hu : VOk sz us) (hx : ∀ y, v = some y → FrS F none (fun w => R w us y) w) (hb : w.heap.size ≤ b0) (hlr : ∀ k ∈ trB l, k ∉ trB r) (hc : ChgS (fun _ => False) w w11)
  (hk : Blk w11 b0 T (ndC p m us v.isSome (trCnt l + trCnt r + (if v.isSome then 1 else 0)) (trPtr l) (trPtr r))) : TrA sz T F R w11 (.nd b0 p m v l r) :=
 NdA.tree (vs := us) ⟨hu, hk, fun y e => frs_chg (hx y e) hc (by simp), h1.chg hc (by simp) (by simp), h2.chg hc (by simp) (by simp), hw, fun h => by have := h1.mem.lt _ h; omega, fun h => by have := h2.mem.lt _ h; omega, fun h => by have := hlow _ h; omega, hlr⟩
end
end Go.Proofs.YtcinjckajnnhmaaGreat
set_option linter.unusedSimpArgs false
set_option linter.unusedVariables false
namespace Go.Proofs.YtcinjckajnnhmaaGreat
open Go.RowKit Go.WideShapes Go.ChangeShapes
def trUpd {α : Type} (a n : Nat) (x : α) : Tr α → Tr α
  | .nil => .nil
  | .nd b p m v l r => if CvN p m a n then (if p = a ∧ m = n then .nd b p m (some x) l r else if bitN a m = 0 then .nd b p m v (trUpd a n x l) r else .nd b p m v l (trUpd a n x r)) else .nd b p m v l r
section
variable {α : Type} {sz : Nat} {T : TypeId} {F : Nat → Prop} {R : World → List Value → α → Prop} {w w' : World} {a n : Nat} {x y : α}
theorem trUpd_put (hPa : PG a n) : ∀ t : Tr α, trWf t → trGet a n t = some y → PutR a n x t (trUpd a n x t)
 | .nil, _, h => by simp [trGet] at h
 | .nd b p m v l r, hw, h => by
   unfold trGet at h; unfold trUpd; split at h
   ·rename_i hc; rw [if_pos hc]; split at h
    ·rename_i he; rw [if_pos he]; obtain ⟨rfl, rfl⟩ := he; exact put_here hw x
    ·rename_i he; rw [if_neg he]; split at h
     ·rename_i hb; rw [if_pos hb]; exact put_left hw hPa hc he hb (trUpd_put hPa l hw.2.2.2.1 h)
     ·rename_i hb; rw [if_neg hb]; exact put_right hw hPa hc he (by rcases bitN_01 a m with h0 | h0; exact absurd h0 hb; exact h0) (trUpd_put hPa r hw.2.2.2.2 h)
   ·cases h
theorem trUpd_b : ∀ t : Tr α, trB (trUpd a n x t) = trB t ∧ trPtr (trUpd a n x t) = trPtr t
 | .nil => ⟨rfl, rfl⟩
 | .nd b p m v l r => by
   have h1 := trUpd_b l; have h2 := trUpd_b r; unfold trUpd; split
   ·split
    ·exact ⟨rfl, rfl⟩
    ·split
     ·exact ⟨by simp [trB, h1.1], rfl⟩
     ·exact ⟨by simp [trB, h2.1], rfl⟩
   ·exact ⟨rfl, rfl⟩
theorem trFind_sub (a n : Nat) : ∀ t : Tr α, ∀ k ∈ trB (trFind a n t), k ∈ trB t
 | .nil, k, hk => by simp [trFind, trB] at hk
 | .nd b p m v l r, k, hk => by
   unfold trFind at hk; split at hk
   ·split at hk
    ·exact hk
    ·split at hk
     ·simp [trB, trFind_sub a n l k hk]
     ·simp [trB, trFind_sub a n r k hk]
   ·simp [trB] at hk
theorem trUpd_mem (hPa : PG a n) {b : Nat} {l0 r0 : Tr α} {us : List Value} (hu : VOk sz us) : ∀ (t : Tr α), TrA sz T F R w t → trFind a n t = .nd b a n (some y) l0 r0 → ChgS (fun k => k = b) w w' → FrS F none (fun w => R w us x) w →
  Blk w' b T (ndC a n us true (trCnt l0 + trCnt r0 + 1) (trPtr l0) (trPtr r0)) → TrA sz T F R w' (trUpd a n x t) ∧ trCnt (trUpd a n x t) = trCnt t
 | .nil, _, h, _, _, _ => by simp [trFind] at h
 | .nd b1 p m v l r, ht, h, hc, hx, hk => by
   obtain ⟨vs1, hd⟩ := ht.node; have hg : trGet a n (.nd b1 p m v l r) = some y := (by rw [trGet_find, h])
   have hPR := trUpd_put (x := x) hPa _ hd.wf hg; have hcnt : trCnt (trUpd a n x (.nd b1 p m v l r)) = trCnt (.nd b1 p m v l r) := (by have := hPR.cnt; rw [hg] at this; simpa using this)
   refine ⟨?_, hcnt⟩; have hbt : b ∈ trB (.nd b1 p m v l r) := trFind_sub a n _ b (by rw [h]; simp [trB]); unfold trFind at h; unfold trUpd at hPR hcnt ⊢; split at h
   ·rename_i hcv; rw [if_pos hcv] at hPR hcnt ⊢; split at h
    ·rename_i he; rw [if_pos he] at hPR hcnt ⊢; injection h with e1 e2 e3 e4 e5 e6
     subst e1 e2 e3 e4 e5 e6; exact nd_here hd hu hx hc hk
    ·rename_i he; rw [if_neg he] at hPR hcnt ⊢; split at h
     ·rename_i hb; rw [if_pos hb] at hPR hcnt ⊢; have hbl : b ∈ trB l := trFind_sub a n l b (by rw [h]; simp [trB]); have hne : b1 ≠ b := fun e => hd.bl (e ▸ hbl); obtain ⟨hT, hC⟩ := trUpd_mem hPa hu l hd.left h hc hx hk; have hB := (trUpd_b (a := a) (n := n) (x := x) l)
      refine (nd_left (w9 := w') hd hPR.wf hT (fun k hk => .inl (hB.1 ▸ hk)) (chg_mono hc fun k h => .inl (.inl (h ▸ hbl))) (chg_refl _ _) ?_).1; rw [hC, hB.2]; exact chg_blk hc hd.blk hne
     ·rename_i hb; rw [if_neg hb] at hPR hcnt ⊢; have hbr : b ∈ trB r := trFind_sub a n r b (by rw [h]; simp [trB]); have hne : b1 ≠ b := fun e => hd.br (e ▸ hbr); obtain ⟨hT, hC⟩ := trUpd_mem hPa hu r hd.right h hc hx hk; have hB := (trUpd_b (a := a) (n := n) (x := x) r)
      refine (nd_right (w9 := w') hd hPR.wf hT (fun k hk => .inl (hB.1 ▸ hk)) (chg_mono hc fun k h => .inl (.inl (h ▸ hbr))) (chg_refl _ _) ?_).1; rw [hC, hB.2]; exact chg_blk hc hd.blk hne
   ·cases h
end
end Go.Proofs.YtcinjckajnnhmaaGreat
set_option linter.unusedSimpArgs false
set_option linter.unusedVariables false
namespace Go.Proofs.YtcinjckajnnhmaaGreat
open Go.RowKit Go.WideShapes Go.ChangeShapes
attribute [local go_sem] Oper.semAt_some
def Both5 (w2 W : World) (S : Nat → Prop) (b : Nat) (T : TypeId) (cs : Array Value) : Prop := Blk W b T cs ∧ ChgS S w2 W
def EffC (H i : Nat) (vs : List Value) (wa wb : World) : Prop := wb = wa.setCells H i vs
theorem effC_blk {H i g : Nat} {vs : List Value} {wa wb : World} {t : TypeId} {cs : Array Value} (he : EffC H i vs wa wb) (hne : g ≠ H) (h : Blk wa g t cs) : Blk wb g t cs := by
 unfold EffC at he; subst he; exact blk_sets_far hne vs i h
theorem effC_chg {H i : Nat} {S : Nat → Prop} {vs : List Value} {w wa wb : World} (he : EffC H i vs wa wb) (hc : ChgS S w wa) (hs : S H) : ChgS S w wb := by
 unfold EffC at he; subst he; exact chg_trans hc (chg_sets (S := fun k => k = H) rfl vs i) (fun k h => .inl (by rw [h]; exact hs))
theorem below0_sets {H : Nat} : ∀ (vs : List Value) (i : Nat) (w : World), Below 0 w (w.setCells H i vs)
 | [], _, w => Below.refl 0 w
 | v :: vs, i, w => ((Below.refl 0 w).setCell (p := ⟨H, i, none⟩) (Nat.zero_le _) v).trans (below0_sets vs (i + 1) _)
theorem effC_below {H i : Nat} {vs : List Value} {wa wb : World} (he : EffC H i vs wa wb) : Below 0 wa wb := by
 unfold EffC at he; subst he; exact below0_sets vs i wa
theorem trFind_key {α : Type} {a n b p m : Nat} {v : Option α} {l0 r0 : Tr α} : ∀ t : Tr α, trFind a n t = .nd b p m v l0 r0 → p = a ∧ m = n
 | .nil, h => by simp [trFind] at h
 | .nd b1 p1 m1 v1 l r, h => by
   unfold trFind at h; split at h
   ·split at h
    ·rename_i he; injection h with _ e2 e3
     subst e2 e3; exact he
    ·split at h
     ·exact trFind_key l h
     ·exact trFind_key r h
   ·cases h
set_option maxRecDepth 100000 in
set_option maxHeartbeats 4000000 in
theorem stA_box {w : World} {R : Nat} {v0 v1 v2 v3 v4 v5 v6 v7 v8 : Value} (hk : Blk w R 28 #[.int .i64 0, .int .i64 0, .slice none 0 0, .int .u32 0, .int .u32 0, .int .u32 0, .int .u32 0, .int .u32 0, .slice none 0 0]) (h1 : ∀ u ∈ [v0, v1, v2, v3, v4, v5, v6, v7, v8], u.oneCell' = true) : (Instr.storeAt 28 (.pointer (some ⟨R, 0, none⟩)) (.agg #[v0, v1, v2, v3, v4, v5, v6, v7, v8])).run Tryz.prog w = .ok () (w.setCells R 0 [v0, v1, v2, v3, v4, v5, v6, v7, v8]) := by
 have z0 : w.cell? ⟨R, 0, none⟩ = some (.int .i64 0) := hk.cell 0; have z1 : w.cell? ⟨R, 1, none⟩ = some (.int .i64 0) := hk.cell 1; have z2 : w.cell? ⟨R, 2, none⟩ = some (.slice none 0 0) := hk.cell 2; have z3 : w.cell? ⟨R, 3, none⟩ = some (.int .u32 0) := hk.cell 3; have z4 : w.cell? ⟨R, 4, none⟩ = some (.int .u32 0) := hk.cell 4; have z5 : w.cell? ⟨R, 5, none⟩ = some (.int .u32 0) := hk.cell 5; have z6 : w.cell? ⟨R, 6, none⟩ = some (.int .u32 0) := hk.cell 6; have z7 : w.cell? ⟨R, 7, none⟩ = some (.int .u32 0) := hk.cell 7; have z8 : w.cell? ⟨R, 8, none⟩ = some (.slice none 0 0) := hk.cell 8; have zf := fun i => hk.frozen i; have o0 : ∀ (a : Addr) (m : Mode) (W : World), (store a v0 m).run Tryz.prog W = stored Tryz.prog W a v0 m := fun a m W => run_store _ W a v0 m (h1 v0 (by simp)); have o1 : ∀ (a : Addr) (m : Mode) (W : World), (store a v1 m).run Tryz.prog W = stored Tryz.prog W a v1 m := fun a m W => run_store _ W a v1 m (h1 v1 (by simp)); have o2 : ∀ (a : Addr) (m : Mode) (W : World), (store a v2 m).run Tryz.prog W = stored Tryz.prog W a v2 m := fun a m W => run_store _ W a v2 m (h1 v2 (by simp)); have o3 : ∀ (a : Addr) (m : Mode) (W : World), (store a v3 m).run Tryz.prog W = stored Tryz.prog W a v3 m := fun a m W => run_store _ W a v3 m (h1 v3 (by simp)); have o4 : ∀ (a : Addr) (m : Mode) (W : World), (store a v4 m).run Tryz.prog W = stored Tryz.prog W a v4 m := fun a m W => run_store _ W a v4 m (h1 v4 (by simp)); have o5 : ∀ (a : Addr) (m : Mode) (W : World), (store a v5 m).run Tryz.prog W = stored Tryz.prog W a v5 m := fun a m W => run_store _ W a v5 m (h1 v5 (by simp)); have o6 : ∀ (a : Addr) (m : Mode) (W : World), (store a v6 m).run Tryz.prog W = stored Tryz.prog W a v6 m := fun a m W => run_store _ W a v6 m (h1 v6 (by simp)); have o7 : ∀ (a : Addr) (m : Mode) (W : World), (store a v7 m).run Tryz.prog W = stored Tryz.prog W a v7 m := fun a m W => run_store _ W a v7 m (h1 v7 (by simp)); have o8 : ∀ (a : Addr) (m : Mode) (W : World), (store a v8 m).run Tryz.prog W = stored Tryz.prog W a v8 m := fun a m W => run_store _ W a v8 m (h1 v8 (by simp)); simp [go_sem, z0, z1, z2, z3, z4, z5, z6, z7, z8, zf, o0, o1, o2, o3, o4, o5, o6, o7, o8, World.setCells]
set_option maxRecDepth 100000 in
set_option maxHeartbeats 4000000 in
theorem stA_nd {w : World} {b a n cn : Nat} {q : Bool} {x y : Value} {v0 v1 v2 v3 v4 v5 v6 v7 v8 : Value} {vh vo : Int} {vA : Option Addr} {vn vc : Nat} {vp vm vf vs vi : Int} {vB : Option Addr} {vk vd : Nat} (hk : Blk w b 205 (ndC a n [v0, v1, v2, v3, v4, v5, v6, v7, v8] q cn x y)) : (Instr.storeAt 28 (.pointer (some ⟨b, 2, none⟩)) (.agg #[.int .i64 vh, .int .i64 vo, .slice vA vn vc, .int .u32 vp, .int .u32 vm, .int .u32 vf, .int .u32 vs, .int .u32 vi, .slice vB vk vd])).run Tryz.prog w = .ok () (w.setCells b 2 [.int .i64 vh, .int .i64 vo, .slice vA vn vc, .int .u32 vp, .int .u32 vm, .int .u32 vf, .int .u32 vs, .int .u32 vi, .slice vB vk vd]) := by
 have z0 : w.cell? ⟨b, 2, none⟩ = some v0 := hk.cell 2; have z1 : w.cell? ⟨b, 3, none⟩ = some v1 := hk.cell 3; have z2 : w.cell? ⟨b, 4, none⟩ = some v2 := hk.cell 4; have z3 : w.cell? ⟨b, 5, none⟩ = some v3 := hk.cell 5; have z4 : w.cell? ⟨b, 6, none⟩ = some v4 := hk.cell 6; have z5 : w.cell? ⟨b, 7, none⟩ = some v5 := hk.cell 7; have z6 : w.cell? ⟨b, 8, none⟩ = some v6 := hk.cell 8; have z7 : w.cell? ⟨b, 9, none⟩ = some v7 := hk.cell 9; have z8 : w.cell? ⟨b, 10, none⟩ = some v8 := hk.cell 10; have zf := fun i => hk.frozen i; simp [go_sem, z0, z1, z2, z3, z4, z5, z6, z7, z8, zf, World.setCells]
set_option maxRecDepth 100000 in
set_option maxHeartbeats 32000000 in
theorem putnA_any {α : Type} {F : Nat → Prop} {R : World → List Value → α → Prop} (g a n : Nat) (t : Tr α) (x : α) (vh vo : Int) (vA : Option Addr) (vn vc : Nat) (vp vm vf vs vi : Int) (vB : Option Addr) (vk vd : Nat) (w : World) (ha : PG a n) (hg : Blk w g 201 #[trPtr t]) (h : TrA 9 205 F R w t) (hF : ∀ k, F k → k < w.heap.size) (hv : FrS F none (fun w => R w [.int .i64 vh, .int .i64 vo, .slice vA vn vc, .int .u32 vp, .int .u32 vm, .int .u32 vf, .int .u32 vs, .int .u32 vi, .slice vB vk vd] x) w) (hgF : ¬ F g) (hgB : g ∉ trB t) (hcn : trCnt t < 100000000) (hno : trGet a n t = none) :
    Calls Tryz.prog 80 #[.pointer (some ⟨g, 0, none⟩), .agg #[.int .u32 (a : Int), .int .i64 (n : Int)], .agg #[.int .i64 vh, .int .i64 vo, .slice vA vn vc, .int .u32 vp, .int .u32 vm, .int .u32 vf, .int .u32 vs, .int .u32 vi, .slice vB vk vd]] w fun e w' => e = .returned (.tuple #[.agg #[.int .i64 0, .int .i64 0, .slice none 0 0, .int .u32 0, .int .u32 0, .int .u32 0, .int .u32 0, .int .u32 0, .slice none 0 0], .bool false]) ∧ ∃ t2, PutR a n x t t2 ∧ Blk w' g 201 #[trPtr t2] ∧ TrA 9 205 F R w' t2 ∧ (∀ k ∈ trB t2, k ∈ trB t ∨ w.heap.size ≤ k) ∧ ChgS (fun k => k = g ∨ k ∈ trB t) w w' := by
  obtain ⟨w0, hw0⟩ : ∃ w0, ((w.alloc (.cells #[.int .u32 (a : Int), .int .i64 (n : Int)] 24)).alloc (.cells #[.int .i64 vh, .int .i64 vo, .slice vA vn vc, .int .u32 vp, .int .u32 vm, .int .u32 vf, .int .u32 vs, .int .u32 vi, .slice vB vk vd] 28)).alloc (.cells #[.int .i64 0, .int .i64 0, .slice none 0 0, .int .u32 0, .int .u32 0, .int .u32 0, .int .u32 0, .int .u32 0, .slice none 0 0] 28) = w0 := ⟨_, rfl⟩
  have hb0 : Below w.heap.size w w0 := hw0 ▸ blkBelow3q w _ _ _; have HX0 : Hid (Blk w0 w.heap.size 24 #[.int .u32 (a : Int), .int .i64 (n : Int)]) := hide (hw0 ▸ ((Blk.new w _ _).alloc _).alloc _); have HV0 : Hid (Blk w0 (w.heap.size + 1) 28 #[.int .i64 vh, .int .i64 vo, .slice vA vn vc, .int .u32 vp, .int .u32 vm, .int .u32 vf, .int .u32 vs, .int .u32 vi, .slice vB vk vd]) := hide (hw0 ▸ (blk_new' _ _ (by simp)).alloc _); have HZ0 : Hid (Blk w0 (w.heap.size + 1 + 1) 28 #[.int .i64 0, .int .i64 0, .slice none 0 0, .int .u32 0, .int .u32 0, .int .u32 0, .int .u32 0, .int .u32 0, .slice none 0 0]) := hide (hw0 ▸ blk_new' _ _ (by simp)); have HGd := hide (Good_any a (n : Int) ha.1 (by omega) (by have := ha.2.1; omega)); rw [good_pg ha] at HGd; unfold pfx at HGd; have HFd := hide (fun W (hb : Below w.heap.size w W) => findA_any (F := F) (R := R) g a n t W ha (hg.below hb hg.lt) (h.mem.chg (S := fun _ => False) (chg_below hb) (by simp) (by simp)) h.wf); have hgf := trGet_find a n t; have HG := hide hg; have HT := hide h; have HW0 := hide hw0; have HB0 := hide hb0; have HFv := hide hv; have HF := hide hF; have HPa := hide ha; have HgF := hide hgF; have HgB := hide hgB; have HCt := hide hcn; clear hw0 hb0 hg hF hv ha hgF hgB hcn h
  go_enter Tryz.func80, Tryz.ntmps80
  go_wp2_with fail
  rw [HW0.out]; refine (HGd.out _).mono ?_; rintro e w1 ⟨rfl, hb1⟩; have HB1 := hide (HB0.out.trans (hb1.mono HB0.out.size)); have HX1 := hide (HX0.out.below hb1 HX0.out.lt); have x0 : w1.cell? ⟨w.heap.size, 0, none⟩ = some (.int .u32 (a : Int)) := HX1.out.cell 0; have x1 : w1.cell? ⟨w.heap.size, 1, none⟩ = some (.int .i64 (n : Int)) := HX1.out.cell 1; have HV1 := hide (HV0.out.below hb1 HV0.out.lt); have HZ1 := hide (HZ0.out.below hb1 HZ0.out.lt); clear hb1
  go_wp2_with fail
  refine (HFd.out _ HB1.out).mono ?_; rintro e w2 ⟨rfl, hb2⟩; have HB2 := hide (HB1.out.trans (hb2.mono HB1.out.size)); have HX2 := hide (HX1.out.below hb2 HX1.out.lt); have HV2 := hide (HV1.out.below hb2 HV1.out.lt); have HZ2 := hide (HZ1.out.below hb2 HZ1.out.lt); have HG2 := hide (HG.out.below HB2.out HG.out.lt); have HT2 := hide (HT.out.chg (S := fun _ => False) (chg_below HB2.out) (by simp) (by simp)); have hfw := trFind_w a n t HT2.out.mem; have hfb := trFind_sub a n t; clear hb2 x0 x1; obtain ⟨s, hs⟩ : ∃ s, trFind a n t = s := ⟨_, rfl⟩
  rw [hs] at hfw hfb hgf ⊢; have HRec := hide (fun W (hb : Below w2.heap.size w2 W) => putA_any (F := F) (R := R) x vh vo vA vn vc vp vm vf vs vi vB vk vd a n t W HPa.out (HT2.out.chg (S := fun _ => False) (chg_below hb) (by simp) (by simp)) (fun k hk => Nat.lt_of_lt_of_le (HF.out k hk) (Nat.le_trans HB2.out.size hb.size)) (frs_chg HFv.out (chg_below (S := fun _ => False) (HB2.out.trans (hb.mono HB2.out.size))) (by simp)) HCt.out)
  have hgo : Hid (s = .nil ∨ ∃ b p m l0 r0 v0 v1 v2 v3 v4 v5 v6 v7 v8 cn, s = .nd b p m none l0 r0 ∧ Blk w2 b 205 (ndC p m [v0, v1, v2, v3, v4, v5, v6, v7, v8] false cn (trPtr l0) (trPtr r0))) := hide (by
    rw [hno] at hgf
    cases s with
    | nil => exact .inl rfl
    | nd b p m v l0 r0 =>
      simp only at hgf; subst hgf; obtain ⟨⟨vs, hv, hk, _⟩, _, _⟩ := hfw; obtain ⟨v0, v1, v2, v3, v4, v5, v6, v7, v8, rfl⟩ := lenA hv; exact .inr ⟨b, p, m, l0, r0, v0, v1, v2, v3, v4, v5, v6, v7, v8, _, rfl, hk⟩)
  clear hfw hfb hgf hs hno; rcases hgo.out with rfl | ⟨b, p, m, l0, r0, v0, v1, v2, v3, v4, v5, v6, v7, v8, cn, rfl, hk⟩
  all_goals clear hgo
  · have e0 : trPtr (.nil : Tr α) = .pointer none := rfl; rw [e0]; clear e0
    go_upto_region 7 with fail
    refine wp_region_relH 10 0 (Nat.zero_le _) [(fun v _ => v = .pointer (some ⟨g, 0, none⟩)), (fun v _ => v = .pointer (some ⟨g, 0, none⟩)), (fun v _ => v = .pointer (some ⟨g, 0, none⟩)), (fun v _ => v = .pointer (some ⟨g, 0, none⟩)), (fun v _ => v = trPtr t), (fun v _ => v = .agg #[.int .u32 (a : Int), .int .i64 (n : Int)]), (fun v _ => v = .agg #[.int .i64 vh, .int .i64 vo, .slice vA vn vc, .int .u32 vp, .int .u32 vm, .int .u32 vf, .int .u32 vs, .int .u32 vi, .slice vB vk vd]), (fun v W => ∃ t2, v = trPtr t2 ∧ PutR a n x t t2 ∧ TrA 9 205 F R W t2 ∧ (∀ k ∈ trB t2, k ∈ trB t ∨ w2.heap.size ≤ k) ∧ ChgS (fun k => k ∈ trB t) w2 W), (fun v _ => v = .pointer (some ⟨g, 0, none⟩)), (fun v _ => v = .pointer (some ⟨g, 0, none⟩))] (fun i W => (1 ≤ i ∧ i ≤ 7) → Below w2.heap.size w2 W) (fun i Wa Wb => if i = 7 then Below 0 Wa Wb else Below Wa.heap.size Wa Wb) (by kernel_rfl) (by kernel_rfl) (by kernel_rfl) (by kernel_rfl) (by kernel_rfl) ?hE ?hR ?hP ?h0 ⟨?_, ?_, ?_, ?_, ?_, ?_, ?_, ?_, ?_, ?_, trivial⟩ ?_
    case hE =>
      intro i2 wa wb hB he; split at he
      · exact he
      · exact he.mono (Nat.zero_le _)
    case hR =>
      intro i2 j2 v2 wa wb hij hB he h; split at he
      · rename_i hj2; subst hj2; refine keepAll_at (E := fun wa wb => Below 0 wa wb) (x := 7) (k := 0) ?_ (by omega) he h; exact ⟨fun _ v wa wb he h => h, fun _ v wa wb he h => h, fun _ v wa wb he h => h, fun _ v wa wb he h => h, fun _ v wa wb he h => h, fun _ v wa wb he h => h, fun _ v wa wb he h => h, fun hn => absurd rfl hn, fun _ v wa wb he h => h, fun _ v wa wb he h => h, trivial⟩
      · refine relMono _ ?_ i2 v2 wa wb he h; exact ⟨fun _ _ _ _ h => h, fun _ _ _ _ h => h, fun _ _ _ _ h => h, fun _ _ _ _ h => h, fun _ _ _ _ h => h, fun _ _ _ _ h => h, fun _ _ _ _ h => h, fun v wa wb hb ⟨t2, e, h1, h2, h3, h4⟩ => ⟨t2, e, h1, h2.chg (S := fun _ => False) (chg_below hb) (by simp) (by simp), h3, chg_trans h4 (chg_below (S := fun _ => False) hb) (fun k h => h.elim)⟩, fun _ _ _ _ h => h, fun _ _ _ _ h => h, trivial⟩
    case hP =>
      intro i2 j2 wa wb hij hnb hB he h hi; split at he
      · rename_i hj2; subst hj2; have hi3 : i2 = 1 ∨ i2 = 2 ∨ i2 = 3 ∨ i2 = 4 ∨ i2 = 5 ∨ i2 = 6 ∨ i2 = 7 := (by omega)
        rcases hi3 with rfl | rfl | rfl | rfl | rfl | rfl | rfl
        all_goals first | exact absurd rfl hij | exact absurd hnb (by decide +kernel)
      · exact (h hi).trans (he.mono (h hi).size)
    case h0 =>
      intro j2 hj2 _; exact (Below.refl _ _).drew
    · refine relG_plain rfl rfl (fun _ _ h => h) ?_; intro Ac w5 hp; have a0 : Ac.eval (.tmp 0) = .pointer (some ⟨g, 0, none⟩) := hp.out 0 (by rfl); exact relPureX (.pointer (some ⟨g, 0, none⟩)) (fun ρ hρ h1 h2 h3 => by rw [hρ] at a0; simp [go_sem, ↓IntWalk.iteOmega, *]) rfl
    · refine relG_plain rfl rfl (fun _ _ h => h) ?_; intro Ac w5 hp; have a0 : Ac.eval (.tmp 0) = .pointer (some ⟨g, 0, none⟩) := hp.out 0 (by rfl); exact relPureX (.pointer (some ⟨g, 0, none⟩)) (fun ρ hρ h1 h2 h3 => by rw [hρ] at a0; simp [go_sem, ↓IntWalk.iteOmega, *]) rfl
    · refine relG_plain rfl rfl (fun _ _ h => h) ?_; intro Ac w5 hp; have a38 : Ac.eval (.tmp 38) = .pointer (some ⟨g, 0, none⟩) := hp.dep 1 (by kernel_rfl); exact relPureX (.pointer (some ⟨g, 0, none⟩)) (fun ρ hρ h1 h2 h3 => by rw [hρ] at a38; simp [go_sem, ↓IntWalk.iteOmega, *]) rfl
    · refine relG_plain rfl rfl (fun _ _ h => h) ?_; intro Ac w5 hp; have a39 : Ac.eval (.tmp 39) = .pointer (some ⟨g, 0, none⟩) := hp.dep 2 (by kernel_rfl); exact relPureX (.pointer (some ⟨g, 0, none⟩)) (fun ρ hρ h1 h2 h3 => by rw [hρ] at a39; simp [go_sem, ↓IntWalk.iteOmega, *]) rfl
    · refine relG_plain rfl rfl (fun _ _ h => h) ?_; intro Ac w5 hp; have hb := hp.bel; have a40 : Ac.eval (.tmp 40) = .pointer (some ⟨g, 0, none⟩) := hp.dep 3 (by kernel_rfl); have hb := hp.pre ⟨by decide, by decide⟩; have hg5 := HG2.out.below hb HG2.out.lt; have z0 : w5.cell? ⟨g, 0, none⟩ = some (trPtr t) := hg5.cell 0; exact relPureX (trPtr t) (fun ρ hρ h1 h2 h3 => by rw [hρ] at a40; simp [go_sem, ↓IntWalk.iteOmega, *]) rfl
    · refine relG_plain rfl rfl (fun _ _ h => h) ?_; intro Ac w5 hp; have hb := hp.bel; have a4 : Ac.eval (.tmp 4) = .pointer (some ⟨w.heap.size, 0, none⟩) := hp.out 4 (by rfl); have hb := hp.pre ⟨by decide, by decide⟩; have hx5 := HX2.out.below hb HX2.out.lt; have x0 : w5.cell? ⟨w.heap.size, 0, none⟩ = some (.int .u32 (a : Int)) := hx5.cell 0; have x1 : w5.cell? ⟨w.heap.size, 1, none⟩ = some (.int .i64 (n : Int)) := hx5.cell 1; exact relPureX (.agg #[.int .u32 (a : Int), .int .i64 (n : Int)]) (fun ρ hρ h1 h2 h3 => by rw [hρ] at a4; simp [go_sem, ↓IntWalk.iteOmega, *]) rfl
    · refine relG_plain rfl rfl (fun _ _ h => h) ?_; intro Ac w5 hp; have hb := hp.bel; have a5 : Ac.eval (.tmp 5) = .pointer (some ⟨w.heap.size + 1, 0, none⟩) := hp.out 5 (by rfl); have hb := hp.pre ⟨by decide, by decide⟩; have hv5 := HV2.out.below hb HV2.out.lt; have u0 : w5.cell? ⟨w.heap.size + 1, 0, none⟩ = some (.int .i64 vh) := hv5.cell 0; have u1 : w5.cell? ⟨w.heap.size + 1, 1, none⟩ = some (.int .i64 vo) := hv5.cell 1; have u2 : w5.cell? ⟨w.heap.size + 1, 2, none⟩ = some (.slice vA vn vc) := hv5.cell 2; have u3 : w5.cell? ⟨w.heap.size + 1, 3, none⟩ = some (.int .u32 vp) := hv5.cell 3; have u4 : w5.cell? ⟨w.heap.size + 1, 4, none⟩ = some (.int .u32 vm) := hv5.cell 4; have u5 : w5.cell? ⟨w.heap.size + 1, 5, none⟩ = some (.int .u32 vf) := hv5.cell 5; have u6 : w5.cell? ⟨w.heap.size + 1, 6, none⟩ = some (.int .u32 vs) := hv5.cell 6; have u7 : w5.cell? ⟨w.heap.size + 1, 7, none⟩ = some (.int .u32 vi) := hv5.cell 7; have u8 : w5.cell? ⟨w.heap.size + 1, 8, none⟩ = some (.slice vB vk vd) := hv5.cell 8; exact relPureX (.agg #[.int .i64 vh, .int .i64 vo, .slice vA vn vc, .int .u32 vp, .int .u32 vm, .int .u32 vf, .int .u32 vs, .int .u32 vi, .slice vB vk vd]) (fun ρ hρ h1 h2 h3 => by rw [hρ] at a5; simp [go_sem, ↓IntWalk.iteOmega, *]) rfl
    · refine relG_enter rfl rfl ?_; intro Ac w5 hp; have hb := hp.bel; have a41 : Ac.eval (.tmp 41) = trPtr t := hp.dep 4 (by kernel_rfl); have a42 : Ac.eval (.tmp 42) = .agg #[.int .u32 (a : Int), .int .i64 (n : Int)] := hp.dep 5 (by kernel_rfl); have a43 : Ac.eval (.tmp 43) = .agg #[.int .i64 vh, .int .i64 vo, .slice vA vn vc, .int .u32 vp, .int .u32 vm, .int .u32 vf, .int .u32 vs, .int .u32 vi, .slice vB vk vd] := hp.dep 6 (by kernel_rfl); obtain ⟨ρ, hρ, hc, hf, hgl⟩ := evalX Ac; rw [hρ] at a41 a42 a43; refine ⟨141, #[trPtr t, .agg #[.int .u32 (a : Int), .int .i64 (n : Int)], .agg #[.int .i64 vh, .int .i64 vo, .slice vA vn vc, .int .u32 vp, .int .u32 vm, .int .u32 vf, .int .u32 vs, .int .u32 vi, .slice vB vk vd]], by rw [hρ]; simp [go_sem, hc, hf, hgl, ↓IntWalk.iteOmega, a41, a42, a43, *], ?_⟩; have hb := hp.pre ⟨by decide, by decide⟩; refine (HRec.out w5 hb).mono ?_; rintro e w6 ⟨t2, rfl, h1, h2, h3, h4⟩; refine ⟨_, rfl, ⟨t2, rfl, h1, h2, fun k hk => (h3 k hk).imp id (Nat.le_trans hb.size), chg_trans (chg_below hb) h4 (fun k h => .inl h)⟩, by show Below 0 w5 w6; exact ⟨h4.os, h4.tape, h4.output, h4.size, fun k hk => absurd hk (Nat.not_lt_zero k)⟩⟩
    · refine relG_plain rfl rfl (fun _ _ h => h) ?_; intro Ac w5 hp; have a37 : Ac.eval (.tmp 37) = .pointer (some ⟨g, 0, none⟩) := hp.dep 0 (by kernel_rfl); exact relPureX (.pointer (some ⟨g, 0, none⟩)) (fun ρ hρ h1 h2 h3 => by rw [hρ] at a37; simp [go_sem, ↓IntWalk.iteOmega, *]) rfl
    · refine relG_plain rfl rfl (fun _ _ h => h) ?_; intro Ac w5 hp; have a45 : Ac.eval (.tmp 45) = .pointer (some ⟨g, 0, none⟩) := hp.dep 8 (by kernel_rfl); exact relPureX (.pointer (some ⟨g, 0, none⟩)) (fun ρ hρ h1 h2 h3 => by rw [hρ] at a45; simp [go_sem, ↓IntWalk.iteOmega, *]) rfl
    intro u w9 hb7 hall; obtain ⟨t44, e44, h44a, h44b, h44c, h44d⟩ := relAll_at hall (i := 7) (by decide +kernel); change u 7 = _ at e44; have e46 : u 9 = .pointer (some ⟨g, 0, none⟩) := relAll_at hall (i := 9) (by decide +kernel); clear hall; simp only [List.drop_succ_cons, List.drop_zero, List.take_succ_cons, List.take_zero, putAll, Act.put, List.setIfInBounds_toArray, List.set_cons_zero, List.set_cons_succ, Nat.zero_add, Nat.reduceAdd, e44, e46]; have hcb : w.heap.size + 1 + 1 < w2.heap.size := HZ2.out.lt; have hgl := HG.out.lt; have htl := HT.out.mem.lt; have HG9 := hide (chg_blk h44d HG2.out HgB.out); have HZ9 := hide (chg_blk h44d HZ2.out (fun h => by have := htl _ h; omega)); have hg44 : g ∉ trB t44 := fun h => (h44c g h).elim HgB.out (fun h => by omega); have hc44 : w.heap.size + 1 + 1 ∉ trB t44 := fun h => (h44c _ h).elim (fun h => by have := htl _ h; omega) (fun h => by omega); obtain ⟨q44, hq44⟩ := trPtr_ptr t44; rw [hq44]; have zg : w9.cell? ⟨g, 0, none⟩ = some (trPtr t) := HG9.out.cell 0; have zgf := HG9.out.frozen 0; obtain ⟨w10, hw10⟩ : ∃ W, w9.setCell ⟨g, 0, none⟩ (.pointer q44) = W := ⟨_, rfl⟩
    have HZ10 : Hid (Blk w10 (w.heap.size + 1 + 1) 28 #[.int .i64 0, .int .i64 0, .slice none 0 0, .int .u32 0, .int .u32 0, .int .u32 0, .int .u32 0, .int .u32 0, .slice none 0 0]) := hide (hw10 ▸ HZ9.out.far (p := ⟨g, 0, none⟩) (by show w.heap.size + 1 + 1 ≠ g; omega) _); have HG10 : Hid (Blk w10 g 201 #[trPtr t44]) := hide (by rw [hq44]; exact hw10 ▸ HG9.out.set_ 0 _); have HC10 : Hid (ChgS (fun k => k = g) w9 w10) := hide (hw10 ▸ chg_set (S := fun k => k = g) (p := ⟨g, 0, none⟩) rfl _); have HT10 := hide (h44b.chg HC10.out (fun k hk e => hg44 (e ▸ hk)) (fun k hF e => HgF.out (e ▸ hF))); have HCw : Hid (ChgS (fun k => k = g ∨ k ∈ trB t) w w10) := hide (chg_trans (chg_trans (chg_below (S := fun k => k = g ∨ k ∈ trB t) HB2.out) h44d (fun k h => .inl (.inr h))) HC10.out (fun k h => .inl (.inl h))); have HPu := hide h44a; have HSu := hide (fun k hk => (h44c k hk).imp id (Nat.le_trans HB2.out.size)); have Hc44 := hide hc44; have HWd := hide hw10; clear hw10 hq44 h44a h44b h44c h44d hb7 hg44 hc44 htl
    go_upto_region 8 with fail
    rw [HWd.out]; clear zg zgf; have z0 : w10.cell? ⟨w.heap.size + 1 + 1, 0, none⟩ = some (.int .i64 0) := HZ10.out.cell 0; have z1 : w10.cell? ⟨w.heap.size + 1 + 1, 1, none⟩ = some (.int .i64 0) := HZ10.out.cell 1; have z2 : w10.cell? ⟨w.heap.size + 1 + 1, 2, none⟩ = some (.slice none 0 0) := HZ10.out.cell 2; have z3 : w10.cell? ⟨w.heap.size + 1 + 1, 3, none⟩ = some (.int .u32 0) := HZ10.out.cell 3; have z4 : w10.cell? ⟨w.heap.size + 1 + 1, 4, none⟩ = some (.int .u32 0) := HZ10.out.cell 4; have z5 : w10.cell? ⟨w.heap.size + 1 + 1, 5, none⟩ = some (.int .u32 0) := HZ10.out.cell 5; have z6 : w10.cell? ⟨w.heap.size + 1 + 1, 6, none⟩ = some (.int .u32 0) := HZ10.out.cell 6; have z7 : w10.cell? ⟨w.heap.size + 1 + 1, 7, none⟩ = some (.int .u32 0) := HZ10.out.cell 7; have z8 : w10.cell? ⟨w.heap.size + 1 + 1, 8, none⟩ = some (.slice none 0 0) := HZ10.out.cell 8; have zf := fun i => HZ10.out.frozen i; go_wp2; change bodyPost _ _ _ _ _ (w10.setCells (w.heap.size + 1 + 1) 0 [.int .i64 0, .int .i64 0, .slice none 0 0, .int .u32 0, .int .u32 0, .int .u32 0, .int .u32 0, .int .u32 0, .slice none 0 0]); obtain ⟨wF, hwF⟩ : ∃ x, w10.setCells (w.heap.size + 1 + 1) 0 [.int .i64 0, .int .i64 0, .slice none 0 0, .int .u32 0, .int .u32 0, .int .u32 0, .int .u32 0, .int .u32 0, .slice none 0 0] = x := ⟨_, rfl⟩
    have HFk := hide (hwF ▸ blk_sets [.int .i64 0, .int .i64 0, .slice none 0 0, .int .u32 0, .int .u32 0, .int .u32 0, .int .u32 0, .int .u32 0, .slice none 0 0] [] [.int .i64 0, .int .i64 0, .slice none 0 0, .int .u32 0, .int .u32 0, .int .u32 0, .int .u32 0, .int .u32 0, .slice none 0 0] HZ10.out rfl : Blk wF (w.heap.size + 1 + 1) 28 #[.int .i64 0, .int .i64 0, .slice none 0 0, .int .u32 0, .int .u32 0, .int .u32 0, .int .u32 0, .int .u32 0, .slice none 0 0]); have HFg := hide (hwF ▸ blk_sets_far (by omega) [.int .i64 0, .int .i64 0, .slice none 0 0, .int .u32 0, .int .u32 0, .int .u32 0, .int .u32 0, .int .u32 0, .slice none 0 0] 0 HG10.out : Blk wF g 201 _); have HFc : Hid (ChgS (fun k => k = w.heap.size + 1 + 1) w10 wF) := hide (hwF ▸ chg_sets (S := fun k => k = w.heap.size + 1 + 1) rfl [.int .i64 0, .int .i64 0, .slice none 0 0, .int .u32 0, .int .u32 0, .int .u32 0, .int .u32 0, .int .u32 0, .slice none 0 0] 0); rw [hwF]; clear hwF z0 z1 z2 z3 z4 z5 z6 z7 z8 zf; have z0 : wF.cell? ⟨w.heap.size + 1 + 1, 0, none⟩ = some (.int .i64 0) := HFk.out.cell 0; have z1 : wF.cell? ⟨w.heap.size + 1 + 1, 1, none⟩ = some (.int .i64 0) := HFk.out.cell 1; have z2 : wF.cell? ⟨w.heap.size + 1 + 1, 2, none⟩ = some (.slice none 0 0) := HFk.out.cell 2; have z3 : wF.cell? ⟨w.heap.size + 1 + 1, 3, none⟩ = some (.int .u32 0) := HFk.out.cell 3; have z4 : wF.cell? ⟨w.heap.size + 1 + 1, 4, none⟩ = some (.int .u32 0) := HFk.out.cell 4; have z5 : wF.cell? ⟨w.heap.size + 1 + 1, 5, none⟩ = some (.int .u32 0) := HFk.out.cell 5; have z6 : wF.cell? ⟨w.heap.size + 1 + 1, 6, none⟩ = some (.int .u32 0) := HFk.out.cell 6; have z7 : wF.cell? ⟨w.heap.size + 1 + 1, 7, none⟩ = some (.int .u32 0) := HFk.out.cell 7; have z8 : wF.cell? ⟨w.heap.size + 1 + 1, 8, none⟩ = some (.slice none 0 0) := HFk.out.cell 8; refine bodyPost_ret (v := .tuple #[.agg #[.int .i64 0, .int .i64 0, .slice none 0 0, .int .u32 0, .int .u32 0, .int .u32 0, .int .u32 0, .int .u32 0, .slice none 0 0], .bool false]) (by simp [results, Tryz.results80, go_sem, z0, z1, z2, z3, z4, z5, z6, z7, z8]) rfl ⟨rfl, t44, HPu.out, HFg.out, HT10.out.chg HFc.out (fun k hk e => Hc44.out (e ▸ hk)) (fun k hF e => by have := HF.out k hF; omega), HSu.out, chg_trans HCw.out HFc.out (fun k h => .inr (by omega))⟩
  · have e0 : trPtr (.nd b p m none l0 r0 : Tr α) = .pointer (some ⟨b, 0, none⟩) := rfl; rw [e0]; have yp : w2.cell? ⟨b, 11, none⟩ = some (.bool false) := hk.cell 11; clear e0 hk
    go_upto_region 7 with fail
    refine wp_region_relH 10 0 (Nat.zero_le _) [(fun v _ => v = .pointer (some ⟨g, 0, none⟩)), (fun v _ => v = .pointer (some ⟨g, 0, none⟩)), (fun v _ => v = .pointer (some ⟨g, 0, none⟩)), (fun v _ => v = .pointer (some ⟨g, 0, none⟩)), (fun v _ => v = trPtr t), (fun v _ => v = .agg #[.int .u32 (a : Int), .int .i64 (n : Int)]), (fun v _ => v = .agg #[.int .i64 vh, .int .i64 vo, .slice vA vn vc, .int .u32 vp, .int .u32 vm, .int .u32 vf, .int .u32 vs, .int .u32 vi, .slice vB vk vd]), (fun v W => ∃ t2, v = trPtr t2 ∧ PutR a n x t t2 ∧ TrA 9 205 F R W t2 ∧ (∀ k ∈ trB t2, k ∈ trB t ∨ w2.heap.size ≤ k) ∧ ChgS (fun k => k ∈ trB t) w2 W), (fun v _ => v = .pointer (some ⟨g, 0, none⟩)), (fun v _ => v = .pointer (some ⟨g, 0, none⟩))] (fun i W => (1 ≤ i ∧ i ≤ 7) → Below w2.heap.size w2 W) (fun i Wa Wb => if i = 7 then Below 0 Wa Wb else Below Wa.heap.size Wa Wb) (by kernel_rfl) (by kernel_rfl) (by kernel_rfl) (by kernel_rfl) (by kernel_rfl) ?hE ?hR ?hP ?h0 ⟨?_, ?_, ?_, ?_, ?_, ?_, ?_, ?_, ?_, ?_, trivial⟩ ?_
    case hE =>
      intro i2 wa wb hB he; split at he
      · exact he
      · exact he.mono (Nat.zero_le _)
    case hR =>
      intro i2 j2 v2 wa wb hij hB he h; split at he
      · rename_i hj2; subst hj2; refine keepAll_at (E := fun wa wb => Below 0 wa wb) (x := 7) (k := 0) ?_ (by omega) he h; exact ⟨fun _ v wa wb he h => h, fun _ v wa wb he h => h, fun _ v wa wb he h => h, fun _ v wa wb he h => h, fun _ v wa wb he h => h, fun _ v wa wb he h => h, fun _ v wa wb he h => h, fun hn => absurd rfl hn, fun _ v wa wb he h => h, fun _ v wa wb he h => h, trivial⟩
      · refine relMono _ ?_ i2 v2 wa wb he h; exact ⟨fun _ _ _ _ h => h, fun _ _ _ _ h => h, fun _ _ _ _ h => h, fun _ _ _ _ h => h, fun _ _ _ _ h => h, fun _ _ _ _ h => h, fun _ _ _ _ h => h, fun v wa wb hb ⟨t2, e, h1, h2, h3, h4⟩ => ⟨t2, e, h1, h2.chg (S := fun _ => False) (chg_below hb) (by simp) (by simp), h3, chg_trans h4 (chg_below (S := fun _ => False) hb) (fun k h => h.elim)⟩, fun _ _ _ _ h => h, fun _ _ _ _ h => h, trivial⟩
    case hP =>
      intro i2 j2 wa wb hij hnb hB he h hi; split at he
      · rename_i hj2; subst hj2; have hi3 : i2 = 1 ∨ i2 = 2 ∨ i2 = 3 ∨ i2 = 4 ∨ i2 = 5 ∨ i2 = 6 ∨ i2 = 7 := (by omega)
        rcases hi3 with rfl | rfl | rfl | rfl | rfl | rfl | rfl
        all_goals first | exact absurd rfl hij | exact absurd hnb (by decide +kernel)
      · exact (h hi).trans (he.mono (h hi).size)
    case h0 =>
      intro j2 hj2 _; exact (Below.refl _ _).drew
    · refine relG_plain rfl rfl (fun _ _ h => h) ?_; intro Ac w5 hp; have a0 : Ac.eval (.tmp 0) = .pointer (some ⟨g, 0, none⟩) := hp.out 0 (by rfl); exact relPureX (.pointer (some ⟨g, 0, none⟩)) (fun ρ hρ h1 h2 h3 => by rw [hρ] at a0; simp [go_sem, ↓IntWalk.iteOmega, *]) rfl
    · refine relG_plain rfl rfl (fun _ _ h => h) ?_; intro Ac w5 hp; have a0 : Ac.eval (.tmp 0) = .pointer (some ⟨g, 0, none⟩) := hp.out 0 (by rfl); exact relPureX (.pointer (some ⟨g, 0, none⟩)) (fun ρ hρ h1 h2 h3 => by rw [hρ] at a0; simp [go_sem, ↓IntWalk.iteOmega, *]) rfl
    · refine relG_plain rfl rfl (fun _ _ h => h) ?_; intro Ac w5 hp; have a38 : Ac.eval (.tmp 38) = .pointer (some ⟨g, 0, none⟩) := hp.dep 1 (by kernel_rfl); exact relPureX (.pointer (some ⟨g, 0, none⟩)) (fun ρ hρ h1 h2 h3 => by rw [hρ] at a38; simp [go_sem, ↓IntWalk.iteOmega, *]) rfl
    · refine relG_plain rfl rfl (fun _ _ h => h) ?_; intro Ac w5 hp; have a39 : Ac.eval (.tmp 39) = .pointer (some ⟨g, 0, none⟩) := hp.dep 2 (by kernel_rfl); exact relPureX (.pointer (some ⟨g, 0, none⟩)) (fun ρ hρ h1 h2 h3 => by rw [hρ] at a39; simp [go_sem, ↓IntWalk.iteOmega, *]) rfl
    · refine relG_plain rfl rfl (fun _ _ h => h) ?_; intro Ac w5 hp; have hb := hp.bel; have a40 : Ac.eval (.tmp 40) = .pointer (some ⟨g, 0, none⟩) := hp.dep 3 (by kernel_rfl); have hb := hp.pre ⟨by decide, by decide⟩; have hg5 := HG2.out.below hb HG2.out.lt; have z0 : w5.cell? ⟨g, 0, none⟩ = some (trPtr t) := hg5.cell 0; exact relPureX (trPtr t) (fun ρ hρ h1 h2 h3 => by rw [hρ] at a40; simp [go_sem, ↓IntWalk.iteOmega, *]) rfl
    · refine relG_plain rfl rfl (fun _ _ h => h) ?_; intro Ac w5 hp; have hb := hp.bel; have a4 : Ac.eval (.tmp 4) = .pointer (some ⟨w.heap.size, 0, none⟩) := hp.out 4 (by rfl); have hb := hp.pre ⟨by decide, by decide⟩; have hx5 := HX2.out.below hb HX2.out.lt; have x0 : w5.cell? ⟨w.heap.size, 0, none⟩ = some (.int .u32 (a : Int)) := hx5.cell 0; have x1 : w5.cell? ⟨w.heap.size, 1, none⟩ = some (.int .i64 (n : Int)) := hx5.cell 1; exact relPureX (.agg #[.int .u32 (a : Int), .int .i64 (n : Int)]) (fun ρ hρ h1 h2 h3 => by rw [hρ] at a4; simp [go_sem, ↓IntWalk.iteOmega, *]) rfl
    · refine relG_plain rfl rfl (fun _ _ h => h) ?_; intro Ac w5 hp; have hb := hp.bel; have a5 : Ac.eval (.tmp 5) = .pointer (some ⟨w.heap.size + 1, 0, none⟩) := hp.out 5 (by rfl); have hb := hp.pre ⟨by decide, by decide⟩; have hv5 := HV2.out.below hb HV2.out.lt; have u0 : w5.cell? ⟨w.heap.size + 1, 0, none⟩ = some (.int .i64 vh) := hv5.cell 0; have u1 : w5.cell? ⟨w.heap.size + 1, 1, none⟩ = some (.int .i64 vo) := hv5.cell 1; have u2 : w5.cell? ⟨w.heap.size + 1, 2, none⟩ = some (.slice vA vn vc) := hv5.cell 2; have u3 : w5.cell? ⟨w.heap.size + 1, 3, none⟩ = some (.int .u32 vp) := hv5.cell 3; have u4 : w5.cell? ⟨w.heap.size + 1, 4, none⟩ = some (.int .u32 vm) := hv5.cell 4; have u5 : w5.cell? ⟨w.heap.size + 1, 5, none⟩ = some (.int .u32 vf) := hv5.cell 5; have u6 : w5.cell? ⟨w.heap.size + 1, 6, none⟩ = some (.int .u32 vs) := hv5.cell 6; have u7 : w5.cell? ⟨w.heap.size + 1, 7, none⟩ = some (.int .u32 vi) := hv5.cell 7; have u8 : w5.cell? ⟨w.heap.size + 1, 8, none⟩ = some (.slice vB vk vd) := hv5.cell 8; exact relPureX (.agg #[.int .i64 vh, .int .i64 vo, .slice vA vn vc, .int .u32 vp, .int .u32 vm, .int .u32 vf, .int .u32 vs, .int .u32 vi, .slice vB vk vd]) (fun ρ hρ h1 h2 h3 => by rw [hρ] at a5; simp [go_sem, ↓IntWalk.iteOmega, *]) rfl
    · refine relG_enter rfl rfl ?_; intro Ac w5 hp; have hb := hp.bel; have a41 : Ac.eval (.tmp 41) = trPtr t := hp.dep 4 (by kernel_rfl); have a42 : Ac.eval (.tmp 42) = .agg #[.int .u32 (a : Int), .int .i64 (n : Int)] := hp.dep 5 (by kernel_rfl); have a43 : Ac.eval (.tmp 43) = .agg #[.int .i64 vh, .int .i64 vo, .slice vA vn vc, .int .u32 vp, .int .u32 vm, .int .u32 vf, .int .u32 vs, .int .u32 vi, .slice vB vk vd] := hp.dep 6 (by kernel_rfl); obtain ⟨ρ, hρ, hc, hf, hgl⟩ := evalX Ac; rw [hρ] at a41 a42 a43; refine ⟨141, #[trPtr t, .agg #[.int .u32 (a : Int), .int .i64 (n : Int)], .agg #[.int .i64 vh, .int .i64 vo, .slice vA vn vc, .int .u32 vp, .int .u32 vm, .int .u32 vf, .int .u32 vs, .int .u32 vi, .slice vB vk vd]], by rw [hρ]; simp [go_sem, hc, hf, hgl, ↓IntWalk.iteOmega, a41, a42, a43, *], ?_⟩; have hb := hp.pre ⟨by decide, by decide⟩; refine (HRec.out w5 hb).mono ?_; rintro e w6 ⟨t2, rfl, h1, h2, h3, h4⟩; refine ⟨_, rfl, ⟨t2, rfl, h1, h2, fun k hk => (h3 k hk).imp id (Nat.le_trans hb.size), chg_trans (chg_below hb) h4 (fun k h => .inl h)⟩, by show Below 0 w5 w6; exact ⟨h4.os, h4.tape, h4.output, h4.size, fun k hk => absurd hk (Nat.not_lt_zero k)⟩⟩
    · refine relG_plain rfl rfl (fun _ _ h => h) ?_; intro Ac w5 hp; have a37 : Ac.eval (.tmp 37) = .pointer (some ⟨g, 0, none⟩) := hp.dep 0 (by kernel_rfl); exact relPureX (.pointer (some ⟨g, 0, none⟩)) (fun ρ hρ h1 h2 h3 => by rw [hρ] at a37; simp [go_sem, ↓IntWalk.iteOmega, *]) rfl
    · refine relG_plain rfl rfl (fun _ _ h => h) ?_; intro Ac w5 hp; have a45 : Ac.eval (.tmp 45) = .pointer (some ⟨g, 0, none⟩) := hp.dep 8 (by kernel_rfl); exact relPureX (.pointer (some ⟨g, 0, none⟩)) (fun ρ hρ h1 h2 h3 => by rw [hρ] at a45; simp [go_sem, ↓IntWalk.iteOmega, *]) rfl
    intro u w9 hb7 hall; obtain ⟨t44, e44, h44a, h44b, h44c, h44d⟩ := relAll_at hall (i := 7) (by decide +kernel); change u 7 = _ at e44; have e46 : u 9 = .pointer (some ⟨g, 0, none⟩) := relAll_at hall (i := 9) (by decide +kernel); clear hall; simp only [List.drop_succ_cons, List.drop_zero, List.take_succ_cons, List.take_zero, putAll, Act.put, List.setIfInBounds_toArray, List.set_cons_zero, List.set_cons_succ, Nat.zero_add, Nat.reduceAdd, e44, e46]; clear yp; have hcb : w.heap.size + 1 + 1 < w2.heap.size := HZ2.out.lt; have hgl := HG.out.lt; have htl := HT.out.mem.lt; have HG9 := hide (chg_blk h44d HG2.out HgB.out); have HZ9 := hide (chg_blk h44d HZ2.out (fun h => by have := htl _ h; omega)); have hg44 : g ∉ trB t44 := fun h => (h44c g h).elim HgB.out (fun h => by omega); have hc44 : w.heap.size + 1 + 1 ∉ trB t44 := fun h => (h44c _ h).elim (fun h => by have := htl _ h; omega) (fun h => by omega); obtain ⟨q44, hq44⟩ := trPtr_ptr t44; rw [hq44]; have zg : w9.cell? ⟨g, 0, none⟩ = some (trPtr t) := HG9.out.cell 0; have zgf := HG9.out.frozen 0; obtain ⟨w10, hw10⟩ : ∃ W, w9.setCell ⟨g, 0, none⟩ (.pointer q44) = W := ⟨_, rfl⟩
    have HZ10 : Hid (Blk w10 (w.heap.size + 1 + 1) 28 #[.int .i64 0, .int .i64 0, .slice none 0 0, .int .u32 0, .int .u32 0, .int .u32 0, .int .u32 0, .int .u32 0, .slice none 0 0]) := hide (hw10 ▸ HZ9.out.far (p := ⟨g, 0, none⟩) (by show w.heap.size + 1 + 1 ≠ g; omega) _); have HG10 : Hid (Blk w10 g 201 #[trPtr t44]) := hide (by rw [hq44]; exact hw10 ▸ HG9.out.set_ 0 _); have HC10 : Hid (ChgS (fun k => k = g) w9 w10) := hide (hw10 ▸ chg_set (S := fun k => k = g) (p := ⟨g, 0, none⟩) rfl _); have HT10 := hide (h44b.chg HC10.out (fun k hk e => hg44 (e ▸ hk)) (fun k hF e => HgF.out (e ▸ hF))); have HCw : Hid (ChgS (fun k => k = g ∨ k ∈ trB t) w w10) := hide (chg_trans (chg_trans (chg_below (S := fun k => k = g ∨ k ∈ trB t) HB2.out) h44d (fun k h => .inl (.inr h))) HC10.out (fun k h => .inl (.inl h))); have HPu := hide h44a; have HSu := hide (fun k hk => (h44c k hk).imp id (Nat.le_trans HB2.out.size)); have Hc44 := hide hc44; have HWd := hide hw10; clear hw10 hq44 h44a h44b h44c h44d hb7 hg44 hc44 htl
    go_upto_region 8 with fail
    rw [HWd.out]; clear zg zgf; have z0 : w10.cell? ⟨w.heap.size + 1 + 1, 0, none⟩ = some (.int .i64 0) := HZ10.out.cell 0; have z1 : w10.cell? ⟨w.heap.size + 1 + 1, 1, none⟩ = some (.int .i64 0) := HZ10.out.cell 1; have z2 : w10.cell? ⟨w.heap.size + 1 + 1, 2, none⟩ = some (.slice none 0 0) := HZ10.out.cell 2; have z3 : w10.cell? ⟨w.heap.size + 1 + 1, 3, none⟩ = some (.int .u32 0) := HZ10.out.cell 3; have z4 : w10.cell? ⟨w.heap.size + 1 + 1, 4, none⟩ = some (.int .u32 0) := HZ10.out.cell 4; have z5 : w10.cell? ⟨w.heap.size + 1 + 1, 5, none⟩ = some (.int .u32 0) := HZ10.out.cell 5; have z6 : w10.cell? ⟨w.heap.size + 1 + 1, 6, none⟩ = some (.int .u32 0) := HZ10.out.cell 6; have z7 : w10.cell? ⟨w.heap.size + 1 + 1, 7, none⟩ = some (.int .u32 0) := HZ10.out.cell 7; have z8 : w10.cell? ⟨w.heap.size + 1 + 1, 8, none⟩ = some (.slice none 0 0) := HZ10.out.cell 8; have zf := fun i => HZ10.out.frozen i; go_wp2; change bodyPost _ _ _ _ _ (w10.setCells (w.heap.size + 1 + 1) 0 [.int .i64 0, .int .i64 0, .slice none 0 0, .int .u32 0, .int .u32 0, .int .u32 0, .int .u32 0, .int .u32 0, .slice none 0 0]); obtain ⟨wF, hwF⟩ : ∃ x, w10.setCells (w.heap.size + 1 + 1) 0 [.int .i64 0, .int .i64 0, .slice none 0 0, .int .u32 0, .int .u32 0, .int .u32 0, .int .u32 0, .int .u32 0, .slice none 0 0] = x := ⟨_, rfl⟩
    have HFk := hide (hwF ▸ blk_sets [.int .i64 0, .int .i64 0, .slice none 0 0, .int .u32 0, .int .u32 0, .int .u32 0, .int .u32 0, .int .u32 0, .slice none 0 0] [] [.int .i64 0, .int .i64 0, .slice none 0 0, .int .u32 0, .int .u32 0, .int .u32 0, .int .u32 0, .int .u32 0, .slice none 0 0] HZ10.out rfl : Blk wF (w.heap.size + 1 + 1) 28 #[.int .i64 0, .int .i64 0, .slice none 0 0, .int .u32 0, .int .u32 0, .int .u32 0, .int .u32 0, .int .u32 0, .slice none 0 0]); have HFg := hide (hwF ▸ blk_sets_far (by omega) [.int .i64 0, .int .i64 0, .slice none 0 0, .int .u32 0, .int .u32 0, .int .u32 0, .int .u32 0, .int .u32 0, .slice none 0 0] 0 HG10.out : Blk wF g 201 _); have HFc : Hid (ChgS (fun k => k = w.heap.size + 1 + 1) w10 wF) := hide (hwF ▸ chg_sets (S := fun k => k = w.heap.size + 1 + 1) rfl [.int .i64 0, .int .i64 0, .slice none 0 0, .int .u32 0, .int .u32 0, .int .u32 0, .int .u32 0, .int .u32 0, .slice none 0 0] 0); rw [hwF]; clear hwF z0 z1 z2 z3 z4 z5 z6 z7 z8 zf; have z0 : wF.cell? ⟨w.heap.size + 1 + 1, 0, none⟩ = some (.int .i64 0) := HFk.out.cell 0; have z1 : wF.cell? ⟨w.heap.size + 1 + 1, 1, none⟩ = some (.int .i64 0) := HFk.out.cell 1; have z2 : wF.cell? ⟨w.heap.size + 1 + 1, 2, none⟩ = some (.slice none 0 0) := HFk.out.cell 2; have z3 : wF.cell? ⟨w.heap.size + 1 + 1, 3, none⟩ = some (.int .u32 0) := HFk.out.cell 3; have z4 : wF.cell? ⟨w.heap.size + 1 + 1, 4, none⟩ = some (.int .u32 0) := HFk.out.cell 4; have z5 : wF.cell? ⟨w.heap.size + 1 + 1, 5, none⟩ = some (.int .u32 0) := HFk.out.cell 5; have z6 : wF.cell? ⟨w.heap.size + 1 + 1, 6, none⟩ = some (.int .u32 0) := HFk.out.cell 6; have z7 : wF.cell? ⟨w.heap.size + 1 + 1, 7, none⟩ = some (.int .u32 0) := HFk.out.cell 7; have z8 : wF.cell? ⟨w.heap.size + 1 + 1, 8, none⟩ = some (.slice none 0 0) := HFk.out.cell 8; refine bodyPost_ret (v := .tuple #[.agg #[.int .i64 0, .int .i64 0, .slice none 0 0, .int .u32 0, .int .u32 0, .int .u32 0, .int .u32 0, .int .u32 0, .slice none 0 0], .bool false]) (by simp [results, Tryz.results80, go_sem, z0, z1, z2, z3, z4, z5, z6, z7, z8]) rfl ⟨rfl, t44, HPu.out, HFg.out, HT10.out.chg HFc.out (fun k hk e => Hc44.out (e ▸ hk)) (fun k hF e => by have := HF.out k hF; omega), HSu.out, chg_trans HCw.out HFc.out (fun k h => .inr (by omega))⟩
end Go.Proofs.YtcinjckajnnhmaaGreat
set_option linter.unusedSimpArgs false
set_option linter.unusedVariables false
namespace Go.Proofs.YtcinjckajnnhmaaGreat
open Go.RowKit Go.WideShapes Go.ChangeShapes
attribute [local go_sem] Oper.semAt_some
set_option maxRecDepth 100000 in
set_option maxHeartbeats 32000000 in
theorem putfA_any {α : Type} {F : Nat → Prop} {R : World → List Value → α → Prop} (g a n : Nat) (t : Tr α) (x y : α) (vh vo : Int) (vA : Option Addr) (vn vc : Nat) (vp vm vf vs vi : Int) (vB : Option Addr) (vk vd : Nat) (w : World) (ha : PG a n) (hg : Blk w g 201 #[trPtr t]) (h : TrA 9 205 F R w t) (hF : ∀ k, F k → k < w.heap.size) (hv : FrS F none (fun w => R w [.int .i64 vh, .int .i64 vo, .slice vA vn vc, .int .u32 vp, .int .u32 vm, .int .u32 vf, .int .u32 vs, .int .u32 vi, .slice vB vk vd] x) w) (hgF : ¬ F g) (hgB : g ∉ trB t) (hcn : trCnt t < 100000000) (hyes : trGet a n t = some y) :
  Calls Tryz.prog 80 #[.pointer (some ⟨g, 0, none⟩), .agg #[.int .u32 (a : Int), .int .i64 (n : Int)], .agg #[.int .i64 vh, .int .i64 vo, .slice vA vn vc, .int .u32 vp, .int .u32 vm, .int .u32 vf, .int .u32 vs, .int .u32 vi, .slice vB vk vd]] w fun e w' => ∃ v0 v1 v2 v3 v4 v5 v6 v7 v8, e = .returned (.tuple #[.agg #[v0, v1, v2, v3, v4, v5, v6, v7, v8], .bool true]) ∧ FrS F none (fun w => R w [v0, v1, v2, v3, v4, v5, v6, v7, v8] y) w' ∧ PutR a n x t (trUpd a n x t) ∧ Blk w' g 201 #[trPtr (trUpd a n x t)] ∧ TrA 9 205 F R w' (trUpd a n x t) ∧ ChgS (fun k => k ∈ trB t) w w' := by
 obtain ⟨w0, hw0⟩ : ∃ w0, ((w.alloc (.cells #[.int .u32 (a : Int), .int .i64 (n : Int)] 24)).alloc (.cells #[.int .i64 vh, .int .i64 vo, .slice vA vn vc, .int .u32 vp, .int .u32 vm, .int .u32 vf, .int .u32 vs, .int .u32 vi, .slice vB vk vd] 28)).alloc (.cells #[.int .i64 0, .int .i64 0, .slice none 0 0, .int .u32 0, .int .u32 0, .int .u32 0, .int .u32 0, .int .u32 0, .slice none 0 0] 28) = w0 := ⟨_, rfl⟩
 have hb0 : Below w.heap.size w w0 := hw0 ▸ blkBelow3q w _ _ _; have HX0 : Hid (Blk w0 w.heap.size 24 #[.int .u32 (a : Int), .int .i64 (n : Int)]) := hide (hw0 ▸ ((Blk.new w _ _).alloc _).alloc _); have HV0 : Hid (Blk w0 (w.heap.size + 1) 28 #[.int .i64 vh, .int .i64 vo, .slice vA vn vc, .int .u32 vp, .int .u32 vm, .int .u32 vf, .int .u32 vs, .int .u32 vi, .slice vB vk vd]) := hide (hw0 ▸ (blk_new' _ _ (by simp)).alloc _); have HZ0 : Hid (Blk w0 (w.heap.size + 1 + 1) 28 #[.int .i64 0, .int .i64 0, .slice none 0 0, .int .u32 0, .int .u32 0, .int .u32 0, .int .u32 0, .int .u32 0, .slice none 0 0]) := hide (hw0 ▸ blk_new' _ _ (by simp)); have HGd := hide (Good_any a (n : Int) ha.1 (by omega) (by have := ha.2.1; omega)); rw [good_pg ha] at HGd; unfold pfx at HGd; have HFd := hide (fun W (hb : Below w.heap.size w W) => findA_any (F := F) (R := R) g a n t W ha (hg.below hb hg.lt) (h.mem.chg (S := fun _ => False) (chg_below hb) (by simp) (by simp)) h.wf); have hgf := trGet_find a n t; have HG := hide hg; have HT := hide h; have HW0 := hide hw0; have HB0 := hide hb0; have HFv := hide hv; have HF := hide hF; have HPa := hide ha; have HgF := hide hgF; have HgB := hide hgB; have HCt := hide hcn; clear hw0 hb0 hg hF hv ha hgF hgB hcn h
 go_enter Tryz.func80, Tryz.ntmps80
 go_wp2_with fail
 rw [HW0.out]; refine (HGd.out _).mono ?_; rintro e w1 ⟨rfl, hb1⟩; have HB1 := hide (HB0.out.trans (hb1.mono HB0.out.size)); have HX1 := hide (HX0.out.below hb1 HX0.out.lt); have x0 : w1.cell? ⟨w.heap.size, 0, none⟩ = some (.int .u32 (a : Int)) := HX1.out.cell 0; have x1 : w1.cell? ⟨w.heap.size, 1, none⟩ = some (.int .i64 (n : Int)) := HX1.out.cell 1; have HV1 := hide (HV0.out.below hb1 HV0.out.lt); have HZ1 := hide (HZ0.out.below hb1 HZ0.out.lt); clear hb1
 go_wp2_with fail
 refine (HFd.out _ HB1.out).mono ?_; rintro e w2 ⟨rfl, hb2⟩; have HB2 := hide (HB1.out.trans (hb2.mono HB1.out.size)); have HX2 := hide (HX1.out.below hb2 HX1.out.lt); have HV2 := hide (HV1.out.below hb2 HV1.out.lt); have HZ2 := hide (HZ1.out.below hb2 HZ1.out.lt); have HG2 := hide (HG.out.below HB2.out HG.out.lt); have HT2 := hide (HT.out.chg (S := fun _ => False) (chg_below HB2.out) (by simp) (by simp)); have hfw := trFind_w a n t HT2.out.mem; have hfb := trFind_sub a n t; clear hb2 x0 x1; obtain ⟨s, hs⟩ : ∃ s, trFind a n t = s := ⟨_, rfl⟩
 have HS := hide hs; rw [hs] at hfw hfb hgf ⊢; rw [hyes] at hgf
 cases s with
 | nil => exact absurd hgf (by simp)
 | nd b p m v l0 r0 =>
 simp only at hgf; subst hgf; obtain ⟨rfl, rfl⟩ := trFind_key t HS.out; obtain ⟨⟨vs, hvo, hk, hval⟩, _, _⟩ := hfw; obtain ⟨v0, v1, v2, v3, v4, v5, v6, v7, v8, rfl⟩ := lenA hvo; have HOne := hide hvo.2; have HVy := hide (hval y rfl); have hbt : b ∈ trB t := hfb b (by simp [trB]); have hbl := HT.out.mem.lt b hbt; have HNe : Hid (b ≠ w.heap.size + 1 + 1) := hide (by omega); have HNv : Hid (w.heap.size + 1 ≠ b) := hide (by omega); have HNv1 : Hid (w.heap.size + 1 ≠ w.heap.size + 1 + 1) := hide (by omega); have HPut := hide (trUpd_put (x := x) HPa.out t HT.out.wf hyes); obtain ⟨cn, hcn⟩ : ∃ c, trCnt l0 + trCnt r0 + 1 = c := ⟨_, rfl⟩
 have HN2 : Hid (Blk w2 b 205 (ndC p m [v0, v1, v2, v3, v4, v5, v6, v7, v8] true cn (trPtr l0) (trPtr r0))) := hide (hcn ▸ hk); have HCn := hide hcn; have e0 : trPtr (.nd b p m (some y) l0 r0 : Tr α) = .pointer (some ⟨b, 0, none⟩) := rfl; rw [e0]; have yp : w2.cell? ⟨b, 11, none⟩ = some (.bool true) := HN2.out.cell 11; have Hbt := hide hbt; clear e0 hk hfb hs hyes hvo hval hcn hbt hbl
 go_upto_region 5 with fail
 clear yp; refine wp_region_relH 10 0 (Nat.zero_le _) [(fun v _ => v = .pointer (some ⟨b, 0, none⟩)), (fun v _ => v = .pointer (some ⟨b, 0, none⟩)), (fun v _ => v = .pointer (some ⟨b, 0, none⟩)), (fun v _ => v = .pointer (some ⟨b, 2, none⟩)), (fun v _ => v = .agg #[v0, v1, v2, v3, v4, v5, v6, v7, v8]), (fun v _ => v = .agg #[.int .i64 vh, .int .i64 vo, .slice vA vn vc, .int .u32 vp, .int .u32 vm, .int .u32 vf, .int .u32 vs, .int .u32 vi, .slice vB vk vd]), (fun _ W => Blk W (w.heap.size + 1 + 1) 28 #[v0, v1, v2, v3, v4, v5, v6, v7, v8]), (fun v _ => v = .pointer (some ⟨b, 0, none⟩)), (fun v _ => v = .pointer (some ⟨b, 2, none⟩)), (fun _ W => Both5 w2 W (fun k => k = b ∨ k = w.heap.size + 1 + 1) b 205 (ndC p m [.int .i64 vh, .int .i64 vo, .slice vA vn vc, .int .u32 vp, .int .u32 vm, .int .u32 vf, .int .u32 vs, .int .u32 vi, .slice vB vk vd] true cn (trPtr l0) (trPtr r0)))] (fun i W => Blk W (w.heap.size + 1) 28 #[.int .i64 vh, .int .i64 vo, .slice vA vn vc, .int .u32 vp, .int .u32 vm, .int .u32 vf, .int .u32 vs, .int .u32 vi, .slice vB vk vd] ∧ ChgS (fun k => k = b ∨ k = w.heap.size + 1 + 1) w2 W ∧ (i = 6 → Blk W (w.heap.size + 1 + 1) 28 #[.int .i64 0, .int .i64 0, .slice none 0 0, .int .u32 0, .int .u32 0, .int .u32 0, .int .u32 0, .int .u32 0, .slice none 0 0]) ∧ (i = 4 ∨ i = 9 → Blk W b 205 (ndC p m [v0, v1, v2, v3, v4, v5, v6, v7, v8] true cn (trPtr l0) (trPtr r0)))) (fun i Wa Wb => if i = 6 then EffC (w.heap.size + 1 + 1) 0 [v0, v1, v2, v3, v4, v5, v6, v7, v8] Wa Wb else if i = 9 then EffC b 2 [.int .i64 vh, .int .i64 vo, .slice vA vn vc, .int .u32 vp, .int .u32 vm, .int .u32 vf, .int .u32 vs, .int .u32 vi, .slice vB vk vd] Wa Wb else Below Wa.heap.size Wa Wb) (by kernel_rfl) (by kernel_rfl) (by kernel_rfl) (by kernel_rfl) (by kernel_rfl) ?hE ?hR ?hP ?h0 ⟨?_, ?_, ?_, ?_, ?_, ?_, ?_, ?_, ?_, ?_, trivial⟩ ?_
 case hE =>
  intro i2 wa wb hB he; split at he
  ·exact effC_below he
  ·split at he
   ·exact effC_below he
   ·exact he.mono (Nat.zero_le _)
 case hR =>
  intro i2 j2 vz wa wb hij hB he h; split at he
  ·rename_i hj2; subst hj2; refine keepAll_at (E := EffC (w.heap.size + 1 + 1) 0 [v0, v1, v2, v3, v4, v5, v6, v7, v8]) (x := 6) (k := 0) ?_ (by omega) he h; exact ⟨fun _ v wa wb he h => h, fun _ v wa wb he h => h, fun _ v wa wb he h => h, fun _ v wa wb he h => h, fun _ v wa wb he h => h, fun _ v wa wb he h => h, fun hn => absurd rfl hn, fun _ v wa wb he h => h, fun _ v wa wb he h => h, fun _ v wa wb he h => ⟨effC_blk he HNe.out h.1, effC_chg he h.2 (.inr rfl)⟩, trivial⟩
  ·split at he
   ·rename_i hj2; subst hj2; refine keepAll_at (E := EffC b 2 [.int .i64 vh, .int .i64 vo, .slice vA vn vc, .int .u32 vp, .int .u32 vm, .int .u32 vf, .int .u32 vs, .int .u32 vi, .slice vB vk vd]) (x := 9) (k := 0) ?_ (by omega) he h; exact ⟨fun _ v wa wb he h => h, fun _ v wa wb he h => h, fun _ v wa wb he h => h, fun _ v wa wb he h => h, fun _ v wa wb he h => h, fun _ v wa wb he h => h, fun _ v wa wb he h => effC_blk he HNe.out.symm h, fun _ v wa wb he h => h, fun _ v wa wb he h => h, fun hn => absurd rfl hn, trivial⟩
   ·refine relMono _ ?_ i2 vz wa wb he h; exact ⟨fun _ _ _ _ h => h, fun _ _ _ _ h => h, fun _ _ _ _ h => h, fun _ _ _ _ h => h, fun _ _ _ _ h => h, fun _ _ _ _ h => h, fun v wa wb hb h => h.below hb h.lt, fun _ _ _ _ h => h, fun _ _ _ _ h => h, fun v wa wb hb h => ⟨h.1.below hb h.1.lt, chg_trans h.2 (chg_below (S := fun _ => False) hb) (fun k h => h.elim)⟩, trivial⟩
 case hP =>
  intro i2 j2 wa wb hij hnb hB he h; split at he
  ·rename_i hj2; subst hj2; exact ⟨effC_blk he HNv1.out h.1, effC_chg he h.2.1 (.inr rfl), fun e => absurd e hij, fun e => effC_blk he HNe.out (h.2.2.2 e)⟩
  ·split at he
   ·rename_i hj2; subst hj2; refine ⟨effC_blk he HNv.out h.1, effC_chg he h.2.1 (.inl rfl), fun e => effC_blk he HNe.out.symm (h.2.2.1 e), fun e => ?_⟩; rcases e with rfl | rfl
    ·exact absurd hnb (by decide +kernel)
    ·exact absurd rfl hij
   ·exact ⟨h.1.below he h.1.lt, chg_trans h.2.1 (chg_below (S := fun _ => False) he) (fun k h => h.elim), fun e => (h.2.2.1 e).below he (h.2.2.1 e).lt, fun e => (h.2.2.2 e).below he (h.2.2.2 e).lt⟩
 case h0 =>
  intro j2 hj2; exact ⟨HV2.out.drew, ⟨rfl, rfl, rfl, Nat.le_refl _, fun _ _ _ => rfl⟩, fun _ => HZ2.out.drew, fun _ => HN2.out.drew⟩
 ·refine relG_plain rfl rfl (fun _ _ h => h) ?_; intro Ac w5 hp; have a8 : Ac.eval (.tmp 8) = .pointer (some ⟨b, 0, none⟩) := hp.out 8 (by rfl); exact relPureX (.pointer (some ⟨b, 0, none⟩)) (fun ρ hρ h1 h2 h3 => by rw [hρ] at a8; simp [go_sem, ↓IntWalk.iteOmega, *]) rfl
 ·refine relG_plain rfl rfl (fun _ _ h => h) ?_; intro Ac w5 hp; have a8 : Ac.eval (.tmp 8) = .pointer (some ⟨b, 0, none⟩) := hp.out 8 (by rfl); exact relPureX (.pointer (some ⟨b, 0, none⟩)) (fun ρ hρ h1 h2 h3 => by rw [hρ] at a8; simp [go_sem, ↓IntWalk.iteOmega, *]) rfl
 ·refine relG_plain rfl rfl (fun _ _ h => h) ?_; intro Ac w5 hp; have a29 : Ac.eval (.tmp 29) = .pointer (some ⟨b, 0, none⟩) := hp.dep 1 (by kernel_rfl); exact relPureX (.pointer (some ⟨b, 0, none⟩)) (fun ρ hρ h1 h2 h3 => by rw [hρ] at a29; simp [go_sem, ↓IntWalk.iteOmega, *]) rfl
 ·refine relG_plain rfl rfl (fun _ _ h => h) ?_; intro Ac w5 hp; have a30 : Ac.eval (.tmp 30) = .pointer (some ⟨b, 0, none⟩) := hp.dep 2 (by kernel_rfl); exact relPureX (.pointer (some ⟨b, 2, none⟩)) (fun ρ hρ h1 h2 h3 => by rw [hρ] at a30; simp [go_sem, ↓IntWalk.iteOmega, *]) rfl
 ·refine relG_plain rfl rfl (fun _ _ h => h) ?_; intro Ac w5 hp; have a31 : Ac.eval (.tmp 31) = .pointer (some ⟨b, 2, none⟩) := hp.dep 3 (by kernel_rfl); obtain ⟨hqv, hqc, hq1, hq2⟩ := hp.pre; have hk5 := hq2 (by decide); have y0 : w5.cell? ⟨b, 2, none⟩ = some v0 := hk5.cell 2; have y1 : w5.cell? ⟨b, 3, none⟩ = some v1 := hk5.cell 3; have y2 : w5.cell? ⟨b, 4, none⟩ = some v2 := hk5.cell 4; have y3 : w5.cell? ⟨b, 5, none⟩ = some v3 := hk5.cell 5; have y4 : w5.cell? ⟨b, 6, none⟩ = some v4 := hk5.cell 6; have y5 : w5.cell? ⟨b, 7, none⟩ = some v5 := hk5.cell 7; have y6 : w5.cell? ⟨b, 8, none⟩ = some v6 := hk5.cell 8; have y7 : w5.cell? ⟨b, 9, none⟩ = some v7 := hk5.cell 9; have y8 : w5.cell? ⟨b, 10, none⟩ = some v8 := hk5.cell 10; exact relPureX (.agg #[v0, v1, v2, v3, v4, v5, v6, v7, v8]) (fun ρ hρ h1 h2 h3 => by rw [hρ] at a31; simp [go_sem, ↓IntWalk.iteOmega, *]) rfl
 ·refine relG_plain rfl rfl (fun _ _ h => h) ?_; intro Ac w5 hp; have a5 : Ac.eval (.tmp 5) = .pointer (some ⟨w.heap.size + 1, 0, none⟩) := hp.out 5 (by rfl); obtain ⟨hqv, hqc, hq1, hq2⟩ := hp.pre; have u0 : w5.cell? ⟨w.heap.size + 1, 0, none⟩ = some (.int .i64 vh) := hqv.cell 0; have u1 : w5.cell? ⟨w.heap.size + 1, 1, none⟩ = some (.int .i64 vo) := hqv.cell 1; have u2 : w5.cell? ⟨w.heap.size + 1, 2, none⟩ = some (.slice vA vn vc) := hqv.cell 2; have u3 : w5.cell? ⟨w.heap.size + 1, 3, none⟩ = some (.int .u32 vp) := hqv.cell 3; have u4 : w5.cell? ⟨w.heap.size + 1, 4, none⟩ = some (.int .u32 vm) := hqv.cell 4; have u5 : w5.cell? ⟨w.heap.size + 1, 5, none⟩ = some (.int .u32 vf) := hqv.cell 5; have u6 : w5.cell? ⟨w.heap.size + 1, 6, none⟩ = some (.int .u32 vs) := hqv.cell 6; have u7 : w5.cell? ⟨w.heap.size + 1, 7, none⟩ = some (.int .u32 vi) := hqv.cell 7; have u8 : w5.cell? ⟨w.heap.size + 1, 8, none⟩ = some (.slice vB vk vd) := hqv.cell 8; exact relPureX (.agg #[.int .i64 vh, .int .i64 vo, .slice vA vn vc, .int .u32 vp, .int .u32 vm, .int .u32 vf, .int .u32 vs, .int .u32 vi, .slice vB vk vd]) (fun ρ hρ h1 h2 h3 => by rw [hρ] at a5; simp [go_sem, ↓IntWalk.iteOmega, *]) rfl
 ·refine relG_store rfl ?_; intro Ac w5 hp; have a6 : Ac.eval (.tmp 6) = .pointer (some ⟨w.heap.size + 1 + 1, 0, none⟩) := hp.out 6 (by rfl); have a32 : Ac.eval (.tmp 32) = .agg #[v0, v1, v2, v3, v4, v5, v6, v7, v8] := hp.dep 4 (by kernel_rfl); obtain ⟨hqv, hqc, hq1, hq2⟩ := hp.pre; have HK := hide (hq1 rfl); clear hp hqv hqc hq1 hq2; exact ⟨w5.setCells (w.heap.size + 1 + 1) 0 [v0, v1, v2, v3, v4, v5, v6, v7, v8], .inl (exec_store rfl a6 a32 (stA_box HK.out HOne.out)), blk_sets [v0, v1, v2, v3, v4, v5, v6, v7, v8] [] [.int .i64 0, .int .i64 0, .slice none 0 0, .int .u32 0, .int .u32 0, .int .u32 0, .int .u32 0, .int .u32 0, .slice none 0 0] HK.out rfl, rfl⟩
 ·refine relG_plain rfl rfl (fun _ _ h => h) ?_; intro Ac w5 hp; have a28 : Ac.eval (.tmp 28) = .pointer (some ⟨b, 0, none⟩) := hp.dep 0 (by kernel_rfl); exact relPureX (.pointer (some ⟨b, 0, none⟩)) (fun ρ hρ h1 h2 h3 => by rw [hρ] at a28; simp [go_sem, ↓IntWalk.iteOmega, *]) rfl
 ·refine relG_plain rfl rfl (fun _ _ h => h) ?_; intro Ac w5 hp; have a34 : Ac.eval (.tmp 34) = .pointer (some ⟨b, 0, none⟩) := hp.dep 7 (by kernel_rfl); exact relPureX (.pointer (some ⟨b, 2, none⟩)) (fun ρ hρ h1 h2 h3 => by rw [hρ] at a34; simp [go_sem, ↓IntWalk.iteOmega, *]) rfl
 ·refine relG_store rfl ?_; intro Ac w5 hp; have a35 : Ac.eval (.tmp 35) = .pointer (some ⟨b, 2, none⟩) := hp.dep 8 (by kernel_rfl); have a33 : Ac.eval (.tmp 33) = .agg #[.int .i64 vh, .int .i64 vo, .slice vA vn vc, .int .u32 vp, .int .u32 vm, .int .u32 vf, .int .u32 vs, .int .u32 vi, .slice vB vk vd] := hp.dep 5 (by kernel_rfl); obtain ⟨hqv, hqc, hq1, hq2⟩ := hp.pre; have HK := hide (hq2 (by decide)); have HQc := hide hqc; clear hp hqv hqc hq1 hq2; exact ⟨w5.setCells b 2 [.int .i64 vh, .int .i64 vo, .slice vA vn vc, .int .u32 vp, .int .u32 vm, .int .u32 vf, .int .u32 vs, .int .u32 vi, .slice vB vk vd], .inl (exec_store rfl a35 a33 (stA_nd HK.out)), ⟨blk_setsM [.bool true, .int .i64 (cn : Int), trPtr l0, trPtr r0] [.int .i64 vh, .int .i64 vo, .slice vA vn vc, .int .u32 vp, .int .u32 vm, .int .u32 vf, .int .u32 vs, .int .u32 vi, .slice vB vk vd] [.int .u32 (p : Int), .int .i64 (m : Int)] [v0, v1, v2, v3, v4, v5, v6, v7, v8] HK.out rfl, chg_trans HQc.out (chg_sets (S := fun k => k = b) rfl _ 2) (fun k h => .inl (.inl h))⟩, rfl⟩
 intro u w9 hb7 hall; have efin : Blk w9 (w.heap.size + 1 + 1) 28 #[v0, v1, v2, v3, v4, v5, v6, v7, v8] := relAll_at hall (i := 6) (by decide +kernel); have efin1 : Both5 w2 w9 (fun k => k = b ∨ k = w.heap.size + 1 + 1) b 205 (ndC p m [.int .i64 vh, .int .i64 vo, .slice vA vn vc, .int .u32 vp, .int .u32 vm, .int .u32 vf, .int .u32 vs, .int .u32 vi, .slice vB vk vd] true cn (trPtr l0) (trPtr r0)) := relAll_at hall (i := 9) (by decide +kernel); clear hall; simp only [List.drop_succ_cons, List.drop_zero, List.take_succ_cons, List.take_zero, putAll, Act.put, List.setIfInBounds_toArray, List.set_cons_zero, List.set_cons_succ, Nat.zero_add, Nat.reduceAdd, ]; have HC9 := hide efin; have HB9 := hide efin1; clear hb7 efin efin1; have z0 : w9.cell? ⟨w.heap.size + 1 + 1, 0, none⟩ = some v0 := HC9.out.cell 0; have z1 : w9.cell? ⟨w.heap.size + 1 + 1, 1, none⟩ = some v1 := HC9.out.cell 1; have z2 : w9.cell? ⟨w.heap.size + 1 + 1, 2, none⟩ = some v2 := HC9.out.cell 2; have z3 : w9.cell? ⟨w.heap.size + 1 + 1, 3, none⟩ = some v3 := HC9.out.cell 3; have z4 : w9.cell? ⟨w.heap.size + 1 + 1, 4, none⟩ = some v4 := HC9.out.cell 4; have z5 : w9.cell? ⟨w.heap.size + 1 + 1, 5, none⟩ = some v5 := HC9.out.cell 5; have z6 : w9.cell? ⟨w.heap.size + 1 + 1, 6, none⟩ = some v6 := HC9.out.cell 6; have z7 : w9.cell? ⟨w.heap.size + 1 + 1, 7, none⟩ = some v7 := HC9.out.cell 7; have z8 : w9.cell? ⟨w.heap.size + 1 + 1, 8, none⟩ = some v8 := HC9.out.cell 8; have o0 : ∀ (a : Addr) (m : Mode) (W : World), (store a v0 m).run Tryz.prog W = stored Tryz.prog W a v0 m := fun a m W => run_store _ W a v0 m (HOne.out v0 (by simp)); have o1 : ∀ (a : Addr) (m : Mode) (W : World), (store a v1 m).run Tryz.prog W = stored Tryz.prog W a v1 m := fun a m W => run_store _ W a v1 m (HOne.out v1 (by simp)); have o2 : ∀ (a : Addr) (m : Mode) (W : World), (store a v2 m).run Tryz.prog W = stored Tryz.prog W a v2 m := fun a m W => run_store _ W a v2 m (HOne.out v2 (by simp)); have o3 : ∀ (a : Addr) (m : Mode) (W : World), (store a v3 m).run Tryz.prog W = stored Tryz.prog W a v3 m := fun a m W => run_store _ W a v3 m (HOne.out v3 (by simp)); have o4 : ∀ (a : Addr) (m : Mode) (W : World), (store a v4 m).run Tryz.prog W = stored Tryz.prog W a v4 m := fun a m W => run_store _ W a v4 m (HOne.out v4 (by simp)); have o5 : ∀ (a : Addr) (m : Mode) (W : World), (store a v5 m).run Tryz.prog W = stored Tryz.prog W a v5 m := fun a m W => run_store _ W a v5 m (HOne.out v5 (by simp)); have o6 : ∀ (a : Addr) (m : Mode) (W : World), (store a v6 m).run Tryz.prog W = stored Tryz.prog W a v6 m := fun a m W => run_store _ W a v6 m (HOne.out v6 (by simp)); have o7 : ∀ (a : Addr) (m : Mode) (W : World), (store a v7 m).run Tryz.prog W = stored Tryz.prog W a v7 m := fun a m W => run_store _ W a v7 m (HOne.out v7 (by simp)); have o8 : ∀ (a : Addr) (m : Mode) (W : World), (store a v8 m).run Tryz.prog W = stored Tryz.prog W a v8 m := fun a m W => run_store _ W a v8 m (HOne.out v8 (by simp)); have zf := fun i => HC9.out.frozen i; go_wp2; change bodyPost _ _ _ _ _ (w9.setCells (w.heap.size + 1 + 1) 0 [v0, v1, v2, v3, v4, v5, v6, v7, v8]); obtain ⟨wF, hwF⟩ : ∃ x, w9.setCells (w.heap.size + 1 + 1) 0 [v0, v1, v2, v3, v4, v5, v6, v7, v8] = x := ⟨_, rfl⟩
 have HFk := hide (hwF ▸ blk_sets [v0, v1, v2, v3, v4, v5, v6, v7, v8] [] [v0, v1, v2, v3, v4, v5, v6, v7, v8] HC9.out rfl : Blk wF (w.heap.size + 1 + 1) 28 #[v0, v1, v2, v3, v4, v5, v6, v7, v8]); have HFb := hide (hwF ▸ blk_sets_far HNe.out [v0, v1, v2, v3, v4, v5, v6, v7, v8] 0 HB9.out.1 : Blk wF b 205 _); have HFc : Hid (ChgS (fun k => k = b ∨ k = w.heap.size + 1 + 1) w2 wF) := hide (hwF ▸ chg_trans HB9.out.2 (chg_sets (S := fun k => k = w.heap.size + 1 + 1) rfl [v0, v1, v2, v3, v4, v5, v6, v7, v8] 0) (fun k h => .inl (.inr h))); rw [hwF]; clear hwF z0 z1 z2 z3 z4 z5 z6 z7 z8 o0 o1 o2 o3 o4 o5 o6 o7 o8 zf; have z0 : wF.cell? ⟨w.heap.size + 1 + 1, 0, none⟩ = some v0 := HFk.out.cell 0; have z1 : wF.cell? ⟨w.heap.size + 1 + 1, 1, none⟩ = some v1 := HFk.out.cell 1; have z2 : wF.cell? ⟨w.heap.size + 1 + 1, 2, none⟩ = some v2 := HFk.out.cell 2; have z3 : wF.cell? ⟨w.heap.size + 1 + 1, 3, none⟩ = some v3 := HFk.out.cell 3; have z4 : wF.cell? ⟨w.heap.size + 1 + 1, 4, none⟩ = some v4 := HFk.out.cell 4; have z5 : wF.cell? ⟨w.heap.size + 1 + 1, 5, none⟩ = some v5 := HFk.out.cell 5; have z6 : wF.cell? ⟨w.heap.size + 1 + 1, 6, none⟩ = some v6 := HFk.out.cell 6; have z7 : wF.cell? ⟨w.heap.size + 1 + 1, 7, none⟩ = some v7 := HFk.out.cell 7; have z8 : wF.cell? ⟨w.heap.size + 1 + 1, 8, none⟩ = some v8 := HFk.out.cell 8; have hcF : ChgS (fun k => k = b) w wF := chg_trans (chg_below HB2.out) HFc.out (fun k h => h.elim .inl (fun h => .inr (by omega))); obtain ⟨hTu, _⟩ := trUpd_mem (x := x) HPa.out (b := b) (us := [.int .i64 vh, .int .i64 vo, .slice vA vn vc, .int .u32 vp, .int .u32 vm, .int .u32 vf, .int .u32 vs, .int .u32 vi, .slice vB vk vd]) ⟨rfl, by simp [Value.oneCell']⟩ t HT.out HS.out hcF HFv.out (by rw [HCn.out]; exact HFb.out); have hbF : ¬ F b := HT.out.far b Hbt.out; refine bodyPost_ret (v := .tuple #[.agg #[v0, v1, v2, v3, v4, v5, v6, v7, v8], .bool true]) (by simp [results, Tryz.results80, go_sem, z0, z1, z2, z3, z4, z5, z6, z7, z8]) rfl ⟨v0, v1, v2, v3, v4, v5, v6, v7, v8, rfl, frs_chg HVy.out HFc.out (fun k hF h => h.elim (fun e => hbF (e ▸ hF)) (fun e => by have := HF.out k hF; omega)), HPut.out, ?_, hTu, chg_mono hcF (fun k h => .inl (h ▸ Hbt.out))⟩; rw [(trUpd_b t).2]; exact chg_blk hcF HG.out (fun e => HgB.out (e ▸ Hbt.out))
end Go.Proofs.YtcinjckajnnhmaaGreat
set_option linter.unusedSimpArgs false
set_option linter.unusedVariables false
namespace Go.Proofs.YtcinjckajnnhmaaGreat
open Go.RowKit Go.WideShapes Go.ChangeShapes
attribute [local go_sem] Oper.semAt_some
theorem trput_ok {a n : Nat} {X : AT} {t t2 : Tr AT} (hw : trWf t) (hp : PutR a n X t t2) (hok : ∀ z ∈ trL t, AtOk z.2.2) (hX : AtOk X) : ∀ z ∈ trL t2, AtOk z.2.2 := by
 rintro ⟨c, k, x⟩ hz; rw [trL_mem t2 hp.wf, hp.get] at hz; split at hz
 ·simp only [Option.some.injEq] at hz; subst hz; exact hX
 ·exact hok (c, k, x) ((trL_mem t hw).2 hz)
theorem trput_any (F : Nat → Prop) (g : Nat) (t : Tr AT) (a n b : Nat) (X : AT) (A : Option Addr) (k c : Nat) (B : Option Addr) (m d : Nat) (xs : List Value) (w : World) (hT : TrT F w g t) (ha : PG a n) (hX : AtOk X)
  (hl : LOw 2 133 sgR w b b A k c X.path xs) (hu : FrB b none (fun w => U32s w B m d X.comms) w) (hgb : g < b) (htb : ∀ j ∈ trB t, j < b) (hc : trCnt t < 100000) :
  Calls Tryz.prog 80 #[.pointer (some ⟨g, 0, none⟩), .agg #[.int .u32 (a : Int), .int .i64 (n : Int)], .agg #[.int .i64 X.has, .int .i64 X.org, .slice A k c, .int .u32 X.hop, .int .u32 X.med, .int .u32 X.pref, .int .u32 X.aas, .int .u32 X.aid, .slice B m d]] w fun e w' =>
   (∃ v q, e = .returned (.tuple #[v, .bool q])) ∧ ∃ t2, PutR a n X t t2 ∧ TrT (fun j => F j ∨ (b ≤ j ∧ j < w.heap.size)) w' g t2 ∧ (∀ j ∈ trB t2, j ∈ trB t ∨ w.heap.size ≤ j) ∧ ChgS (fun j => j = g ∨ j ∈ trB t) w w' := by
 have hF : ∀ j, (F j ∨ (b ≤ j ∧ j < w.heap.size)) → j < w.heap.size := fun j hj => hj.elim (fun h => hT.low j h) (fun h => h.2); have hgF : ¬ (F g ∨ (b ≤ g ∧ g < w.heap.size)) := fun h => h.elim hT.gF (fun h => by omega); have hA := hT.tree.more (F' := fun j => F j ∨ (b ≤ j ∧ j < w.heap.size)) (fun j h => .inl h) (fun j hj h => h.elim (hT.tree.far j hj) (fun h => by have := htb j hj; omega)); have hv : FrS (fun j => F j ∨ (b ≤ j ∧ j < w.heap.size)) none (fun w => atR w [.int .i64 X.has, .int .i64 X.org, .slice A k c, .int .u32 X.hop, .int .u32 X.med, .int .u32 X.pref, .int .u32 X.aas, .int .u32 X.aid, .slice B m d] X) w := fun w2 h2 => ato_frs hl hu w2 ⟨h2.1, fun j o hj h3 h4 h5 => h2.2 j o (.inr hj) h3 h4 h5⟩
 cases hg : trGet a n t with
 | none =>
  refine (putnA_any (R := atR) g a n t X X.has X.org A k c X.hop X.med X.pref X.aas X.aid B m d w ha hT.root hA hF hv hgF hT.gB (by omega) hg).mono ?_; rintro e w' ⟨rfl, t2, h1, h2, h3, h4, h5⟩; refine ⟨⟨_, _, rfl⟩, t2, h1, ⟨h2, h3, hgF, fun h => (h4 g h).elim hT.gB (fun h => by have := hT.root.lt; omega), fun j hj => Nat.lt_of_lt_of_le (hF j hj) h5.size, trput_ok hT.tree.wf h1 hT.ok hX, ?_⟩, h4, h5⟩; have := h1.cnt; rw [hg] at this; simp at this; omega
 | some y =>
  refine (putfA_any (R := atR) g a n t X y X.has X.org A k c X.hop X.med X.pref X.aas X.aid B m d w ha hT.root hA hF hv hgF hT.gB (by omega) hg).mono ?_; rintro e w' ⟨v0, v1, v2, v3, v4, v5, v6, v7, v8, rfl, _, h1, h2, h3, h5⟩; have hB : ∀ j ∈ trB (trUpd a n X t), j ∈ trB t := fun j hj => by rwa [(trUpd_b (a := a) (n := n) (x := X) t).1] at hj
  refine ⟨⟨_, _, rfl⟩, trUpd a n X t, h1, ⟨h2, h3, hgF, fun h => hT.gB (hB g h), fun j hj => Nat.lt_of_lt_of_le (hF j hj) h5.size, trput_ok hT.tree.wf h1 hT.ok hX, ?_⟩, fun j hj => .inl (hB j hj), chg_mono h5 (fun j hj => .inl (.inr hj))⟩; have := h1.cnt; rw [hg] at this; simp at this; have := hT.cnt; omega
end Go.Proofs.YtcinjckajnnhmaaGreat
set_option linter.unusedSimpArgs false
set_option linter.unusedVariables false
namespace Go.Proofs.YtcinjckajnnhmaaGreat
open Go.RowKit Go.WideShapes Go.ChangeShapes
attribute [local go_sem] Oper.semAt_some
def putZ (L : List (Nat × Nat × AT)) (z : Nat × Nat × AT) : List (Nat × Nat × AT) := putL z.1 z.2.1 z.2.2 L
def NrmA (L : List (Nat × Nat × AT)) : Prop := ∀ z ∈ L, normA z.2.2 = z.2.2
def WrB (r gt : Nat) (tt : Tr AT) (j : Nat) : Prop := j = r ∨ j = gt ∨ j ∈ trB tt
structure RSt (r ga gt : Nat) (m l : Nat) (Fa Ft : Nat → Prop) (ta tt : Tr AT) (w : World) : Prop where
  blk : Blk w r 119 #[.pointer (some ⟨ga, 0, none⟩), .pointer (some ⟨gt, 0, none⟩), .int .i64 (m : Nat), .int .i64 (l : Nat)]
  aim : TrT Fa w ga ta
  told : TrT Ft w gt tt
  na : NrmA (trL ta)
  nt : NrmA (trL tt)
  rFa : ¬ Fa r
  rFt : ¬ Ft r
  rga : r ≠ ga
  rgt : r ≠ gt
  rBa : r ∉ trB ta
  rBt : r ∉ trB tt
  ap : ∀ j, (j = gt ∨ j ∈ trB tt) → ¬ Fa j ∧ j ≠ ga ∧ j ∉ trB ta
theorem own_len {X : AT} (hn : normA X = X) (hk : AtOk X) : X.path.length ≤ 100000 := by
 have h : (normA X).path.length ≤ numS X.path := by
  unfold normA; simp only; split
  ·exact normS_len _
  ·simp
 rw [hn] at h; have := hk.1; omega
section
variable {r ga gt m l : Nat} {Fa Ft : Nat → Prop} {ta tt : Tr AT} {w w' : World}
theorem RSt.below (h : RSt r ga gt m l Fa Ft ta tt w) (hb : Below w.heap.size w w') : RSt r ga gt m l Fa Ft ta tt w' :=
 ⟨h.blk.below hb h.blk.lt, h.aim.below hb, h.told.below hb, h.na, h.nt, h.rFa, h.rFt, h.rga, h.rgt, h.rBa, h.rBt, h.ap⟩
theorem RSt.lt (h : RSt r ga gt m l Fa Ft ta tt w) : ∀ j, WrB r gt tt j → j < w.heap.size := by
 rintro j (rfl | rfl | hj)
 ·exact h.blk.lt
 ·exact h.told.root.lt
 ·exact h.told.tree.mem.lt j hj
theorem RSt.paths (h : RSt r ga gt m l Fa Ft ta tt w) : (∀ z ∈ trL ta, (normA z.2.2).path.length ≤ 100000 ∧ z.2.2.path.length ≤ 100000) ∧ (∀ z ∈ trL tt, (normA z.2.2).path.length ≤ 100000 ∧ z.2.2.path.length ≤ 100000) :=
 ⟨fun z hz => ⟨by rw [h.na z hz]; exact own_len (h.na z hz) (h.aim.ok z hz), own_len (h.na z hz) (h.aim.ok z hz)⟩, fun z hz => ⟨by rw [h.nt z hz]; exact own_len (h.nt z hz) (h.told.ok z hz), own_len (h.nt z hz) (h.told.ok z hz)⟩⟩
end
def HereR (r ga gt m : Nat) (Fa : Nat → Prop) (ta tt : Tr AT) (LK : List (Nat × Nat × AT)) (w w' : World) : Prop := ∃ tt' Ft', RSt r ga gt m (if LK.length = 0 then 0 else m) Fa Ft' ta tt' w' ∧ (∀ j, WrB r gt tt' j → WrB r gt tt j ∨ w.heap.size ≤ j) ∧ trL tt' = LK.foldl putZ (trL tt) ∧ trCnt tt' ≤ trCnt tt + trCnt ta ∧ ChgS (WrB r gt tt) w w'
set_option maxRecDepth 100000 in
theorem hereL_any (r ga gt m l : Nat) (Fa Ft : Nat → Prop) (ta tt : Tr AT) (w : World) (h : RSt r ga gt m (l + 1) Fa Ft ta tt w) :
  Calls Tryz.prog 23 #[.pointer (some ⟨r, 0, none⟩)] w fun e w' => e = .returned (.slice none 0 0) ∧ w' = w := by
 have z3 : w.cell? ⟨r, 3, none⟩ = some (.int .i64 ((l + 1 : Nat) : Int)) := h.blk.cell 3; clear h; obtain ⟨L, hL⟩ : ∃ L : Int, ((l + 1 : Nat) : Int) = L := ⟨_, rfl⟩
 have hp : 0 < L := (by omega)
 have hd : decide (0 < L) = true := decide_eq_true hp; rw [hL] at z3; clear hL
 go_enter Tryz.func23, Tryz.ntmps23
 go_wp2; go_ret; exact ⟨rfl, rfl⟩
set_option maxRecDepth 100000 in
set_option maxHeartbeats 8000000 in
theorem hereG_any (r ga gt m : Nat) (Fa Ft : Nat → Prop) (ta tt : Tr AT) (w : World) (h : RSt r ga gt m 0 Fa Ft ta tt w) (hct : trCnt tt + trCnt ta < 90000) :
    Calls Tryz.prog 23 #[.pointer (some ⟨r, 0, none⟩)] w fun e w' => ∃ A n c, e = .returned (.slice A n c) ∧ LstAt 11 tdR w' A n c (((trL ta).filter (lackG tt)).map tdN) ∧ HereR r ga gt m Fa ta tt ((trL ta).filter (lackG tt)) w w' := by
  have HLk := hide (fun W (hb : Below w.heap.size w W) => lacksG_any Fa Ft ga gt ta tt W (h.aim.below hb) (h.told.below hb) (fun z hz => (h.paths.1 z hz).1) (fun z hz => (h.paths.2 z hz).2))
  have HPG : Hid (∀ z ∈ (trL ta).filter (lackG tt), PG z.1 z.2.1 ∧ normA z.2.2 = z.2.2 ∧ AtOk z.2.2) := hide (fun z hz => by
    have hz := (List.mem_filter.1 hz).1; exact ⟨trGet_pg ta h.aim.tree.wf ((trL_mem ta h.aim.tree.wf).1 hz), h.na z hz, h.aim.ok z hz⟩)
  have hLl : ((trL ta).filter (lackG tt)).length ≤ trCnt ta := by
    have := List.length_filter_le (lackG tt) (trL ta); rw [trL_len] at this; exact this
  obtain ⟨LK, hLK⟩ : ∃ LK, (trL ta).filter (lackG tt) = LK := ⟨_, rfl⟩
  rw [hLK] at HLk HPG hLl ⊢; clear hLK; have HRr := hide h.blk; have HS := hide h; have hrl := h.blk.lt; have hgl := h.told.root.lt; have hbl := h.told.tree.mem.lt; have z0 : w.cell? ⟨r, 3, none⟩ = some (.int .i64 ((0 : Nat) : Int)) := h.blk.cell 3; have HBl := hide hbl; clear h hbl
  go_enter Tryz.func23, Tryz.ntmps23
  go_upto_region 3 with fail
  have Hmn := hide (show AllMono [(fun v _ => v = .pointer (some ⟨r, 0, none⟩)), (fun v _ => v = .pointer (some ⟨r, 0, none⟩)), (fun v _ => v = .pointer (some ⟨r, 0, none⟩)), (fun v _ => v = .pointer (some ⟨ga, 0, none⟩)), (fun v _ => v = .pointer (some ⟨r, 0, none⟩)), (fun v _ => v = .pointer (some ⟨r, 0, none⟩)), (fun v _ => v = .pointer (some ⟨r, 1, none⟩)), (fun v _ => v = .pointer (some ⟨gt, 0, none⟩)), (fun v W => ∃ A n c xs, v = .slice A n c ∧ LOw 11 71 tdR W w.heap.size w.heap.size A n c (LK.map tdN) xs)] from ⟨fun _ _ _ _ h => h, fun _ _ _ _ h => h, fun _ _ _ _ h => h, fun _ _ _ _ h => h, fun _ _ _ _ h => h, fun _ _ _ _ h => h, fun _ _ _ _ h => h, fun _ _ _ _ h => h, fun v w1 w2 hb ⟨A, n, c, xs, e, h⟩ => ⟨A, n, c, xs, e, h.below hb⟩, trivial⟩); refine wp_region_relT 9 _ (by kernel_rfl) (by kernel_rfl) (by kernel_rfl) (by kernel_rfl) (by kernel_rfl) (relMono _ Hmn.out) ⟨?_, ?_, ?_, ?_, ?_, ?_, ?_, ?_, ?_, trivial⟩ ?_
  · refine relStep_plain rfl ?_; intro Ac w5 hp; have a0 : Ac.eval (.tmp 0) = .pointer (some ⟨r, 0, none⟩) := hp.out 0 (by rfl); exact relPureX (.pointer (some ⟨r, 0, none⟩)) (fun ρ hρ h1 h2 h3 => by rw [hρ] at a0; simp [go_sem, ↓IntWalk.iteOmega, *]) rfl
  · refine relStep_plain rfl ?_; intro Ac w5 hp; have a15 : Ac.eval (.tmp 15) = .pointer (some ⟨r, 0, none⟩) := hp.dep 0 (by kernel_rfl); exact relPureX (.pointer (some ⟨r, 0, none⟩)) (fun ρ hρ h1 h2 h3 => by rw [hρ] at a15; simp [go_sem, ↓IntWalk.iteOmega, *]) rfl
  · refine relStep_plain rfl ?_; intro Ac w5 hp; have a16 : Ac.eval (.tmp 16) = .pointer (some ⟨r, 0, none⟩) := hp.dep 1 (by kernel_rfl); exact relPureX (.pointer (some ⟨r, 0, none⟩)) (fun ρ hρ h1 h2 h3 => by rw [hρ] at a16; simp [go_sem, ↓IntWalk.iteOmega, *]) rfl
  · refine relStep_plain rfl ?_; intro Ac w5 hp; have hb := hp.bel; have a17 : Ac.eval (.tmp 17) = .pointer (some ⟨r, 0, none⟩) := hp.dep 2 (by kernel_rfl); have hr5 := HRr.out.below hb HRr.out.lt; have z0 : w5.cell? ⟨r, 0, none⟩ = some (.pointer (some ⟨ga, 0, none⟩)) := hr5.cell 0; exact relPureX (.pointer (some ⟨ga, 0, none⟩)) (fun ρ hρ h1 h2 h3 => by rw [hρ] at a17; simp [go_sem, ↓IntWalk.iteOmega, *]) rfl
  · refine relStep_plain rfl ?_; intro Ac w5 hp; have a0 : Ac.eval (.tmp 0) = .pointer (some ⟨r, 0, none⟩) := hp.out 0 (by rfl); exact relPureX (.pointer (some ⟨r, 0, none⟩)) (fun ρ hρ h1 h2 h3 => by rw [hρ] at a0; simp [go_sem, ↓IntWalk.iteOmega, *]) rfl
  · refine relStep_plain rfl ?_; intro Ac w5 hp; have a19 : Ac.eval (.tmp 19) = .pointer (some ⟨r, 0, none⟩) := hp.dep 4 (by kernel_rfl); exact relPureX (.pointer (some ⟨r, 0, none⟩)) (fun ρ hρ h1 h2 h3 => by rw [hρ] at a19; simp [go_sem, ↓IntWalk.iteOmega, *]) rfl
  · refine relStep_plain rfl ?_; intro Ac w5 hp; have a20 : Ac.eval (.tmp 20) = .pointer (some ⟨r, 0, none⟩) := hp.dep 5 (by kernel_rfl); exact relPureX (.pointer (some ⟨r, 1, none⟩)) (fun ρ hρ h1 h2 h3 => by rw [hρ] at a20; simp [go_sem, ↓IntWalk.iteOmega, *]) rfl
  · refine relStep_plain rfl ?_; intro Ac w5 hp; have hb := hp.bel; have a21 : Ac.eval (.tmp 21) = .pointer (some ⟨r, 1, none⟩) := hp.dep 6 (by kernel_rfl); have hr5 := HRr.out.below hb HRr.out.lt; have z1 : w5.cell? ⟨r, 1, none⟩ = some (.pointer (some ⟨gt, 0, none⟩)) := hr5.cell 1; exact relPureX (.pointer (some ⟨gt, 0, none⟩)) (fun ρ hρ h1 h2 h3 => by rw [hρ] at a21; simp [go_sem, ↓IntWalk.iteOmega, *]) rfl
  · refine relStep_plain rfl ?_; intro Ac w5 hp; have hb := hp.bel; have a18 : Ac.eval (.tmp 18) = .pointer (some ⟨ga, 0, none⟩) := hp.dep 3 (by kernel_rfl); have a22 : Ac.eval (.tmp 22) = .pointer (some ⟨gt, 0, none⟩) := hp.dep 7 (by kernel_rfl); obtain ⟨ρ, hρ, hc, hf, hgl⟩ := evalX Ac; rw [hρ] at a18 a22; refine relCall hρ 84 #[.pointer (some ⟨ga, 0, none⟩), .pointer (some ⟨gt, 0, none⟩)] (by simp [go_sem, ↓IntWalk.iteOmega, *]) ?_; refine (HLk.out w5 hb).mono ?_; rintro e w6 ⟨A6, n6, c6, xs6, rfl, hl6, hb6, _⟩; exact ⟨_, rfl, ⟨A6, n6, c6, xs6, rfl, hl6.less hb.size hb.size⟩, hb6⟩
  intro u w3 hb7 hall; obtain ⟨A3, n3, c3, xs3, e23, hl3⟩ := relAll_at hall (i := 8) (by decide +kernel); change u 8 = _ at e23; clear hall; simp only [List.drop_succ_cons, List.drop_zero, List.take_succ_cons, List.take_zero, putAll, Act.put, List.setIfInBounds_toArray, List.set_cons_zero, List.set_cons_succ, Nat.zero_add, Nat.reduceAdd, e23]; have HB3 := hide hb7; have hnL : LK.length = n3 := (by have := (hl3.lst (by decide)).1; rwa [List.length_map] at this)
  have HnL := hide hnL; have hcm := (hl3.lst (by decide)).2.2.1; have h1c := (hl3.lst (by decide)).2.1; unfold maxLen at hcm; have hn3 : n3 ≤ trCnt ta := (by omega)
  have hs3 := hb7.size; have HF3 : Hid (FrS (fun j => w.heap.size ≤ j ∧ j < w3.heap.size) none (fun W => LstAt 11 tdR W A3 n3 c3 (LK.map tdN)) w3) := hide (frs_of_frb (hl3.fr (by decide) (Nat.le_refl _))); have HRr3 := hide (HRr.out.below hb7 hrl); have HT3 := hide (HS.out.told.below hb7); have HNt := hide HS.out.nt; have hr3 : r < w3.heap.size := (by omega)
  have hg3 : gt < w3.heap.size := (by omega)
  clear hl3 hb7 z0 hnL hLl; go_wp2
  go_loopw [26] (fun iv wr => ∃ (q : Nat) (t : Tr AT) (F : Nat → Prop), q ≤ n3 ∧ iv = .int .i64 (q : Nat) ∧ Blk wr r 119 #[.pointer (some ⟨ga, 0, none⟩), .pointer (some ⟨gt, 0, none⟩), .int .i64 (m : Nat), .int .i64 ((0 : Nat) : Int)] ∧ TrT F wr gt t ∧ (∀ j, F j → Ft j ∨ w3.heap.size ≤ j) ∧ (∀ j ∈ trB t, j ∈ trB tt ∨ w3.heap.size ≤ j) ∧ trL t = (LK.take q).foldl putZ (trL tt) ∧ trCnt t ≤ trCnt tt + q ∧ NrmA (trL t) ∧ ChgS (fun j => j = gt ∨ j ∈ trB tt) w3 wr) (fun iv _ => n3 - (intOf iv).toNat)
  case atStart => exact ⟨0, tt, Ft, Nat.zero_le _, rfl, HRr3.out, HT3.out, fun j hj => .inl hj, fun j hj => .inl hj, rfl, by omega, HNt.out, chg_refl _ _⟩
  case round =>
    obtain ⟨q, t, F, hq, rfl, hrr, htt, hFl, htl, hLt, hct2, hnr, hc2⟩ := hrel; have HRr2 := hide hrr; have HTt := hide htt; have HFl := hide hFl; have HTl := hide htl; have HLt := hide hLt; have HCt := hide hct2; have HNr := hide hnr; have HC2 := hide hc2; have HLw := hide (frs_here (frs_chg HF3.out hc2 (fun j hj hw => hw.elim (fun e => by omega) (fun hm => by have := HBl.out j hm; omega)))); clear hrr htt hFl htl hLt hct2 hnr hc2; by_cases hlt : q < n3
    · obtain ⟨g3, o, x, XA, xn, xc, XB, xm, xd, rfl, hg2, hx, hxr, hxu, hcs⟩ := TDat (q := q) HLw.out hlt; rw [List.getElem?_map] at hx
      obtain ⟨z, hz⟩ : ∃ z, LK[q]? = some z := by
        cases hz : LK[q]? with
        | none => rw [hz] at hx; simp at hx
        | some z => exact ⟨z, rfl⟩
      rw [hz] at hx; simp only [Option.map_some, Option.some.injEq] at hx; subst hx; have HTk : Hid (LK.take (q + 1) = LK.take q ++ [z]) := hide (by rw [List.take_add_one, hz]; rfl); have hzm := HPG.out z (List.mem_of_getElem? hz); obtain ⟨a, n0, X⟩ := z; obtain ⟨hPg, hNX, hok⟩ := hzm; simp only at hPg hNX hok; have e1 : tdN (a, n0, X) = ⟨(a : Int), (n0 : Int), X⟩ := (by unfold tdN; simp only; rw [hNX])
      rw [e1] at hxr hxu hcs; simp only at hxr hxu hcs; have HPg := hide hPg; have HOk := hide hok; obtain ⟨Y, hY⟩ : ∃ Y, normA X = Y := ⟨_, rfl⟩
      have HYX : Hid (Y = X) := hide (by rw [← hY]; exact hNX); have HY := hide hY; have q1 : (q : Int) < (n3 : Int) := (by omega)
      have q0 : (0 : Int) ≤ (q : Int) := (by omega)
      have hwq : IntKind.i64.wrap ((q : Int) + 1) = (q : Int) + 1 := (by rw [IntKind.wrap_i64]; omega)
      clear hz hok hY hPg hNX e1; have f0 : wr.cell? ⟨g3, o + q * 11, none⟩ = some (.int .u32 (a : Int)) := hcs 0 _ rfl; have f1 : wr.cell? ⟨g3, o + q * 11 + 1, none⟩ = some (.int .i64 (n0 : Int)) := hcs 1 _ rfl; have f2 : wr.cell? ⟨g3, o + q * 11 + 2, none⟩ = some (.int .i64 X.has) := hcs 2 _ rfl; have f3 : wr.cell? ⟨g3, o + q * 11 + 3, none⟩ = some (.int .i64 X.org) := hcs 3 _ rfl; have f4 : wr.cell? ⟨g3, o + q * 11 + 4, none⟩ = some (.slice XA xn xc) := hcs 4 _ rfl; have f5 : wr.cell? ⟨g3, o + q * 11 + 5, none⟩ = some (.int .u32 X.hop) := hcs 5 _ rfl; have f6 : wr.cell? ⟨g3, o + q * 11 + 6, none⟩ = some (.int .u32 X.med) := hcs 6 _ rfl; have f7 : wr.cell? ⟨g3, o + q * 11 + 7, none⟩ = some (.int .u32 X.pref) := hcs 7 _ rfl; have f8 : wr.cell? ⟨g3, o + q * 11 + 8, none⟩ = some (.int .u32 X.aas) := hcs 8 _ rfl; have f9 : wr.cell? ⟨g3, o + q * 11 + 9, none⟩ = some (.int .u32 X.aid) := hcs 9 _ rfl; have f10 : wr.cell? ⟨g3, o + q * 11 + 10, none⟩ = some (.slice XB xm xd) := hcs 10 _ rfl; obtain ⟨w4, hw4⟩ : ∃ W, wr.alloc (.cells #[.int .u32 (a : Int), .int .i64 (n0 : Int), .int .i64 X.has, .int .i64 X.org, .slice XA xn xc, .int .u32 X.hop, .int .u32 X.med, .int .u32 X.pref, .int .u32 X.aas, .int .u32 X.aid, .slice XB xm xd] 71) = W := ⟨_, rfl⟩
      have hb4 : Below wr.heap.size wr w4 := hw4 ▸ blkBelow1 wr _; have HBx : Hid (Blk w4 wr.heap.size 71 #[.int .u32 (a : Int), .int .i64 (n0 : Int), .int .i64 X.has, .int .i64 X.org, .slice XA xn xc, .int .u32 X.hop, .int .u32 X.med, .int .u32 X.pref, .int .u32 X.aas, .int .u32 X.aid, .slice XB xm xd]) := hide (hw4 ▸ Blk.new wr _ _); have HRr := hide (HRr2.out.below hb4 HRr2.out.lt); have HXr := hide (hxr.below sgMono hb4); have HXu := hide (hxu.below hb4); have HB4 := hide hb4; have HW4 := hide hw4; clear hb4 hw4 hxr hxu hcs
      go_upto_region 7 with fail
      rw [HW4.out]; have Hmn := hide (show AllMono [(fun v _ => v = .pointer (some ⟨r, 0, none⟩)), (fun v _ => v = .pointer (some ⟨r, 0, none⟩)), (fun v _ => v = .pointer (some ⟨r, 1, none⟩)), (fun v _ => v = .pointer (some ⟨gt, 0, none⟩)), (fun v _ => v = .pointer (some ⟨wr.heap.size, 0, none⟩)), (fun v _ => v = .agg #[.int .u32 (a : Int), .int .i64 (n0 : Int)]), (fun v _ => v = .pointer (some ⟨wr.heap.size, 2, none⟩)), (fun v _ => v = atV X.has X.org XA xn xc X.hop X.med X.pref X.aas X.aid XB xm xd), (fun v W2 => ∃ A n c B m d, v = atV Y.has Y.org A n c Y.hop Y.med Y.pref Y.aas Y.aid B m d ∧ (∃ xs, LOw 2 133 sgR W2 w4.heap.size w4.heap.size A n c Y.path xs) ∧ FrB w4.heap.size none (fun w => U32s w B m d Y.comms) W2)] from ⟨fun _ _ _ _ h => h, fun _ _ _ _ h => h, fun _ _ _ _ h => h, fun _ _ _ _ h => h, fun _ _ _ _ h => h, fun _ _ _ _ h => h, fun _ _ _ _ h => h, fun _ _ _ _ h => h, fun v w2 w3 hb ⟨A, n, c, B, m, d, e, ⟨xs, h1⟩, h2⟩ => ⟨A, n, c, B, m, d, e, ⟨xs, h1.below hb⟩, h2.below hb⟩, trivial⟩); refine wp_region_relT 9 _ (by kernel_rfl) (by kernel_rfl) (by kernel_rfl) (by kernel_rfl) (by kernel_rfl) (relMono _ Hmn.out) ⟨?_, ?_, ?_, ?_, ?_, ?_, ?_, ?_, ?_, trivial⟩ ?_
      · refine relStep_plain rfl ?_; intro Ac w5 hp; have a0 : Ac.eval (.tmp 0) = .pointer (some ⟨r, 0, none⟩) := hp.out 0 (by rfl); exact relPureX (.pointer (some ⟨r, 0, none⟩)) (fun ρ hρ h1 h2 h3 => by rw [hρ] at a0; simp [go_sem, ↓IntWalk.iteOmega, *]) rfl
      · refine relStep_plain rfl ?_; intro Ac w5 hp; have a30 : Ac.eval (.tmp 30) = .pointer (some ⟨r, 0, none⟩) := hp.dep 0 (by kernel_rfl); exact relPureX (.pointer (some ⟨r, 0, none⟩)) (fun ρ hρ h1 h2 h3 => by rw [hρ] at a30; simp [go_sem, ↓IntWalk.iteOmega, *]) rfl
      · refine relStep_plain rfl ?_; intro Ac w5 hp; have a31 : Ac.eval (.tmp 31) = .pointer (some ⟨r, 0, none⟩) := hp.dep 1 (by kernel_rfl); exact relPureX (.pointer (some ⟨r, 1, none⟩)) (fun ρ hρ h1 h2 h3 => by rw [hρ] at a31; simp [go_sem, ↓IntWalk.iteOmega, *]) rfl
      · refine relStep_plain rfl ?_; intro Ac w5 hp; have hb := hp.bel; have a32 : Ac.eval (.tmp 32) = .pointer (some ⟨r, 1, none⟩) := hp.dep 2 (by kernel_rfl); have hr5 := HRr.out.below hb HRr.out.lt; have z0 : w5.cell? ⟨r, 1, none⟩ = some (.pointer (some ⟨gt, 0, none⟩)) := hr5.cell 1; exact relPureX (.pointer (some ⟨gt, 0, none⟩)) (fun ρ hρ h1 h2 h3 => by rw [hρ] at a32; simp [go_sem, ↓IntWalk.iteOmega, *]) rfl
      · refine relStep_plain rfl ?_; intro Ac w5 hp; have a5 : Ac.eval (.tmp 5) = .pointer (some ⟨wr.heap.size, 0, none⟩) := hp.out 5 (by rfl); exact relPureX (.pointer (some ⟨wr.heap.size, 0, none⟩)) (fun ρ hρ h1 h2 h3 => by rw [hρ] at a5; simp [go_sem, ↓IntWalk.iteOmega, *]) rfl
      · refine relStep_plain rfl ?_; intro Ac w5 hp; have hb := hp.bel; have a34 : Ac.eval (.tmp 34) = .pointer (some ⟨wr.heap.size, 0, none⟩) := hp.dep 4 (by kernel_rfl); have hx5 := HBx.out.below hb HBx.out.lt; have z1 : w5.cell? ⟨wr.heap.size, 0, none⟩ = some (.int .u32 (a : Int)) := hx5.cell 0; have z2 : w5.cell? ⟨wr.heap.size, 1, none⟩ = some (.int .i64 (n0 : Int)) := hx5.cell 1; exact relPureX (.agg #[.int .u32 (a : Int), .int .i64 (n0 : Int)]) (fun ρ hρ h1 h2 h3 => by rw [hρ] at a34; simp [go_sem, ↓IntWalk.iteOmega, *]) rfl
      · refine relStep_plain rfl ?_; intro Ac w5 hp; have a5 : Ac.eval (.tmp 5) = .pointer (some ⟨wr.heap.size, 0, none⟩) := hp.out 5 (by rfl); exact relPureX (.pointer (some ⟨wr.heap.size, 2, none⟩)) (fun ρ hρ h1 h2 h3 => by rw [hρ] at a5; simp [go_sem, ↓IntWalk.iteOmega, *]) rfl
      · refine relStep_plain rfl ?_; intro Ac w5 hp; have hb := hp.bel; have a36 : Ac.eval (.tmp 36) = .pointer (some ⟨wr.heap.size, 2, none⟩) := hp.dep 6 (by kernel_rfl); have hx5 := HBx.out.below hb HBx.out.lt; have z3 : w5.cell? ⟨wr.heap.size, 2, none⟩ = some (.int .i64 X.has) := hx5.cell 2; have z4 : w5.cell? ⟨wr.heap.size, 3, none⟩ = some (.int .i64 X.org) := hx5.cell 3; have z5 : w5.cell? ⟨wr.heap.size, 4, none⟩ = some (.slice XA xn xc) := hx5.cell 4; have z6 : w5.cell? ⟨wr.heap.size, 5, none⟩ = some (.int .u32 X.hop) := hx5.cell 5; have z7 : w5.cell? ⟨wr.heap.size, 6, none⟩ = some (.int .u32 X.med) := hx5.cell 6; have z8 : w5.cell? ⟨wr.heap.size, 7, none⟩ = some (.int .u32 X.pref) := hx5.cell 7; have z9 : w5.cell? ⟨wr.heap.size, 8, none⟩ = some (.int .u32 X.aas) := hx5.cell 8; have z10 : w5.cell? ⟨wr.heap.size, 9, none⟩ = some (.int .u32 X.aid) := hx5.cell 9; have z11 : w5.cell? ⟨wr.heap.size, 10, none⟩ = some (.slice XB xm xd) := hx5.cell 10; exact relPureX (atV X.has X.org XA xn xc X.hop X.med X.pref X.aas X.aid XB xm xd) (fun ρ hρ h1 h2 h3 => by rw [hρ] at a36; simp [go_sem, ↓IntWalk.iteOmega, *]) rfl
      · refine relStep_plain rfl ?_; intro Ac w5 hp; have hb := hp.bel; have a37 : Ac.eval (.tmp 37) = atV X.has X.org XA xn xc X.hop X.med X.pref X.aas X.aid XB xm xd := hp.dep 7 (by kernel_rfl); obtain ⟨ρ, hρ, hc, hf, hgl⟩ := evalX Ac; rw [hρ] at a37; refine relCall hρ 68 #[atV X.has X.org XA xn xc X.hop X.med X.pref X.aas X.aid XB xm xd] (by simp [go_sem, ↓IntWalk.iteOmega, *]) ?_; refine (attrNormX_any X (atV X.has X.org XA xn xc X.hop X.med X.pref X.aas X.aid XB xm xd) w5 ⟨XA, xn, xc, XB, xm, xd, rfl, HXr.out.below sgMono hb, HXu.out.below hb⟩ HOk.out.1 HOk.out.2).mono ?_; rintro e w6 ⟨v6, rfl, ⟨A6, n6, c6, xs6, B6, m6, d6, rfl, hl6, hu6⟩, hb6⟩; rw [HY.out] at hl6 hu6 ⊢; exact ⟨_, rfl, ⟨A6, n6, c6, B6, m6, d6, rfl, ⟨xs6, hl6.less hb.size hb.size⟩, hu6.less hb.size⟩, hb6⟩
      intro u w8 hb7 hall; have e33 : u 3 = .pointer (some ⟨gt, 0, none⟩) := relAll_at hall (i := 3) (by decide +kernel); have e35 : u 5 = .agg #[.int .u32 (a : Int), .int .i64 (n0 : Int)] := relAll_at hall (i := 5) (by decide +kernel); obtain ⟨A9, n9, c9, B9, m9, d9, e38, ⟨xs9, hl9⟩, hu9⟩ := relAll_at hall (i := 8) (by decide +kernel); change u 8 = _ at e38; clear hall; simp only [List.drop_succ_cons, List.drop_zero, List.take_succ_cons, List.take_zero, putAll, Act.put, List.setIfInBounds_toArray, List.set_cons_zero, List.set_cons_succ, Nat.zero_add, Nat.reduceAdd, e33, e35, e38]; have hgw := HTt.out.root.lt; have hgw4 : gt < w4.heap.size := Nat.lt_of_lt_of_le hgw HB4.out.size; have hlw : ∀ j ∈ trB t, j < w4.heap.size := fun j hj => Nat.lt_of_lt_of_le (HTt.out.tree.mem.lt j hj) HB4.out.size; have HT8 := hide ((HTt.out.below HB4.out).below hb7); have HR8 := hide (HRr.out.below hb7 HRr.out.lt); have HB8 := hide (HB4.out.trans (hb7.mono HB4.out.size)); have hs8 := hb7.size; have hs4 := HB4.out.size; have hsr := HC2.out.size; have HPt := hide (trput_any F gt t a n0 w4.heap.size Y A9 n9 c9 B9 m9 d9 xs9 w8 HT8.out HPg.out (HY.out ▸ atok_norm HOk.out) hl9 hu9 hgw4 hlw (by have := HCt.out; omega)); clear hb7 hl9 hu9 hlw f0 f1 f2 f3 f4 f5 f6 f7 f8 f9 f10
      go_wp2_with fail
      refine HPt.out.mono ?_; rintro e w9 ⟨⟨v9, q9, rfl⟩, t2, hpr, ht9, hB9, hc9⟩; have hrt : ¬ (r = gt ∨ r ∈ trB t) := fun h => h.elim HS.out.rgt (fun h => (HTl.out r h).elim HS.out.rBt (fun h => by omega)); have HR9 := hide (chg_blk hc9 HR8.out hrt); have HT9 := hide ht9; have HF9 : Hid (∀ j, (F j ∨ (w4.heap.size ≤ j ∧ j < w8.heap.size)) → Ft j ∨ w3.heap.size ≤ j) := hide (fun j hj => hj.elim (HFl.out j) (fun h => .inr (by omega))); have HB9 : Hid (∀ j ∈ trB t2, j ∈ trB tt ∨ w3.heap.size ≤ j) := hide (fun j hj => (hB9 j hj).elim (HTl.out j) (fun h => .inr (by omega)))
      have HL9 : Hid (trL t2 = (LK.take (q + 1)).foldl putZ (trL tt)) := hide (by
        rw [hpr.list HTt.out.tree.wf, HTk.out, List.foldl_append, ← HLt.out, HYX.out]
        rfl)
      have HN9 : Hid (trCnt t2 ≤ trCnt tt + (q + 1)) := hide (by have h1 := hpr.cnt; have h2 := HCt.out; split at h1 <;> omega)
      have HNr9 : Hid (NrmA (trL t2)) := hide (fun z hz => by
        obtain ⟨c, k, x⟩ := z; rw [trL_mem t2 hpr.wf, hpr.get] at hz; split at hz
        · simp only [Option.some.injEq] at hz; subst hz; rw [← HY.out]; exact normA_eq X
        · exact HNr.out (c, k, x) ((trL_mem t HTt.out.tree.wf).2 hz))
      have HC9 : Hid (ChgS (fun j => j = gt ∨ j ∈ trB tt) w3 w9) := hide (chg_trans (chg_trans HC2.out (chg_below (S := fun _ => False) HB8.out) (fun k h => h.elim)) hc9 (fun k h => h.elim (fun h => .inl (.inl h)) (fun h => (HTl.out k h).elim (fun h => .inl (.inr h)) .inr))); clear hpr ht9 hB9 hc9 hrt; go_wp2
      go_roundw
      case rel => exact ⟨q + 1, t2, _, by omega, by go_num, HR9.out, HT9.out, HF9.out, HB9.out, HL9.out, HN9.out, HNr9.out, HC9.out⟩
      case measure => simp [intOf]; omega
    · obtain rfl : q = n3 := (by omega)
      have HLe : Hid (trL t = LK.foldl putZ (trL tt)) := hide (by
        have h1 := HLt.out
        rwa [List.take_of_length_le (by rw [HnL.out]; exact Nat.le_refl _)] at h1)
      have hsr := HC2.out.size; have y2 : wr.cell? ⟨r, 2, none⟩ = some (.int .i64 (m : Nat)) := HRr2.out.cell 2; have y3 : wr.cell? ⟨r, 3, none⟩ = some (.int .i64 ((0 : Nat) : Int)) := HRr2.out.cell 3; have yf := HRr2.out.frozen 3
      have hS : ∀ l' : Nat, ∀ w9, Blk w9 r 119 #[.pointer (some ⟨ga, 0, none⟩), .pointer (some ⟨gt, 0, none⟩), .int .i64 (m : Nat), .int .i64 (l' : Nat)] → ChgS (fun j => j = r) wr w9 → RSt r ga gt m l' Fa F ta t w9 ∧ ChgS (WrB r gt tt) w w9 ∧ LstAt 11 tdR w9 A3 q c3 (LK.map tdN) := fun l' w9 hk9 hc9 => by
        have hcA : ChgS (WrB r gt tt) w w9 := chg_trans (chg_trans (chg_below (S := WrB r gt tt) HB3.out) HC2.out (fun k h => .inl (.inr h))) hc9 (fun k h => .inl (.inl h)); have h := HS.out
        have hwr : ∀ j, WrB r gt tt j → ¬ Fa j := fun j hj hF => by
          rcases hj with rfl | hj
          · exact h.rFa hF
          · exact (h.ap j hj).1 hF
        refine ⟨⟨hk9, h.aim.chg hcA (fun j hj hw => ?_) (fun j hF hw => hwr j hw hF) (fun hw => ?_), HTt.out.chg hc9 (fun j hj e => ?_) (fun j hj e => ?_) (fun e => h.rgt e.symm), h.na, HNr.out, h.rFa, fun hF => (HFl.out r hF).elim h.rFt (fun h => by omega), h.rga, h.rgt, h.rBa, fun hB => (HTl.out r hB).elim h.rBt (fun h => by omega), fun j hj => ?_⟩, hcA, ?_⟩
        · rcases hw with rfl | hw
          · exact h.rBa hj
          · exact (h.ap j hw).2.2 hj
        · rcases hw with e | hw
          · exact h.rga e.symm
          · exact (h.ap ga hw).2.1 rfl
        · subst e; exact (HTl.out _ hj).elim h.rBt (fun h => by omega)
        · subst e; exact (HFl.out _ hj).elim h.rFt (fun h => by omega)
        · have hnew : w3.heap.size ≤ j → ¬ Fa j ∧ j ≠ ga ∧ j ∉ trB ta := fun hj => ⟨fun hF => by have := h.aim.low j hF; omega, fun e => by have := h.aim.root.lt; omega, fun hm => by have := h.aim.tree.mem.lt j hm; omega⟩
          rcases hj with rfl | hj
          · exact h.ap _ (.inl rfl)
          · exact (HTl.out j hj).elim (fun hm => h.ap j (.inr hm)) hnew
        · exact frs_here (frs_chg HF3.out (chg_trans (S := fun j => (j = gt ∨ j ∈ trB tt) ∨ j = r) (chg_mono HC2.out (fun k h => .inl (.inl h))) hc9 (fun k h => .inl (.inr h))) (fun j hj hw => by
            rcases hw with (e | hm) | e
            · omega
            · have := HBl.out j hm; omega
            · omega))
      have HSx := hide hS
      have HWx : Hid (∀ j, WrB r gt t j → WrB r gt tt j ∨ w.heap.size ≤ j) := hide (fun j hj => by
        rcases hj with e | e | hj
        · exact .inl (.inl e)
        · exact .inl (.inr (.inl e))
        · exact (HTl.out j hj).elim (fun h => .inl (.inr (.inr h))) (fun h => .inr (by omega)))
      have HCx : Hid (trCnt t ≤ trCnt tt + trCnt ta) := hide (by have := HCt.out; omega); clear hS; have e1 : decide ((q : Int) < (q : Int)) = false := (by simp)
      by_cases h0 : q = 0
      · subst h0; go_wp2; go_ret; obtain ⟨hA, hB, hC⟩ := HSx.out 0 wr HRr2.out (chg_refl _ _); refine ⟨A3, 0, c3, rfl, hC, ?_⟩; unfold HereR; rw [HnL.out, if_pos rfl]; exact ⟨t, F, hA, HWx.out, HLe.out, HCx.out, hB⟩
      · have e2 : decide (0 < (q : Int)) = true := decide_eq_true (by omega); have e3 : (0 : Int) < (q : Int) := (by omega)
        have e4 : decide (0 < q) = true := decide_eq_true (by omega); obtain ⟨w9, hw9⟩ : ∃ W, wr.setCell ⟨r, 3, none⟩ (.int .i64 (m : Nat)) = W := ⟨_, rfl⟩
        have HK9 : Hid (Blk w9 r 119 #[.pointer (some ⟨ga, 0, none⟩), .pointer (some ⟨gt, 0, none⟩), .int .i64 (m : Nat), .int .i64 (m : Nat)]) := hide (hw9 ▸ HRr2.out.set_ 3 _); have HG9 : Hid (ChgS (fun j => j = r) wr w9) := hide (hw9 ▸ chg_set (S := fun k => k = r) (p := ⟨r, 3, none⟩) rfl _); have HW9 := hide hw9; clear hw9; go_wp2; rw [HW9.out]; go_ret; obtain ⟨hA, hB, hC⟩ := HSx.out m w9 HK9.out HG9.out; refine ⟨A3, q, c3, rfl, hC, ?_⟩; unfold HereR; rw [HnL.out, if_neg h0]; exact ⟨t, F, hA, HWx.out, HLe.out, HCx.out, hB⟩
end Go.Proofs.YtcinjckajnnhmaaGreat
set_option linter.unusedSimpArgs false
set_option linter.unusedVariables false
namespace Go.Proofs.YtcinjckajnnhmaaGreat
open Go.RowKit Go.WideShapes Go.ChangeShapes
theorem nd_lean {α : Type} {sz : Nat} {T : TypeId} {F : Nat → Prop} {R : World → List Value → α → Prop} {w : World} {b p m : Nat} {v : Option α} {l r : Tr α} (hl : TrA sz T F R w l) (hr : TrA sz T F R w r)
    (hs : trLean (.nd b p m v l r) = .nd b p m v l r → TrA sz T F R w (.nd b p m v l r)) : TrA sz T F R w (trLean (.nd b p m v l r)) ∧ ∀ k ∈ trB (trLean (.nd b p m v l r)), k ∈ trB (.nd b p m v l r) := by
  cases v with
  | some x => exact ⟨hs rfl, fun k hk => hk⟩
  | none =>
    cases l with
    | nil => exact ⟨hr, fun k hk => by
        have h : k ∈ trB r := hk; simp [trB, h]⟩
    | nd b1 p1 m1 z1 l1 r1 =>
      cases r with
      | nil => exact ⟨hl, fun k hk => by
          have h : k ∈ trB (.nd b1 p1 m1 z1 l1 r1) := hk; simp only [trB, List.mem_cons, List.mem_append] at h ⊢; exact .inr (.inl h)⟩
      | nd b2 p2 m2 z2 l2 r2 => exact ⟨hs rfl, fun k hk => hk⟩
end Go.Proofs.YtcinjckajnnhmaaGreat
