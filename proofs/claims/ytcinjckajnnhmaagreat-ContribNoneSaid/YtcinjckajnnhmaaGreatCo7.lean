import Derived.Test.YtcinjckajnnhmaaGreatCo6
import Derived.WalkKit
import Derived.ProofKit
import Derived.OpenShut
import Derived.Below
import Derived.Laws.OwnMore
import Derived.Laws.Rows
import Derived.Laws.MakeOwn
import Derived.Deep.AppendLies
import Derived.Deep.Draws
import Derived.Deep.OwnRows
import Derived.Deep.QuietTactic
import Derived.Maps.AppendAt
import Derived.RegionTactic
import Derived.OwnWalk
import Derived.ChangeSame
import Derived.Outline
import Derived.BigQuiet
import Derived.WalkMore
import Derived.ScopeJumps
import Derived.WalkLawsBesides
import Derived.WalkSpells
import Derived.Laws.BitsLemmas
import Derived.Laws.BitsAllLaws
import Derived.WideKeyArgs
import Derived.Deep.DeepHandedRow
import Derived.Deep.DeepWitnessRowRef
import Derived.Lib.LaidTab
import Derived.Lib.AppendIntMem
import Derived.LaidMore
import Derived.MakeChecks
import Derived.Lib.Itoa
import Derived.Lib.ItoaMem
import Derived.Deep.Quiet
import Derived.Deep.Slices
import Derived.BigRegion
import Derived.Orders
import Derived.OrdersIn
import Derived.RangeFuncCalls
import Derived.Shelf.RegionOpen
import Derived.StillTailTactics
import Derived.Lib.PathFns
import Derived.Lib.IndexBytes
import Derived.RangeFuncWrites
import Derived.RangeFuncNested
import Derived.RangeFuncBound
import Derived.RangeFuncLeaves
import Derived.RangeFuncBox
import Derived.Shelf.Abstract
import Derived.OwnWalkIn
import Derived.TacticsInMore
import Derived.LoopNIn
import Derived.LoopIn
import Derived.Lib.SmallJoins
import Derived.Lib.ParseIntBCases
import Derived.Lib.IndexMore
import Derived.Shelf.Vars
import Derived.Lib.AtoiAllCases
import Derived.SliceStrings
import Derived.Deep.RegionLaw
import Derived.Sort.LotA
import Derived.BigRegionIn
import Derived.Deep.RegionHeld3
import Derived.RangeFuncOwn
import Derived.Sort.WalkA6
import Derived.Sort.WalkB3
import Derived.Sort.WalkC4
import Derived.Sort.WalkA14
import Derived.Sort.Walk11
import Derived.Sort.Walk7
import Derived.Sort.Walk13
import Derived.Sort.Row
import Derived.Lib.Walk
import Derived.Lib.Strings
import Derived.BigGuard
import Derived.BigCall
import Derived.CellFam
import Derived.Deep.LoopGhost
import Derived.Sort.LotC
import Derived.Deep.RegionWith
import Derived.RowKit
import Derived.Sort.LotD3
import Derived.Sort.LotD4
import Derived.Sort.Grow
import Derived.Sort.AtCall
import Derived.Sort.LotD5
import Derived.Laws.Bits64
import Derived.Laws.Bits64b
import Derived.Sort.EncStr
import Derived.Sort.LotD1
import Derived.Sort.LotB
import Derived.Deep.Cut
import Derived.Sort.Walk13a
import Derived.Sort.AssemblyPlain
import Derived.Shelf.Spec.SlicesInsertGrow
import Derived.Deep.MidRow
import Derived.Lib.RowBridge
import Derived.Laws.CopyOwn
import Derived.Lib.AppendZerosOnto
import Derived.Deep.DeepCutAuto
import Derived.Lib.Bytealg
import Derived.Shelf.Strings.SplitShaped
import Derived.Shelf.Strings.Prefix
import Derived.Shelf.Small.Strs
import Derived.Lib.QuietBelow
import Derived.Shelf.SlSortCmp.WholeK
import Derived.Lib.SlTrimSet
import Derived.Shelf.Strings.BuilderK
import Derived.Laws.BytesString
import Derived.Laws.IdiomStrings
set_option linter.unusedSimpArgs false
set_option linter.unusedVariables false
namespace Go.Proofs.YtcinjckajnnhmaaGreat
open Go.RowKit Go.WideShapes Go.ChangeShapes
attribute [local go_sem] Oper.semAt_some
set_option maxRecDepth 100000 in
theorem tofNil (pa pl : Int) (w : World) : Calls Tryz.prog 113 #[.pointer none, .agg #[.int .u32 pa, .int .i64 pl]] w fun e w' => e = .returned (.pointer none) ∧ Below w.heap.size w w' := by
  obtain ⟨w0, hw0⟩ : ∃ w0, w.alloc (.cells #[.int .u32 pa, .int .i64 pl] 24) = w0 := ⟨_, rfl⟩
  have HB : Hid (Below w.heap.size w w0) := hide (hw0 ▸ blkBelow1 w _)
  have HX : Hid (Blk w0 w.heap.size 24 #[.int .u32 pa, .int .i64 pl]) := hide (hw0 ▸ Blk.new w _ _)
  have x0 : w0.cell? ⟨w.heap.size, 0, none⟩ = some (.int .u32 pa) := HX.out.cell 0
  have x1 : w0.cell? ⟨w.heap.size, 1, none⟩ = some (.int .i64 pl) := HX.out.cell 1
  have HW := hide hw0
  clear hw0
  go_enter Tryz.func113, Tryz.ntmps113
  go_wp2
  go_ret
  exact ⟨rfl, HW.out.symm ▸ HB.out⟩
set_option maxRecDepth 100000 in
theorem tputNil (r : RT) (w : World) : Calls Tryz.prog 52 #[.pointer none, .agg (rtV r)] w fun e w' => e = .returned (.slice none 0 0) ∧ Below w.heap.size w w' := by
  obtain ⟨w0, hw0⟩ : ∃ w0, w.alloc (.cells (rtV r) 30) = w0 := ⟨_, rfl⟩
  have HB : Hid (Below w.heap.size w w0) := hide (hw0 ▸ blkBelow1 w _)
  have HX : Hid (Blk w0 w.heap.size 30 (rtV r)) := hide (hw0 ▸ Blk.new w _ _)
  have HW := hide hw0
  clear hw0
  go_enter Tryz.func52, Tryz.ntmps52
  go_wp2
  go_ret
  exact ⟨rfl, HW.out.symm ▸ HB.out⟩
set_option maxRecDepth 100000 in
theorem tcutNil (pa pl : Int) (w : World) : Calls Tryz.prog 53 #[.pointer none, .agg #[.int .u32 pa, .int .i64 pl]] w fun e w' => e = .returned (.slice none 0 0) ∧ Below w.heap.size w w' := by
  obtain ⟨w0, hw0⟩ : ∃ w0, w.alloc (.cells #[.int .u32 pa, .int .i64 pl] 24) = w0 := ⟨_, rfl⟩
  have HB : Hid (Below w.heap.size w w0) := hide (hw0 ▸ blkBelow1 w _)
  have HX : Hid (Blk w0 w.heap.size 24 #[.int .u32 pa, .int .i64 pl]) := hide (hw0 ▸ Blk.new w _ _)
  have x0 : w0.cell? ⟨w.heap.size, 0, none⟩ = some (.int .u32 pa) := HX.out.cell 0
  have x1 : w0.cell? ⟨w.heap.size, 1, none⟩ = some (.int .i64 pl) := HX.out.cell 1
  have HW := hide hw0
  clear hw0
  go_enter Tryz.func53, Tryz.ntmps53
  go_wp2
  go_ret
  exact ⟨rfl, HW.out.symm ▸ HB.out⟩
set_option maxRecDepth 100000 in
theorem taggsNil (pa pl : Int) (w : World) : Calls Tryz.prog 58 #[.pointer none, .agg #[.int .u32 pa, .int .i64 pl]] w fun e w' => e = .returned (.slice none 0 0) ∧ Below w.heap.size w w' := by
  obtain ⟨w0, hw0⟩ : ∃ w0, w.alloc (.cells #[.int .u32 pa, .int .i64 pl] 24) = w0 := ⟨_, rfl⟩
  have HB : Hid (Below w.heap.size w w0) := hide (hw0 ▸ blkBelow1 w _)
  have HX : Hid (Blk w0 w.heap.size 24 #[.int .u32 pa, .int .i64 pl]) := hide (hw0 ▸ Blk.new w _ _)
  have x0 : w0.cell? ⟨w.heap.size, 0, none⟩ = some (.int .u32 pa) := HX.out.cell 0
  have x1 : w0.cell? ⟨w.heap.size, 1, none⟩ = some (.int .i64 pl) := HX.out.cell 1
  have HW := hide hw0
  clear hw0
  go_enter Tryz.func58, Tryz.ntmps58
  go_wp2
  go_ret
  exact ⟨rfl, HW.out.symm ▸ HB.out⟩
set_option maxRecDepth 100000 in
theorem tactiveNil (w : World) : Calls Tryz.prog 54 #[.pointer none] w fun e w' => e = .returned (.slice none 0 0) ∧ w' = w := by
  go_enter Tryz.func54, Tryz.ntmps54
  go_wp2
  go_ret
  exact ⟨rfl, rfl⟩
set_option maxRecDepth 100000 in
theorem tlenNil (w : World) : Calls Tryz.prog 55 #[.pointer none] w fun e w' => e = .returned (.int .i64 0) ∧ w' = w := by
  go_enter Tryz.func55, Tryz.ntmps55
  go_wp2
  go_ret
  exact ⟨rfl, rfl⟩
set_option maxRecDepth 100000 in
theorem blenNil (w : World) : Calls Tryz.prog 75 #[.pointer none] w fun e w' => e = .returned (.int .i64 0) ∧ w' = w := by
  go_enter Tryz.func75, Tryz.ntmps75
  go_wp2_with fail
  refine (topB_nil w).mono ?_
  rintro e w1 ⟨rfl, rfl⟩
  go_wp2_with fail
  refine (countB_any (α := Nat) (F := fun _ => False) (R := RU) .nil _ trivial).mono ?_
  rintro e w2 ⟨rfl, rfl⟩
  go_wp2
  go_ret
  exact ⟨rfl, rfl⟩
set_option maxRecDepth 100000 in
theorem beachNil (f : Value) (w : World) : Calls Tryz.prog 138 #[.pointer none, f] w fun e w' => e = .returned (.tuple #[]) ∧ w' = w := by
  go_enter Tryz.func138, Tryz.ntmps138
  go_wp2
  refine bodyPost_ret (results_none rfl _ _ _) rfl ?_
  exact ⟨rfl, rfl⟩
set_option maxRecDepth 100000 in
theorem ballNil (w : World) : Calls Tryz.prog 76 #[.pointer none] w fun e w' => e = .returned (.slice none 0 0) ∧ Below w.heap.size w w' := by
  obtain ⟨w0, hw0⟩ : ∃ w0, w.alloc (.cells #[.slice none 0 0] 45) = w0 := ⟨_, rfl⟩
  have HB : Hid (Below w.heap.size w w0) := hide (hw0 ▸ blkBelow1 w _)
  have HX : Hid (Blk w0 w.heap.size 45 #[.slice none 0 0]) := hide (hw0 ▸ Blk.new w _ _)
  have HW := hide hw0
  clear hw0
  go_enter Tryz.func76, Tryz.ntmps76
  go_wp2_with fail
  rw [HW.out]
  refine (topB_nil w0).mono ?_
  rintro e w1 ⟨rfl, rfl⟩
  go_wp2_with fail
  refine (beachNil _ w1).mono ?_
  rintro e w2 ⟨rfl, rfl⟩
  have x0 : w2.cell? ⟨w.heap.size, 0, none⟩ = some (.slice none 0 0) := HX.out.cell 0
  go_wp2
  go_ret
  exact ⟨rfl, HB.out⟩
set_option maxRecDepth 100000 in
theorem tofsNil (pa pl : Int) (w : World) : Calls Tryz.prog 57 #[.pointer none, .agg #[.int .u32 pa, .int .i64 pl]] w fun e w' => e = .returned (.slice none 0 0) ∧ Below w.heap.size w w' := by
  obtain ⟨w0, hw0⟩ : ∃ w0, w.alloc (.cells #[.int .u32 pa, .int .i64 pl] 24) = w0 := ⟨_, rfl⟩
  have HB : Hid (Below w.heap.size w w0) := hide (hw0 ▸ blkBelow1 w _)
  have HX : Hid (Blk w0 w.heap.size 24 #[.int .u32 pa, .int .i64 pl]) := hide (hw0 ▸ Blk.new w _ _)
  have x0 : w0.cell? ⟨w.heap.size, 0, none⟩ = some (.int .u32 pa) := HX.out.cell 0
  have x1 : w0.cell? ⟨w.heap.size, 1, none⟩ = some (.int .i64 pl) := HX.out.cell 1
  have HW := hide hw0
  clear hw0
  go_enter Tryz.func57, Tryz.ntmps57
  go_wp2_with fail
  rw [HW.out]
  refine (tofNil pa pl w0).mono ?_
  rintro e w1 ⟨rfl, hb1⟩
  have HB1 := hide (HB.out.trans (hb1.mono HB.out.size))
  clear x0 x1 hb1
  go_wp2_with fail
  refine (ballNil w1).mono ?_
  rintro e w2 ⟨rfl, h2⟩
  have HB2 : Hid (Below w.heap.size w w2) := hide (by first | exact h2 ▸ HB1.out | exact HB1.out.trans (h2.mono HB1.out.size))
  clear h2
  go_wp2
  go_ret
  exact ⟨rfl, HB2.out⟩
set_option maxRecDepth 100000 in
theorem tcountNil (pa pl : Int) (w : World) : Calls Tryz.prog 59 #[.pointer none, .agg #[.int .u32 pa, .int .i64 pl]] w fun e w' => e = .returned (.int .i64 0) ∧ Below w.heap.size w w' := by
  obtain ⟨w0, hw0⟩ : ∃ w0, w.alloc (.cells #[.int .u32 pa, .int .i64 pl] 24) = w0 := ⟨_, rfl⟩
  have HB : Hid (Below w.heap.size w w0) := hide (hw0 ▸ blkBelow1 w _)
  have HX : Hid (Blk w0 w.heap.size 24 #[.int .u32 pa, .int .i64 pl]) := hide (hw0 ▸ Blk.new w _ _)
  have x0 : w0.cell? ⟨w.heap.size, 0, none⟩ = some (.int .u32 pa) := HX.out.cell 0
  have x1 : w0.cell? ⟨w.heap.size, 1, none⟩ = some (.int .i64 pl) := HX.out.cell 1
  have HW := hide hw0
  clear hw0
  go_enter Tryz.func59, Tryz.ntmps59
  go_wp2_with fail
  rw [HW.out]
  refine (tofNil pa pl w0).mono ?_
  rintro e w1 ⟨rfl, hb1⟩
  have HB1 := hide (HB.out.trans (hb1.mono HB.out.size))
  clear x0 x1 hb1
  go_wp2_with fail
  refine (blenNil w1).mono ?_
  rintro e w2 ⟨rfl, h2⟩
  have HB2 : Hid (Below w.heap.size w w2) := hide (by first | exact h2 ▸ HB1.out | exact HB1.out.trans (h2.mono HB1.out.size))
  clear h2
  go_wp2
  go_ret
  exact ⟨rfl, HB2.out⟩
set_option maxRecDepth 100000 in
set_option maxHeartbeats 8000000 in
theorem tof_any (a n tb gE gW gB nb en : Nat) (wt bt : Tr Nat) (w : World) (hk : TK w a n tb gE gW gB nb en wt bt) : Calls Tryz.prog 113 #[.pointer (some ⟨tb, 0, none⟩), .agg #[.int .u32 (a : Int), .int .i64 (n : Int)]] w fun e w' => e = .returned (.pointer (some ⟨gB, 0, none⟩)) ∧ Below w.heap.size w w' := by
  obtain ⟨w1, hw1⟩ : ∃ w1, w.alloc (.cells #[.int .u32 (a : Int), .int .i64 (n : Int)] 24) = w1 := ⟨_, rfl⟩
  have hb1 : Below w.heap.size w w1 := hw1 ▸ blkBelow1 w _
  have HX1 : Hid (Blk w1 w.heap.size 24 #[.int .u32 (a : Int), .int .i64 (n : Int)]) := hide (hw1 ▸ Blk.new w _ _)
  have HK1 := hide (hk.below hb1)
  have HGt := hide (getE_tk HK1.out)
  have HB1 := hide hb1
  have HW1 := hide hw1
  clear hw1 hb1 hk
  go_enter Tryz.func113, Tryz.ntmps113
  go_upto_region 3 with fail
  rw [HW1.out]
  have Hmn := hide (show AllMono [(fun v _ => v = .pointer (some ⟨tb, 0, none⟩)), (fun v _ => v = .pointer (some ⟨tb, 0, none⟩)), (fun v _ => v = .pointer (some ⟨tb, 4, none⟩)), (fun v _ => v = .pointer (some ⟨gE, 0, none⟩)), (fun v _ => v = .agg #[.int .u32 (a : Int), .int .i64 (n : Int)]), (fun v _ => v = .tuple #[.pointer (some ⟨en, 0, none⟩), .bool true]), (fun v _ => v = .tuple #[.pointer (some ⟨en, 0, none⟩), .bool true]), (fun v _ => v = .pointer (some ⟨en, 0, none⟩)), (fun v _ => v = .bool true), (fun v _ => v = .pointer (some ⟨en, 0, none⟩)), (fun v _ => v = .bool true)] from ⟨fun _ _ _ _ h => h, fun _ _ _ _ h => h, fun _ _ _ _ h => h, fun _ _ _ _ h => h, fun _ _ _ _ h => h, fun _ _ _ _ h => h, fun _ _ _ _ h => h, fun _ _ _ _ h => h, fun _ _ _ _ h => h, fun _ _ _ _ h => h, fun _ _ _ _ h => h, trivial⟩)
  refine wp_region_rel _ (by kernel_rfl) (by kernel_rfl) (relMono _ Hmn.out) ⟨?_, ?_, ?_, ?_, ?_, ?_, ?_, ?_, ?_, ?_, ?_, trivial⟩ ?_
  · refine relStep_plain rfl ?_
    intro Ac w5 hp
    have hb := hp.bel
    have a0 : Ac.eval (.tmp 0) = .pointer (some ⟨tb, 0, none⟩) := hp.out 0 (by rfl)
    have hc := evalC Ac; have hf := evalF Ac; have hgl := evalG Ac
    obtain ⟨ρ, hρ⟩ : ∃ ρ, Ac.eval = ρ := ⟨_, rfl⟩
    rw [hρ] at a0 hc hf hgl
    exact relPure hρ (.pointer (some ⟨tb, 0, none⟩)) (by simp [go_sem, hc, hf, hgl, ↓IntWalk.iteOmega, a0, *]) rfl
  · refine relStep_plain rfl ?_
    intro Ac w5 hp
    have hb := hp.bel
    have a10 : Ac.eval (.tmp 10) = .pointer (some ⟨tb, 0, none⟩) := hp.dep 0 (by kernel_rfl)
    have hc := evalC Ac; have hf := evalF Ac; have hgl := evalG Ac
    obtain ⟨ρ, hρ⟩ : ∃ ρ, Ac.eval = ρ := ⟨_, rfl⟩
    rw [hρ] at a10 hc hf hgl
    exact relPure hρ (.pointer (some ⟨tb, 0, none⟩)) (by simp [go_sem, hc, hf, hgl, ↓IntWalk.iteOmega, a10, *]) rfl
  · refine relStep_plain rfl ?_
    intro Ac w5 hp
    have hb := hp.bel
    have a11 : Ac.eval (.tmp 11) = .pointer (some ⟨tb, 0, none⟩) := hp.dep 1 (by kernel_rfl)
    have hc := evalC Ac; have hf := evalF Ac; have hgl := evalG Ac
    obtain ⟨ρ, hρ⟩ : ∃ ρ, Ac.eval = ρ := ⟨_, rfl⟩
    rw [hρ] at a11 hc hf hgl
    exact relPure hρ (.pointer (some ⟨tb, 4, none⟩)) (by simp [go_sem, hc, hf, hgl, ↓IntWalk.iteOmega, a11, *]) rfl
  · refine relStep_plain rfl ?_
    intro Ac w5 hp
    have hb := hp.bel
    have a12 : Ac.eval (.tmp 12) = .pointer (some ⟨tb, 4, none⟩) := hp.dep 2 (by kernel_rfl)
    have ht5 := (HK1.out.below hb).ft
    have t4 : w5.cell? ⟨tb, 4, none⟩ = some (.pointer (some ⟨gE, 0, none⟩)) := ht5.cell 4
    have hc := evalC Ac; have hf := evalF Ac; have hgl := evalG Ac
    obtain ⟨ρ, hρ⟩ : ∃ ρ, Ac.eval = ρ := ⟨_, rfl⟩
    rw [hρ] at a12 hc hf hgl
    exact relPure hρ (.pointer (some ⟨gE, 0, none⟩)) (by simp [go_sem, hc, hf, hgl, ↓IntWalk.iteOmega, a12, *]) rfl
  · refine relStep_plain rfl ?_
    intro Ac w5 hp
    have hb := hp.bel
    have a3 : Ac.eval (.tmp 3) = .pointer (some ⟨w.heap.size, 0, none⟩) := hp.out 3 (by rfl)
    have hx5 := HX1.out.below hb HX1.out.lt
    have x0 : w5.cell? ⟨w.heap.size, 0, none⟩ = some (.int .u32 (a : Int)) := hx5.cell 0
    have x1 : w5.cell? ⟨w.heap.size, 1, none⟩ = some (.int .i64 (n : Int)) := hx5.cell 1
    have hc := evalC Ac; have hf := evalF Ac; have hgl := evalG Ac
    obtain ⟨ρ, hρ⟩ : ∃ ρ, Ac.eval = ρ := ⟨_, rfl⟩
    rw [hρ] at a3 hc hf hgl
    exact relPure hρ (.agg #[.int .u32 (a : Int), .int .i64 (n : Int)]) (by simp [go_sem, hc, hf, hgl, ↓IntWalk.iteOmega, a3, *]) rfl
  · refine relStep_plain rfl ?_
    intro Ac w5 hp
    have hb := hp.bel
    have a13 : Ac.eval (.tmp 13) = .pointer (some ⟨gE, 0, none⟩) := hp.dep 3 (by kernel_rfl)
    have a14 : Ac.eval (.tmp 14) = .agg #[.int .u32 (a : Int), .int .i64 (n : Int)] := hp.dep 4 (by kernel_rfl)
    have hc := evalC Ac; have hf := evalF Ac; have hgl := evalG Ac
    obtain ⟨ρ, hρ⟩ : ∃ ρ, Ac.eval = ρ := ⟨_, rfl⟩
    rw [hρ] at a13 a14 hc hf hgl
    refine relCall hρ 106 #[.pointer (some ⟨gE, 0, none⟩), .agg #[.int .u32 (a : Int), .int .i64 (n : Int)]] (by simp [go_sem, hc, hf, hgl, ↓IntWalk.iteOmega, a13, a14, *]) ?_
    refine (HGt.out w5 hb).mono ?_
    rintro e w6 ⟨hb6, rfl⟩
    exact ⟨_, rfl, rfl, hb6⟩
  · refine relStep_plain rfl ?_
    intro Ac w5 hp
    have hb := hp.bel
    have a15 : Ac.eval (.tmp 15) = .tuple #[.pointer (some ⟨en, 0, none⟩), .bool true] := hp.dep 5 (by kernel_rfl)
    have hc := evalC Ac; have hf := evalF Ac; have hgl := evalG Ac
    obtain ⟨ρ, hρ⟩ : ∃ ρ, Ac.eval = ρ := ⟨_, rfl⟩
    rw [hρ] at a15 hc hf hgl
    exact relPure hρ (.tuple #[.pointer (some ⟨en, 0, none⟩), .bool true]) (by simp [go_sem, hc, hf, hgl, ↓IntWalk.iteOmega, a15, *]) rfl
  · refine relStep_plain rfl ?_
    intro Ac w5 hp
    have hb := hp.bel
    have a9 : Ac.eval (.tmp 9) = .tuple #[.pointer (some ⟨en, 0, none⟩), .bool true] := hp.dep 6 (by kernel_rfl)
    have hc := evalC Ac; have hf := evalF Ac; have hgl := evalG Ac
    obtain ⟨ρ, hρ⟩ : ∃ ρ, Ac.eval = ρ := ⟨_, rfl⟩
    rw [hρ] at a9 hc hf hgl
    exact relPure hρ (.pointer (some ⟨en, 0, none⟩)) (by simp [go_sem, hc, hf, hgl, ↓IntWalk.iteOmega, a9, *]) rfl
  · refine relStep_plain rfl ?_
    intro Ac w5 hp
    have hb := hp.bel
    have a9 : Ac.eval (.tmp 9) = .tuple #[.pointer (some ⟨en, 0, none⟩), .bool true] := hp.dep 6 (by kernel_rfl)
    have hc := evalC Ac; have hf := evalF Ac; have hgl := evalG Ac
    obtain ⟨ρ, hρ⟩ : ∃ ρ, Ac.eval = ρ := ⟨_, rfl⟩
    rw [hρ] at a9 hc hf hgl
    exact relPure hρ (.bool true) (by simp [go_sem, hc, hf, hgl, ↓IntWalk.iteOmega, a9, *]) rfl
  · refine relStep_plain rfl ?_
    intro Ac w5 hp
    have hb := hp.bel
    have a16 : Ac.eval (.tmp 16) = .pointer (some ⟨en, 0, none⟩) := hp.dep 7 (by kernel_rfl)
    have hc := evalC Ac; have hf := evalF Ac; have hgl := evalG Ac
    obtain ⟨ρ, hρ⟩ : ∃ ρ, Ac.eval = ρ := ⟨_, rfl⟩
    rw [hρ] at a16 hc hf hgl
    exact relPure hρ (.pointer (some ⟨en, 0, none⟩)) (by simp [go_sem, hc, hf, hgl, ↓IntWalk.iteOmega, a16, *]) rfl
  · refine relStep_plain rfl ?_
    intro Ac w5 hp
    have hb := hp.bel
    have a17 : Ac.eval (.tmp 17) = .bool true := hp.dep 8 (by kernel_rfl)
    have hc := evalC Ac; have hf := evalF Ac; have hgl := evalG Ac
    obtain ⟨ρ, hρ⟩ : ∃ ρ, Ac.eval = ρ := ⟨_, rfl⟩
    rw [hρ] at a17 hc hf hgl
    exact relPure hρ (.bool true) (by simp [go_sem, hc, hf, hgl, ↓IntWalk.iteOmega, a17, *]) rfl
  intro u w2 hb7 hall
  have e5 : u 9 = .pointer (some ⟨en, 0, none⟩) := relAll_at hall (i := 9) (by decide +kernel)
  have e6 : u 10 = .bool true := relAll_at hall (i := 10) (by decide +kernel)
  clear hall
  simp only [List.drop_succ_cons, List.drop_zero, List.take_succ_cons, List.take_zero, putAll, Act.put, List.setIfInBounds_toArray, List.set_cons_zero, List.set_cons_succ, Nat.zero_add, Nat.reduceAdd, e5, e6]
  have HB2 := hide (HB1.out.trans (hb7.mono HB1.out.size))
  have HK2 := hide (HK1.out.below hb7)
  have n7 : w2.cell? ⟨en, 7, none⟩ = some (.pointer (some ⟨gB, 0, none⟩)) := HK2.out.fn.cell 7
  clear hb7
  go_wp2
  go_ret
  exact ⟨rfl, HB2.out⟩
set_option maxRecDepth 100000 in
set_option maxHeartbeats 8000000 in
theorem tcount_any (a n tb gE gW gB nb en : Nat) (wt bt : Tr Nat) (w : World) (hk : TK w a n tb gE gW gB nb en wt bt) : Calls Tryz.prog 59 #[.pointer (some ⟨tb, 0, none⟩), .agg #[.int .u32 (a : Int), .int .i64 (n : Int)]] w fun e w' => e = .returned (.int .i64 (trCnt bt : Int)) ∧ Below w.heap.size w w' := by
  obtain ⟨w1, hw1⟩ : ∃ w1, w.alloc (.cells #[.int .u32 (a : Int), .int .i64 (n : Int)] 24) = w1 := ⟨_, rfl⟩
  have hb1 : Below w.heap.size w w1 := hw1 ▸ blkBelow1 w _
  have HX1 : Hid (Blk w1 w.heap.size 24 #[.int .u32 (a : Int), .int .i64 (n : Int)]) := hide (hw1 ▸ Blk.new w _ _)
  have HK1 := hide (hk.below hb1)
  have HB1 := hide hb1
  have HW1 := hide hw1
  have x0 : w1.cell? ⟨w.heap.size, 0, none⟩ = some (.int .u32 (a : Int)) := HX1.out.cell 0
  have x1 : w1.cell? ⟨w.heap.size, 1, none⟩ = some (.int .i64 (n : Int)) := HX1.out.cell 1
  clear hw1 hb1 hk
  go_enter Tryz.func59, Tryz.ntmps59
  go_wp2_with fail
  rw [HW1.out]
  refine (tof_any a n tb gE gW gB nb en wt bt w1 HK1.out).mono ?_
  rintro e w2 ⟨rfl, hb2⟩
  have HB2 := hide (HB1.out.trans (hb2.mono HB1.out.size))
  have HK2 := hide (HK1.out.below hb2)
  clear hb2 x0 x1
  go_wp2_with fail
  refine (tlenB_any (F := fun _ => False) (R := RU) gB bt w2 HK2.out.fb HK2.out.fbt.mem).mono ?_
  rintro e w3 ⟨rfl, rfl⟩
  go_wp2
  go_ret
  exact ⟨rfl, HB2.out⟩
set_option maxRecDepth 100000 in
set_option maxHeartbeats 8000000 in
theorem tlen_any (a n tb gE gW gB nb en : Nat) (wt bt : Tr Nat) (w : World) (hk : TK w a n tb gE gW gB nb en wt bt) : Calls Tryz.prog 55 #[.pointer (some ⟨tb, 0, none⟩)] w fun e w' => e = .returned (.int .i64 (trCnt wt : Int)) ∧ w' = w := by
  have HK := hide hk
  have t5 : w.cell? ⟨tb, 5, none⟩ = some (.pointer (some ⟨gW, 0, none⟩)) := hk.ft.cell 5
  clear hk
  go_enter Tryz.func55, Tryz.ntmps55
  go_wp2_with fail
  refine (tlenP_any (F := fun _ => False) (R := RU) gW wt w HK.out.fw HK.out.fwt.mem).mono ?_
  rintro e w3 ⟨rfl, rfl⟩
  go_wp2
  go_ret
  exact ⟨rfl, rfl⟩
end Go.Proofs.YtcinjckajnnhmaaGreat
set_option linter.unusedSimpArgs false
set_option linter.unusedVariables false
namespace Go.Proofs.YtcinjckajnnhmaaGreat
open Go.RowKit Go.WideShapes Go.ChangeShapes
attribute [local go_sem] Oper.semAt_some
set_option maxRecDepth 100000 in
set_option maxHeartbeats 8000000 in
theorem lives30_any (w : World) : Calls Tryz.prog 56 #[] w (GoodP true w) := by
  have hpA : PG 167772160 8 := pg8
  have hpP : PG 167837696 16 := ⟨by omega, by omega, by decide +kernel⟩
  obtain ⟨w1, hw1⟩ : ∃ w1, (w.alloc (.cells #[.int .u32 167772160, .int .i64 8] 24)).alloc (.cells #[.int .u32 167837696, .int .i64 16] 24) = w1 := ⟨_, rfl⟩
  have hb1 : Below w.heap.size w w1 := hw1 ▸ blkBelow2 w _ _
  have HA1 : Hid (Blk w1 w.heap.size 24 #[.int .u32 167772160, .int .i64 8]) := hide (hw1 ▸ (Blk.new w _ _).alloc _)
  have HP1 : Hid (Blk w1 (w.heap.size + 1) 24 #[.int .u32 167837696, .int .i64 16]) := hide (hw1 ▸ blk_new' _ _ (by simp))
  have HB1 := hide hb1
  have HW1 := hide hw1
  clear hw1 hb1
  go_enter Tryz.func56, Tryz.ntmps56
  go_upto_region 2 with fail
  rw [HW1.out]
  have x0 : w1.cell? ⟨w.heap.size, 0, none⟩ = some (.int .u32 167772160) := HA1.out.cell 0
  have x1 : w1.cell? ⟨w.heap.size, 1, none⟩ = some (.int .i64 8) := HA1.out.cell 1
  obtain ⟨w1', hw1'⟩ : ∃ w2, w1.alloc (.cells #[.int .u32 167772160, .int .i64 8, .bool false, .bool false, .string ⟨#[]⟩, .string ⟨#[]⟩, .string ⟨#[]⟩] 160) = w2 := ⟨_, rfl⟩
  have hb1' : Below w1.heap.size w1 w1' := hw1' ▸ blkBelow1 w1 _
  have HR : Hid (Blk w1' w1.heap.size 160 #[.int .u32 167772160, .int .i64 8, .bool false, .bool false, .string ⟨#[]⟩, .string ⟨#[]⟩, .string ⟨#[]⟩]) := hide (hw1' ▸ Blk.new w1 _ _)
  have HNw : Hid (Calls Tryz.prog 51 #[.agg #[.slice none 0 0, .slice none 0 0, .slice none 0 0, .slice none 0 0], .slice (some ⟨w1.heap.size, 0, none⟩) 1 1] w1' fun e w' => ∃ tb gE gW gB nb en, e = .returned (.pointer (some ⟨tb, 0, none⟩)) ∧ TK w' 167772160 8 tb gE gW gB nb en .nil .nil ∧ Below w1'.heap.size w1' w' ∧ w1'.heap.size ≤ gW ∧ w1'.heap.size ≤ gB) := hide (cnew_any w1.heap.size 167772160 8 w1' hpA HR.out)
  have HW1' := hide hw1'
  have HB1' := hide (HB1.out.trans (hb1'.mono HB1.out.size))
  have HA1' := hide (HA1.out.below hb1' HA1.out.lt)
  have HP1' := hide (HP1.out.below hb1' HP1.out.lt)
  clear hw1' hb1'
  go_wp2_with fail
  rw [HW1'.out]
  refine HNw.out.mono ?_
  rintro e w2 ⟨tb, gE, gW, gB, nb, en, rfl, hk2, hb2, hgW, hgB⟩
  have HB2 := hide (HB1'.out.trans (hb2.mono HB1'.out.size))
  have HA2 := hide (HA1'.out.below hb2 HA1'.out.lt)
  have HP2 := hide (HP1'.out.below hb2 HP1'.out.lt)
  have HK2 := hide hk2
  have HgW : Hid (w.heap.size + 1 + 1 ≤ gW) := hide (Nat.le_trans (by have := HP1'.out.lt; omega) hgW)
  have HgB : Hid (w.heap.size + 1 + 1 ≤ gB) := hide (Nat.le_trans (by have := HP1'.out.lt; omega) hgB)
  have hs2 : w.heap.size + 1 + 1 ≤ w2.heap.size := HP2.out.lt
  clear x0 x1 hk2 hb2 hgW hgB
  have HPy : Hid (Calls Tryz.prog 52 #[.pointer (some ⟨tb, 0, none⟩), .agg #[.int .u32 167837696, .int .i64 16, .int .i64 0, .int .i64 0, .slice none 0 0, .int .u32 0, .int .u32 0, .int .u32 0, .int .u32 0, .int .u32 0, .slice none 0 0, .int .u32 0, .int .u32 0, .int .u32 0, .bool false, .bool false]] w2 fun e w' => ∃ A' c' t2 bb, e = .returned (.slice A' 1 c') ∧ LP w' A' c' 167772160 8 ∧ TK w' 167772160 8 tb gE gW gB nb en t2 (.nd bb 167837696 16 (some 0) .nil .nil) ∧ PutR 167837696 16 0 .nil t2 ∧ Below (w.heap.size + 1 + 1) w2 w' ∧ (∀ j ∈ trB t2, w.heap.size + 1 + 1 ≤ j)) := hide (tput_yes 167772160 8 167837696 16 tb gE gW gB nb en .nil w2 HK2.out hpP (by decide +kernel) (by decide +kernel) (by omega) (w.heap.size + 1 + 1) hs2 HgW.out HgB.out (by simp [trB]) rfl (by simp [trCnt]))
  have y0 : w2.cell? ⟨w.heap.size + 1, 0, none⟩ = some (.int .u32 167837696) := HP2.out.cell 0
  have y1 : w2.cell? ⟨w.heap.size + 1, 1, none⟩ = some (.int .i64 16) := HP2.out.cell 1
  go_wp2_with fail
  refine HPy.out.mono ?_
  rintro e w3 ⟨A7, c7, t2, bb, rfl, hl3, hk3, hpr3, hb3, hlo3⟩
  have HB3 := hide (HB2.out.trans (hb3.mono (by omega)))
  have HA3 := hide (HA2.out.below hb3 (by omega))
  have HK3 := hide hk3
  have HL3 := hide hl3
  have HPr3 := hide hpr3
  have hs3 : w.heap.size + 1 + 1 ≤ w3.heap.size := Nat.le_trans hs2 hb3.size
  have hc3 : trCnt t2 = 1 := by have := hpr3.cnt; simpa [trCnt, trGet] using this
  have hg3 : trGet 167772160 8 t2 = none := by rw [hpr3.get]; simp [trGet]
  have HPn : Hid (Calls Tryz.prog 52 #[.pointer (some ⟨tb, 0, none⟩), .agg #[.int .u32 167772160, .int .i64 8, .int .i64 0, .int .i64 0, .slice none 0 0, .int .u32 0, .int .u32 0, .int .u32 0, .int .u32 0, .int .u32 0, .slice none 0 0, .int .u32 0, .int .u32 0, .int .u32 0, .bool false, .bool false]] w3 fun e w' => ∃ A' c' t3, e = .returned (.slice A' 0 c') ∧ TK w' 167772160 8 tb gE gW gB nb en t3 (.nd bb 167837696 16 (some 0) .nil .nil) ∧ PutR 167772160 8 0 t2 t3 ∧ Below (w.heap.size + 1 + 1) w3 w' ∧ (∀ j ∈ trB t3, w.heap.size + 1 + 1 ≤ j) ∧ ∀ g cs, Blk w3 g 24 cs → Blk w' g 24 cs) := hide (tput_no 167772160 8 167772160 8 tb gE gW gB nb en t2 (.nd bb 167837696 16 (some 0) .nil .nil) w3 HK3.out hpA (by decide +kernel) (by decide +kernel) (by omega) (w.heap.size + 1 + 1) hs3 HgW.out HgB.out hlo3 hg3 (by omega))
  clear hl3 hk3 hpr3 hb3 hlo3 y0 y1 hs2
  have x0 : w3.cell? ⟨w.heap.size, 0, none⟩ = some (.int .u32 167772160) := HA3.out.cell 0
  have x1 : w3.cell? ⟨w.heap.size, 1, none⟩ = some (.int .i64 8) := HA3.out.cell 1
  go_wp2_with fail
  refine HPn.out.mono ?_
  rintro e w4 ⟨A8, c8, t3, rfl, hk4, hpr4, hb4, hlo4, hpx4⟩
  have HB4 := hide (HB3.out.trans (hb4.mono (by omega)))
  have HA4 := hide (HA3.out.below hb4 (by omega))
  have HL4 : Hid (LP w4 A7 c7 167772160 8) := by
    obtain ⟨h1, g, cs, h2, h3⟩ := HL3.out
    have h4 := hpx4 g cs h3
    refine hide ⟨h1.keepW (fun _ _ h => h) hb4.size (fun ad i hA => ?_), g, cs, h2, h4⟩
    rw [h2] at hA
    cases hA
    rw [h4.cell, h3.cell]
  have hc4 : trCnt t3 = 2 := by have := hpr4.cnt; rw [hg3, hc3] at this; simpa using this
  obtain ⟨g, o, rfl, hgl, y0, y1⟩ := px_cells HL4.out.1
  have HY0 := hide y0
  have HY1 := hide y1
  have HCn : Hid (∀ W, Below w4.heap.size w4 W → Calls Tryz.prog 59 #[.pointer (some ⟨tb, 0, none⟩), .agg #[.int .u32 167772160, .int .i64 8]] W fun e w' => e = .returned (.int .i64 1) ∧ Below W.heap.size W w') := hide (fun W hb => tcount_any 167772160 8 tb gE gW gB nb en t3 (.nd bb 167837696 16 (some 0) .nil .nil) W (hk4.below hb))
  have HLn : Hid (∀ W, Below w4.heap.size w4 W → Calls Tryz.prog 55 #[.pointer (some ⟨tb, 0, none⟩)] W fun e w' => e = .returned (.int .i64 2) ∧ w' = W) := hide (fun W hb => by have h := tlen_any 167772160 8 tb gE gW gB nb en t3 (.nd bb 167837696 16 (some 0) .nil .nil) W (hk4.below hb); rw [hc4] at h; exact h)
  clear hk4 hpr4 hb4 hlo4 hpx4 x0 x1 y0 y1 hs3 hc3 hg3 hc4 hpA hpP
  go_upto_region 5 with fail
  have Hmn := hide (show AllMono [(fun v _ => v = .slice (some ⟨g, o, none⟩) 1 c7), (fun v _ => v = .int .i64 1), (fun v _ => v = .bool true), (fun v _ => v = .bool true), (fun v _ => v = .slice (some ⟨g, o, none⟩) 1 c7), (fun v _ => v = .pointer (some ⟨g, o, none⟩)), (fun v _ => v = .agg #[.int .u32 167772160, .int .i64 8]), (fun v _ => v = .agg #[.int .u32 167772160, .int .i64 8]), (fun v _ => v = .bool true), (fun v _ => v = .bool true), (fun v _ => v = .bool true), (fun v _ => v = .slice A8 0 c8), (fun v _ => v = .int .i64 0), (fun v _ => v = .bool true), (fun v _ => v = .bool true), (fun v _ => v = .bool true), (fun v _ => v = .pointer (some ⟨tb, 0, none⟩)), (fun v _ => v = .agg #[.int .u32 167772160, .int .i64 8]), (fun v _ => v = .int .i64 1), (fun v _ => v = .bool true), (fun v _ => v = .bool true), (fun v _ => v = .bool true), (fun v _ => v = .pointer (some ⟨tb, 0, none⟩)), (fun v _ => v = .int .i64 2), (fun v _ => v = .bool true), (fun v _ => v = .bool true), (fun v _ => v = .bool true)] from ⟨fun _ _ _ _ h => h, fun _ _ _ _ h => h, fun _ _ _ _ h => h, fun _ _ _ _ h => h, fun _ _ _ _ h => h, fun _ _ _ _ h => h, fun _ _ _ _ h => h, fun _ _ _ _ h => h, fun _ _ _ _ h => h, fun _ _ _ _ h => h, fun _ _ _ _ h => h, fun _ _ _ _ h => h, fun _ _ _ _ h => h, fun _ _ _ _ h => h, fun _ _ _ _ h => h, fun _ _ _ _ h => h, fun _ _ _ _ h => h, fun _ _ _ _ h => h, fun _ _ _ _ h => h, fun _ _ _ _ h => h, fun _ _ _ _ h => h, fun _ _ _ _ h => h, fun _ _ _ _ h => h, fun _ _ _ _ h => h, fun _ _ _ _ h => h, fun _ _ _ _ h => h, fun _ _ _ _ h => h, trivial⟩)
  refine wp_region_rel _ (by kernel_rfl) (by kernel_rfl) (relMono _ Hmn.out) ⟨?_, ?_, ?_, ?_, ?_, ?_, ?_, ?_, ?_, ?_, ?_, ?_, ?_, ?_, ?_, ?_, ?_, ?_, ?_, ?_, ?_, ?_, ?_, ?_, ?_, ?_, ?_, trivial⟩ ?_
  · refine relStep_plain rfl ?_
    intro Ac w5 hp
    have hb := hp.bel
    have a4 : Ac.eval (.tmp 4) = .slice (some ⟨g, o, none⟩) 1 c7 := hp.out 4 (by rfl)
    have hc := evalC Ac; have hf := evalF Ac; have hgl := evalG Ac
    obtain ⟨ρ, hρ⟩ : ∃ ρ, Ac.eval = ρ := ⟨_, rfl⟩
    rw [hρ] at a4 hc hf hgl
    exact relPure hρ (.slice (some ⟨g, o, none⟩) 1 c7) (by simp [go_sem, hc, hf, hgl, ↓IntWalk.iteOmega, a4, *]) rfl
  · refine relStep_plain rfl ?_
    intro Ac w5 hp
    have hb := hp.bel
    have a21 : Ac.eval (.tmp 21) = .slice (some ⟨g, o, none⟩) 1 c7 := hp.dep 0 (by kernel_rfl)
    have hc := evalC Ac; have hf := evalF Ac; have hgl := evalG Ac
    obtain ⟨ρ, hρ⟩ : ∃ ρ, Ac.eval = ρ := ⟨_, rfl⟩
    rw [hρ] at a21 hc hf hgl
    exact relPure hρ (.int .i64 1) (by simp [go_sem, hc, hf, hgl, ↓IntWalk.iteOmega, a21, *]) rfl
  · refine relStep_plain rfl ?_
    intro Ac w5 hp
    have hb := hp.bel
    have a22 : Ac.eval (.tmp 22) = .int .i64 1 := hp.dep 1 (by kernel_rfl)
    have hc := evalC Ac; have hf := evalF Ac; have hgl := evalG Ac
    obtain ⟨ρ, hρ⟩ : ∃ ρ, Ac.eval = ρ := ⟨_, rfl⟩
    rw [hρ] at a22 hc hf hgl
    exact relPure hρ (.bool true) (by simp [go_sem, hc, hf, hgl, ↓IntWalk.iteOmega, a22, *]) rfl
  · refine relStep_plain rfl ?_
    intro Ac w5 hp
    have hb := hp.bel
    have a23 : Ac.eval (.tmp 23) = .bool true := hp.dep 2 (by kernel_rfl)
    have hc := evalC Ac; have hf := evalF Ac; have hgl := evalG Ac
    obtain ⟨ρ, hρ⟩ : ∃ ρ, Ac.eval = ρ := ⟨_, rfl⟩
    rw [hρ] at a23 hc hf hgl
    exact relPure hρ (.bool true) (by simp [go_sem, hc, hf, hgl, ↓IntWalk.iteOmega, a23, *]) rfl
  · refine relStep_guard (g := 3) (b := true) (x := true) rfl (by kernel_rfl) rfl (by kernel_rfl) rfl (fun _ _ h => h) ?_
    intro Ac w5 hp
    have hb := hp.bel
    have a4 : Ac.eval (.tmp 4) = .slice (some ⟨g, o, none⟩) 1 c7 := hp.out 4 (by rfl)
    have hc := evalC Ac; have hf := evalF Ac; have hgl := evalG Ac
    obtain ⟨ρ, hρ⟩ : ∃ ρ, Ac.eval = ρ := ⟨_, rfl⟩
    rw [hρ] at a4 hc hf hgl
    exact relPure hρ (.slice (some ⟨g, o, none⟩) 1 c7) (by simp [go_sem, hc, hf, hgl, ↓IntWalk.iteOmega, a4, *]) rfl
  · refine relStep_guard (g := 3) (b := true) (x := true) rfl (by kernel_rfl) rfl (by kernel_rfl) rfl (fun _ _ h => h) ?_
    intro Ac w5 hp
    have hb := hp.bel
    have a25 : Ac.eval (.tmp 25) = .slice (some ⟨g, o, none⟩) 1 c7 := hp.dep 4 (by kernel_rfl)
    have hc := evalC Ac; have hf := evalF Ac; have hgl := evalG Ac
    obtain ⟨ρ, hρ⟩ : ∃ ρ, Ac.eval = ρ := ⟨_, rfl⟩
    rw [hρ] at a25 hc hf hgl
    exact relPure hρ (.pointer (some ⟨g, o, none⟩)) (by simp [go_sem, hc, hf, hgl, ↓IntWalk.iteOmega, a25, *]) rfl
  · refine relStep_guard (g := 3) (b := true) (x := true) rfl (by kernel_rfl) rfl (by kernel_rfl) rfl (fun _ _ h => h) ?_
    intro Ac w5 hp
    have hb := hp.bel
    have a26 : Ac.eval (.tmp 26) = .pointer (some ⟨g, o, none⟩) := hp.dep 5 (by kernel_rfl)
    have y0 : w5.cell? ⟨g, o, none⟩ = some (.int .u32 167772160) := (hb.cell hgl).trans HY0.out
    have y1 : w5.cell? ⟨g, o + 1, none⟩ = some (.int .i64 8) := (hb.cell hgl).trans HY1.out
    have hc := evalC Ac; have hf := evalF Ac; have hgl := evalG Ac
    obtain ⟨ρ, hρ⟩ : ∃ ρ, Ac.eval = ρ := ⟨_, rfl⟩
    rw [hρ] at a26 hc hf hgl
    exact relPure hρ (.agg #[.int .u32 167772160, .int .i64 8]) (by simp [go_sem, hc, hf, hgl, ↓IntWalk.iteOmega, a26, *]) rfl
  · refine relStep_guard (g := 3) (b := true) (x := true) rfl (by kernel_rfl) rfl (by kernel_rfl) rfl (fun _ _ h => h) ?_
    intro Ac w5 hp
    have hb := hp.bel
    have a1 : Ac.eval (.tmp 1) = .pointer (some ⟨w.heap.size, 0, none⟩) := hp.out 1 (by rfl)
    have hl5 := HA4.out.below hb HA4.out.lt
    have x0 : w5.cell? ⟨w.heap.size, 0, none⟩ = some (.int .u32 167772160) := hl5.cell 0
    have x1 : w5.cell? ⟨w.heap.size, 1, none⟩ = some (.int .i64 8) := hl5.cell 1
    have hc := evalC Ac; have hf := evalF Ac; have hgl := evalG Ac
    obtain ⟨ρ, hρ⟩ : ∃ ρ, Ac.eval = ρ := ⟨_, rfl⟩
    rw [hρ] at a1 hc hf hgl
    exact relPure hρ (.agg #[.int .u32 167772160, .int .i64 8]) (by simp [go_sem, hc, hf, hgl, ↓IntWalk.iteOmega, a1, *]) rfl
  · refine relStep_guard (g := 3) (b := true) (x := true) rfl (by kernel_rfl) rfl (by kernel_rfl) rfl (fun _ _ h => h) ?_
    intro Ac w5 hp
    have hb := hp.bel
    have a27 : Ac.eval (.tmp 27) = .agg #[.int .u32 167772160, .int .i64 8] := hp.dep 6 (by kernel_rfl)
    have a28 : Ac.eval (.tmp 28) = .agg #[.int .u32 167772160, .int .i64 8] := hp.dep 7 (by kernel_rfl)
    have hc := evalC Ac; have hf := evalF Ac; have hgl := evalG Ac
    obtain ⟨ρ, hρ⟩ : ∃ ρ, Ac.eval = ρ := ⟨_, rfl⟩
    rw [hρ] at a27 a28 hc hf hgl
    exact relPure hρ (.bool true) (by simp [go_sem, hc, hf, hgl, ↓IntWalk.iteOmega, a27, a28, *]) rfl
  · refine relStep_plain rfl ?_
    intro Ac w5 hp
    have hb := hp.bel
    have a24 : Ac.eval (.tmp 24) = .bool true := hp.dep 3 (by kernel_rfl)
    have a29 : Ac.eval (.tmp 29) = .bool true := hp.dep 8 (by kernel_rfl)
    have hc := evalC Ac; have hf := evalF Ac; have hgl := evalG Ac
    obtain ⟨ρ, hρ⟩ : ∃ ρ, Ac.eval = ρ := ⟨_, rfl⟩
    rw [hρ] at a24 a29 hc hf hgl
    exact relPure hρ (.bool true) (by simp [go_sem, hc, hf, hgl, ↓IntWalk.iteOmega, a24, a29, *]) rfl
  · refine relStep_plain rfl ?_
    intro Ac w5 hp
    have hb := hp.bel
    have a30 : Ac.eval (.tmp 30) = .bool true := hp.dep 9 (by kernel_rfl)
    have hc := evalC Ac; have hf := evalF Ac; have hgl := evalG Ac
    obtain ⟨ρ, hρ⟩ : ∃ ρ, Ac.eval = ρ := ⟨_, rfl⟩
    rw [hρ] at a30 hc hf hgl
    exact relPure hρ (.bool true) (by simp [go_sem, hc, hf, hgl, ↓IntWalk.iteOmega, a30, *]) rfl
  · refine relStep_guard (g := 10) (b := true) (x := true) rfl (by kernel_rfl) rfl (by kernel_rfl) rfl (fun _ _ h => h) ?_
    intro Ac w5 hp
    have hb := hp.bel
    have a5 : Ac.eval (.tmp 5) = .slice A8 0 c8 := hp.out 5 (by rfl)
    have hc := evalC Ac; have hf := evalF Ac; have hgl := evalG Ac
    obtain ⟨ρ, hρ⟩ : ∃ ρ, Ac.eval = ρ := ⟨_, rfl⟩
    rw [hρ] at a5 hc hf hgl
    exact relPure hρ (.slice A8 0 c8) (by simp [go_sem, hc, hf, hgl, ↓IntWalk.iteOmega, a5, *]) rfl
  · refine relStep_guard (g := 10) (b := true) (x := true) rfl (by kernel_rfl) rfl (by kernel_rfl) rfl (fun _ _ h => h) ?_
    intro Ac w5 hp
    have hb := hp.bel
    have a32 : Ac.eval (.tmp 32) = .slice A8 0 c8 := hp.dep 11 (by kernel_rfl)
    have hc := evalC Ac; have hf := evalF Ac; have hgl := evalG Ac
    obtain ⟨ρ, hρ⟩ : ∃ ρ, Ac.eval = ρ := ⟨_, rfl⟩
    rw [hρ] at a32 hc hf hgl
    exact relPure hρ (.int .i64 0) (by simp [go_sem, hc, hf, hgl, ↓IntWalk.iteOmega, a32, *]) rfl
  · refine relStep_guard (g := 10) (b := true) (x := true) rfl (by kernel_rfl) rfl (by kernel_rfl) rfl (fun _ _ h => h) ?_
    intro Ac w5 hp
    have hb := hp.bel
    have a33 : Ac.eval (.tmp 33) = .int .i64 0 := hp.dep 12 (by kernel_rfl)
    have hc := evalC Ac; have hf := evalF Ac; have hgl := evalG Ac
    obtain ⟨ρ, hρ⟩ : ∃ ρ, Ac.eval = ρ := ⟨_, rfl⟩
    rw [hρ] at a33 hc hf hgl
    exact relPure hρ (.bool true) (by simp [go_sem, hc, hf, hgl, ↓IntWalk.iteOmega, a33, *]) rfl
  · refine relStep_plain rfl ?_
    intro Ac w5 hp
    have hb := hp.bel
    have a31 : Ac.eval (.tmp 31) = .bool true := hp.dep 10 (by kernel_rfl)
    have a34 : Ac.eval (.tmp 34) = .bool true := hp.dep 13 (by kernel_rfl)
    have hc := evalC Ac; have hf := evalF Ac; have hgl := evalG Ac
    obtain ⟨ρ, hρ⟩ : ∃ ρ, Ac.eval = ρ := ⟨_, rfl⟩
    rw [hρ] at a31 a34 hc hf hgl
    exact relPure hρ (.bool true) (by simp [go_sem, hc, hf, hgl, ↓IntWalk.iteOmega, a31, a34, *]) rfl
  · refine relStep_plain rfl ?_
    intro Ac w5 hp
    have hb := hp.bel
    have a35 : Ac.eval (.tmp 35) = .bool true := hp.dep 14 (by kernel_rfl)
    have hc := evalC Ac; have hf := evalF Ac; have hgl := evalG Ac
    obtain ⟨ρ, hρ⟩ : ∃ ρ, Ac.eval = ρ := ⟨_, rfl⟩
    rw [hρ] at a35 hc hf hgl
    exact relPure hρ (.bool true) (by simp [go_sem, hc, hf, hgl, ↓IntWalk.iteOmega, a35, *]) rfl
  · refine relStep_guard (g := 15) (b := true) (x := true) rfl (by kernel_rfl) rfl (by kernel_rfl) rfl (fun _ _ h => h) ?_
    intro Ac w5 hp
    have hb := hp.bel
    have a3 : Ac.eval (.tmp 3) = .pointer (some ⟨tb, 0, none⟩) := hp.out 3 (by rfl)
    have hc := evalC Ac; have hf := evalF Ac; have hgl := evalG Ac
    obtain ⟨ρ, hρ⟩ : ∃ ρ, Ac.eval = ρ := ⟨_, rfl⟩
    rw [hρ] at a3 hc hf hgl
    exact relPure hρ (.pointer (some ⟨tb, 0, none⟩)) (by simp [go_sem, hc, hf, hgl, ↓IntWalk.iteOmega, a3, *]) rfl
  · refine relStep_guard (g := 15) (b := true) (x := true) rfl (by kernel_rfl) rfl (by kernel_rfl) rfl (fun _ _ h => h) ?_
    intro Ac w5 hp
    have hb := hp.bel
    have a1 : Ac.eval (.tmp 1) = .pointer (some ⟨w.heap.size, 0, none⟩) := hp.out 1 (by rfl)
    have hl5 := HA4.out.below hb HA4.out.lt
    have x0 : w5.cell? ⟨w.heap.size, 0, none⟩ = some (.int .u32 167772160) := hl5.cell 0
    have x1 : w5.cell? ⟨w.heap.size, 1, none⟩ = some (.int .i64 8) := hl5.cell 1
    have hc := evalC Ac; have hf := evalF Ac; have hgl := evalG Ac
    obtain ⟨ρ, hρ⟩ : ∃ ρ, Ac.eval = ρ := ⟨_, rfl⟩
    rw [hρ] at a1 hc hf hgl
    exact relPure hρ (.agg #[.int .u32 167772160, .int .i64 8]) (by simp [go_sem, hc, hf, hgl, ↓IntWalk.iteOmega, a1, *]) rfl
  · refine relStep_guard (g := 15) (b := true) (x := true) rfl (by kernel_rfl) rfl (by kernel_rfl) rfl (fun _ _ h => h) ?_
    intro Ac w5 hp
    have hb := hp.bel
    have a37 : Ac.eval (.tmp 37) = .pointer (some ⟨tb, 0, none⟩) := hp.dep 16 (by kernel_rfl)
    have a38 : Ac.eval (.tmp 38) = .agg #[.int .u32 167772160, .int .i64 8] := hp.dep 17 (by kernel_rfl)
    have hc := evalC Ac; have hf := evalF Ac; have hgl := evalG Ac
    obtain ⟨ρ, hρ⟩ : ∃ ρ, Ac.eval = ρ := ⟨_, rfl⟩
    rw [hρ] at a37 a38 hc hf hgl
    refine relCall hρ 59 #[.pointer (some ⟨tb, 0, none⟩), .agg #[.int .u32 167772160, .int .i64 8]] (by simp [go_sem, hc, hf, hgl, ↓IntWalk.iteOmega, a37, a38, *]) ?_
    refine (HCn.out w5 hb).mono ?_
    rintro e w6 ⟨rfl, hb6⟩
    exact ⟨_, rfl, rfl, hb6⟩
  · refine relStep_guard (g := 15) (b := true) (x := true) rfl (by kernel_rfl) rfl (by kernel_rfl) rfl (fun _ _ h => h) ?_
    intro Ac w5 hp
    have hb := hp.bel
    have a39 : Ac.eval (.tmp 39) = .int .i64 1 := hp.dep 18 (by kernel_rfl)
    have hc := evalC Ac; have hf := evalF Ac; have hgl := evalG Ac
    obtain ⟨ρ, hρ⟩ : ∃ ρ, Ac.eval = ρ := ⟨_, rfl⟩
    rw [hρ] at a39 hc hf hgl
    exact relPure hρ (.bool true) (by simp [go_sem, hc, hf, hgl, ↓IntWalk.iteOmega, a39, *]) rfl
  · refine relStep_plain rfl ?_
    intro Ac w5 hp
    have hb := hp.bel
    have a36 : Ac.eval (.tmp 36) = .bool true := hp.dep 15 (by kernel_rfl)
    have a40 : Ac.eval (.tmp 40) = .bool true := hp.dep 19 (by kernel_rfl)
    have hc := evalC Ac; have hf := evalF Ac; have hgl := evalG Ac
    obtain ⟨ρ, hρ⟩ : ∃ ρ, Ac.eval = ρ := ⟨_, rfl⟩
    rw [hρ] at a36 a40 hc hf hgl
    exact relPure hρ (.bool true) (by simp [go_sem, hc, hf, hgl, ↓IntWalk.iteOmega, a36, a40, *]) rfl
  · refine relStep_plain rfl ?_
    intro Ac w5 hp
    have hb := hp.bel
    have a41 : Ac.eval (.tmp 41) = .bool true := hp.dep 20 (by kernel_rfl)
    have hc := evalC Ac; have hf := evalF Ac; have hgl := evalG Ac
    obtain ⟨ρ, hρ⟩ : ∃ ρ, Ac.eval = ρ := ⟨_, rfl⟩
    rw [hρ] at a41 hc hf hgl
    exact relPure hρ (.bool true) (by simp [go_sem, hc, hf, hgl, ↓IntWalk.iteOmega, a41, *]) rfl
  · refine relStep_guard (g := 21) (b := true) (x := true) rfl (by kernel_rfl) rfl (by kernel_rfl) rfl (fun _ _ h => h) ?_
    intro Ac w5 hp
    have hb := hp.bel
    have a3 : Ac.eval (.tmp 3) = .pointer (some ⟨tb, 0, none⟩) := hp.out 3 (by rfl)
    have hc := evalC Ac; have hf := evalF Ac; have hgl := evalG Ac
    obtain ⟨ρ, hρ⟩ : ∃ ρ, Ac.eval = ρ := ⟨_, rfl⟩
    rw [hρ] at a3 hc hf hgl
    exact relPure hρ (.pointer (some ⟨tb, 0, none⟩)) (by simp [go_sem, hc, hf, hgl, ↓IntWalk.iteOmega, a3, *]) rfl
  · refine relStep_guard (g := 21) (b := true) (x := true) rfl (by kernel_rfl) rfl (by kernel_rfl) rfl (fun _ _ h => h) ?_
    intro Ac w5 hp
    have hb := hp.bel
    have a43 : Ac.eval (.tmp 43) = .pointer (some ⟨tb, 0, none⟩) := hp.dep 22 (by kernel_rfl)
    have hc := evalC Ac; have hf := evalF Ac; have hgl := evalG Ac
    obtain ⟨ρ, hρ⟩ : ∃ ρ, Ac.eval = ρ := ⟨_, rfl⟩
    rw [hρ] at a43 hc hf hgl
    refine relCall hρ 55 #[.pointer (some ⟨tb, 0, none⟩)] (by simp [go_sem, hc, hf, hgl, ↓IntWalk.iteOmega, a43, *]) ?_
    refine (HLn.out w5 hb).mono ?_
    rintro e w6 ⟨rfl, rfl⟩
    exact ⟨_, rfl, rfl, Below.refl _ _⟩
  · refine relStep_guard (g := 21) (b := true) (x := true) rfl (by kernel_rfl) rfl (by kernel_rfl) rfl (fun _ _ h => h) ?_
    intro Ac w5 hp
    have hb := hp.bel
    have a44 : Ac.eval (.tmp 44) = .int .i64 2 := hp.dep 23 (by kernel_rfl)
    have hc := evalC Ac; have hf := evalF Ac; have hgl := evalG Ac
    obtain ⟨ρ, hρ⟩ : ∃ ρ, Ac.eval = ρ := ⟨_, rfl⟩
    rw [hρ] at a44 hc hf hgl
    exact relPure hρ (.bool true) (by simp [go_sem, hc, hf, hgl, ↓IntWalk.iteOmega, a44, *]) rfl
  · refine relStep_plain rfl ?_
    intro Ac w5 hp
    have hb := hp.bel
    have a42 : Ac.eval (.tmp 42) = .bool true := hp.dep 21 (by kernel_rfl)
    have a45 : Ac.eval (.tmp 45) = .bool true := hp.dep 24 (by kernel_rfl)
    have hc := evalC Ac; have hf := evalF Ac; have hgl := evalG Ac
    obtain ⟨ρ, hρ⟩ : ∃ ρ, Ac.eval = ρ := ⟨_, rfl⟩
    rw [hρ] at a42 a45 hc hf hgl
    exact relPure hρ (.bool true) (by simp [go_sem, hc, hf, hgl, ↓IntWalk.iteOmega, a42, a45, *]) rfl
  · refine relStep_plain rfl ?_
    intro Ac w5 hp
    have hb := hp.bel
    have a46 : Ac.eval (.tmp 46) = .bool true := hp.dep 25 (by kernel_rfl)
    have hc := evalC Ac; have hf := evalF Ac; have hgl := evalG Ac
    obtain ⟨ρ, hρ⟩ : ∃ ρ, Ac.eval = ρ := ⟨_, rfl⟩
    rw [hρ] at a46 hc hf hgl
    exact relPure hρ (.bool true) (by simp [go_sem, hc, hf, hgl, ↓IntWalk.iteOmega, a46, *]) rfl
  intro u w9 hb7 hall
  have e0 : u 26 = .bool true := relAll_at hall (i := 26) (by decide +kernel)
  clear hall
  simp only [List.drop_succ_cons, List.drop_zero, List.take_succ_cons, List.take_zero, putAll, Act.put, List.setIfInBounds_toArray, List.set_cons_zero, List.set_cons_succ, Nat.zero_add, Nat.reduceAdd, e0]
  have HB9 := hide (HB4.out.trans (hb7.mono HB4.out.size))
  clear hb7
  go_wp2
  go_ret
  exact ⟨rfl, HB9.out⟩
set_option maxRecDepth 100000 in
set_option maxHeartbeats 8000000 in
theorem contribNone_any (r : RT) (w : World) (hr : RtR w r) : Calls Tryz.prog 8 #[.agg (rtV r)] w (GoodP true w) := by
  obtain ⟨w1, hw1⟩ : ∃ w1, w.alloc (.cells (rtV r) 30) = w1 := ⟨_, rfl⟩
  have hb1 : Below w.heap.size w w1 := hw1 ▸ blkBelow1 w _
  have HX1 : Hid (Blk w1 w.heap.size 30 (rtV r)) := hide (hw1 ▸ Blk.new w _ _)
  have HOn := hide (lawOne_any r w1 ⟨hr.1.below sgMono hb1, hr.2.below hb1⟩)
  have HB1 := hide hb1
  have HW1 := hide hw1
  clear hw1 hb1 hr
  obtain ⟨k0, k1, k2, k3, k4, k5, k6, k7, k8, k9, k10, k11, k12, k13, k14, k15⟩ := blk16 HX1.out
  go_enter Tryz.func8, Tryz.ntmps8
  go_wp2_with fail
  rw [HW1.out]
  refine HOn.out.mono ?_
  rintro e w2 ⟨A2, n2, c2, B2, m2, d2, rfl, _, hb2⟩
  have HB2 := hide (HB1.out.trans (hb2.mono HB1.out.size))
  have HX2 := hide (HX1.out.below hb2 HX1.out.lt)
  clear hb2 k0 k1 k2 k3 k4 k5 k6 k7 k8 k9 k10 k11 k12 k13 k14 k15
  go_wp2_with fail
  refine (tputNil (cutRT r A2 n2 c2 B2 m2 d2) _).mono ?_
  rintro e w3 ⟨rfl, hb3⟩
  have HB3 := hide (HB2.out.trans (hb3.mono HB2.out.size))
  have HX3 := hide (HX2.out.below hb3 HX2.out.lt)
  clear hb3
  obtain ⟨k0, k1, k2, k3, k4, k5, k6, k7, k8, k9, k10, k11, k12, k13, k14, k15⟩ := blk16 HX3.out
  go_wp2_with fail
  refine (tcutNil r.pa r.pl _).mono ?_
  rintro e w4 ⟨rfl, hb4⟩
  have HB4 := hide (HB3.out.trans (hb4.mono HB3.out.size))
  have HX4 := hide (HX3.out.below hb4 HX3.out.lt)
  clear hb4 k0 k1 k2 k3 k4 k5 k6 k7 k8 k9 k10 k11 k12 k13 k14 k15
  obtain ⟨k0, k1, k2, k3, k4, k5, k6, k7, k8, k9, k10, k11, k12, k13, k14, k15⟩ := blk16 HX4.out
  go_wp2_with fail
  refine (tofsNil r.pa r.pl _).mono ?_
  rintro e w5 ⟨rfl, hb5⟩
  have HB5 := hide (HB4.out.trans (hb5.mono HB4.out.size))
  have HX5 := hide (HX4.out.below hb5 HX4.out.lt)
  clear hb5 k0 k1 k2 k3 k4 k5 k6 k7 k8 k9 k10 k11 k12 k13 k14 k15
  obtain ⟨k0, k1, k2, k3, k4, k5, k6, k7, k8, k9, k10, k11, k12, k13, k14, k15⟩ := blk16 HX5.out
  go_wp2_with fail
  refine (taggsNil r.pa r.pl _).mono ?_
  rintro e w6 ⟨rfl, hb6⟩
  have HB6 := hide (HB5.out.trans (hb6.mono HB5.out.size))
  have HX6 := hide (HX5.out.below hb6 HX5.out.lt)
  clear hb6 k0 k1 k2 k3 k4 k5 k6 k7 k8 k9 k10 k11 k12 k13 k14 k15
  obtain ⟨k0, k1, k2, k3, k4, k5, k6, k7, k8, k9, k10, k11, k12, k13, k14, k15⟩ := blk16 HX6.out
  go_wp2_with fail
  refine (tactiveNil _).mono ?_
  rintro e w7 ⟨rfl, hw7⟩
  have hb7 : Below w6.heap.size w6 w7 := hw7 ▸ Below.refl _ _
  clear hw7
  have HB7 := hide (HB6.out.trans (hb7.mono HB6.out.size))
  have HX7 := hide (HX6.out.below hb7 HX6.out.lt)
  clear hb7 k0 k1 k2 k3 k4 k5 k6 k7 k8 k9 k10 k11 k12 k13 k14 k15
  obtain ⟨k0, k1, k2, k3, k4, k5, k6, k7, k8, k9, k10, k11, k12, k13, k14, k15⟩ := blk16 HX7.out
  go_wp2_with fail
  refine (tcountNil r.pa r.pl _).mono ?_
  rintro e w8 ⟨rfl, hb8⟩
  have HB8 := hide (HB7.out.trans (hb8.mono HB7.out.size))
  have HX8 := hide (HX7.out.below hb8 HX7.out.lt)
  clear hb8 k0 k1 k2 k3 k4 k5 k6 k7 k8 k9 k10 k11 k12 k13 k14 k15
  obtain ⟨k0, k1, k2, k3, k4, k5, k6, k7, k8, k9, k10, k11, k12, k13, k14, k15⟩ := blk16 HX8.out
  go_wp2_with fail
  refine (tlenNil _).mono ?_
  rintro e w9 ⟨rfl, hw9⟩
  have hb9 : Below w8.heap.size w8 w9 := hw9 ▸ Below.refl _ _
  clear hw9
  have HB9 := hide (HB8.out.trans (hb9.mono HB8.out.size))
  have HX9 := hide (HX8.out.below hb9 HX8.out.lt)
  clear hb9 k0 k1 k2 k3 k4 k5 k6 k7 k8 k9 k10 k11 k12 k13 k14 k15
  go_wp2_with fail
  refine (lives30_any _).mono ?_
  rintro e w10 ⟨rfl, hb10⟩
  have HB10 := hide (HB9.out.trans (hb10.mono HB9.out.size))
  have HX10 := hide (HX9.out.below hb10 HX9.out.lt)
  clear hb10
  go_wp2
  go_ret
  exact ⟨rfl, HB10.out⟩
end Go.Proofs.YtcinjckajnnhmaaGreat
set_option linter.unusedSimpArgs false
set_option linter.unusedVariables false
namespace Go.Proofs.YtcinjckajnnhmaaGreat
open Go.RowKit Go.WideShapes Go.ChangeShapes
attribute [local go_sem] Oper.semAt_some
abbrev rtL (r : RT) : List Value := [.int .u32 r.pa, .int .i64 r.pl, .int .i64 r.at_.has, .int .i64 r.at_.org, .slice r.A r.n r.c, .int .u32 r.at_.hop, .int .u32 r.at_.med, .int .u32 r.at_.pref, .int .u32 r.at_.aas, .int .u32 r.at_.aid, .slice r.B r.m r.d, .int .u32 r.rp, .int .u32 r.ra, .int .u32 r.ri, .bool r.inn, .bool r.loc]
abbrev atL (h o : Int) (A : Option Addr) (n c : Nat) (hp md pf aa ai : Int) (B : Option Addr) (m d : Nat) : List Value := [.int .i64 h, .int .i64 o, .slice A n c, .int .u32 hp, .int .u32 md, .int .u32 pf, .int .u32 aa, .int .u32 ai, .slice B m d]
end Go.Proofs.YtcinjckajnnhmaaGreat
set_option linter.unusedSimpArgs false
set_option linter.unusedVariables false
namespace Go.Proofs.YtcinjckajnnhmaaGreat
open Go.RowKit Go.WideShapes Go.ChangeShapes
set_option maxRecDepth 100000 in
theorem u32s_opens {H : Type} {enc : TypeId × Value → H} {W : World} {f : Nat} {v : Value} {x : DataW H × List MemPlace} (h : DataW.trod enc Tryz.prog W 0 (fun _ => true) true f 26 [v] = some x) :
    ∃ A n c l, v = .slice A n c ∧ U32s W A n c l := by
  have h1' : ∃ A n c, v = .slice A n c := by
    rcases DataW.trod_slice Tryz.underlying26 h with ⟨e, _⟩ | ⟨a, len, cap, elems, rest, n, _, e, _⟩
    · exact ⟨none, 0, 0, by simpa using e⟩
    · exact ⟨some a, len, cap, by simpa using e⟩
  obtain ⟨A, m, c, rfl⟩ := h1'
  obtain ⟨l, hl⟩ := u32s_open (A := A) (n := m) (c := c) ⟨f, by simpa [Value.cells] using h⟩
  exact ⟨A, m, c, l, rfl, hl⟩
set_option maxRecDepth 100000 in
theorem segs_open {H : Type} {enc : TypeId × Value → H} {W : World} {A : Option Addr} {n c : Nat} {d : DataW H} {p : List MemPlace}
    (h : DataW.Trod enc Tryz.prog W 0 (fun _ => true) true 25 (.slice A n c) d p) : ∃ l : List SG, LstAt 2 sgR W A n c l := by
  obtain ⟨fuel, hf⟩ := h
  obtain ⟨A', n', c', l, e, hl⟩ := lst_open (R := sgR) (sz := 2) Tryz.underlying25 (by kernel_rfl) (by decide) (fun f cs x hx => by
    obtain ⟨z0, z1, n, _, hl, g0, g1⟩ := trod_struct2 Tryz.underlying133 hx
    have c2 : Tryz.prog.cellsOf 133 = 2 := by kernel_rfl
    have ci : Tryz.prog.cellsOf 3 = 1 := by kernel_rfl
    have cs1 : Tryz.prog.cellsOf 26 = 1 := by kernel_rfl
    rw [c2] at hl
    match cs, hl with
    | [v0, v1], _ =>
      simp only [ci, cs1, List.drop_zero, List.drop_succ_cons, List.take_succ_cons, List.take_zero] at g0 g1
      obtain ⟨k, e0, _⟩ := DataW.trod_int Tryz.underlying3 g0
      obtain ⟨A, m, c, l, rfl, hl⟩ := u32s_opens g1
      simp only [List.cons.injEq, and_true] at e0
      subst e0
      exact ⟨⟨k, l⟩, A, m, c, rfl, hl⟩) hf
  obtain ⟨rfl, rfl, rfl⟩ : A = A' ∧ n = n' ∧ c = c' := by simpa [Value.cells] using e
  exact ⟨l, hl⟩
end Go.Proofs.YtcinjckajnnhmaaGreat
set_option linter.unusedSimpArgs false
set_option linter.unusedVariables false
namespace Go.Proofs.YtcinjckajnnhmaaGreat
open Go.RowKit Go.WideShapes Go.ChangeShapes Go.ChangeAt
theorem segs_opens {H : Type} {enc : TypeId × Value → H} {W : World} {f : Nat} {v : Value} {x : DataW H × List MemPlace} (h : DataW.trod enc Tryz.prog W 0 (fun _ => true) true f 25 [v] = some x) :
    ∃ A n c l, v = .slice A n c ∧ LstAt 2 sgR W A n c l := by
  have h1' : ∃ A n c, v = .slice A n c := by
    rcases DataW.trod_slice Tryz.underlying25 h with ⟨e, _⟩ | ⟨a, len, cap, elems, rest, n, _, e, _⟩
    · exact ⟨none, 0, 0, by simpa using e⟩
    · exact ⟨some a, len, cap, by simpa using e⟩
  obtain ⟨A, m, c, rfl⟩ := h1'
  obtain ⟨l, hl⟩ := segs_open (A := A) (n := m) (c := c) ⟨f, by simpa [Value.cells] using h⟩
  exact ⟨A, m, c, l, rfl, hl⟩
set_option maxRecDepth 100000 in
set_option maxHeartbeats 4000000 in
theorem at_opens {H : Type} {enc : TypeId × Value → H} {W : World} {f : Nat} {cs : List Value} {x : DataW H × List MemPlace} (h : DataW.trod enc Tryz.prog W 0 (fun _ => true) true f 28 cs = some x) : ∃ (X : AT) (A : Option Addr) (n c : Nat) (B : Option Addr) (m d : Nat), cs = atL X.has X.org A n c X.hop X.med X.pref X.aas X.aid B m d ∧ LstAt 2 sgR W A n c X.path ∧ U32s W B m d X.comms := by
  obtain ⟨xs, f2, _, rfl, hl, hlen, hf⟩ := DataW.trod_struct Tryz.underlying28 h
  have c9 : Tryz.prog.cellsOf 28 = 9 := by kernel_rfl
  rw [c9] at hl
  match xs, hlen with
  | [y0, y1, y2, y3, y4, y5, y6, y7, y8], _ =>
  match cs, hl with
  | [v0, v1, v2, v3, v4, v5, v6, v7, v8], _ =>
    have h0 : DataW.trod enc Tryz.prog W 0 (fun _ => true) true f2 3 [v0] = some y0 := hf 0 _ rfl
    have h1 : DataW.trod enc Tryz.prog W 0 (fun _ => true) true f2 3 [v1] = some y1 := hf 1 _ rfl
    have h2 : DataW.trod enc Tryz.prog W 0 (fun _ => true) true f2 25 [v2] = some y2 := hf 2 _ rfl
    have h3 : DataW.trod enc Tryz.prog W 0 (fun _ => true) true f2 22 [v3] = some y3 := hf 3 _ rfl
    have h4 : DataW.trod enc Tryz.prog W 0 (fun _ => true) true f2 22 [v4] = some y4 := hf 4 _ rfl
    have h5 : DataW.trod enc Tryz.prog W 0 (fun _ => true) true f2 22 [v5] = some y5 := hf 5 _ rfl
    have h6 : DataW.trod enc Tryz.prog W 0 (fun _ => true) true f2 22 [v6] = some y6 := hf 6 _ rfl
    have h7 : DataW.trod enc Tryz.prog W 0 (fun _ => true) true f2 22 [v7] = some y7 := hf 7 _ rfl
    have h8 : DataW.trod enc Tryz.prog W 0 (fun _ => true) true f2 26 [v8] = some y8 := hf 8 _ rfl
    clear hf
    obtain ⟨q0, e0, _, j0⟩ := DataW.trod_int Tryz.underlying3 h0
    obtain ⟨q1, e1, _, j1⟩ := DataW.trod_int Tryz.underlying3 h1
    obtain ⟨A, n, c, pl, rfl, hP⟩ := segs_opens h2
    obtain ⟨q3, e3, _, j3⟩ := DataW.trod_int Tryz.underlying22 h3
    obtain ⟨q4, e4, _, j4⟩ := DataW.trod_int Tryz.underlying22 h4
    obtain ⟨q5, e5, _, j5⟩ := DataW.trod_int Tryz.underlying22 h5
    obtain ⟨q6, e6, _, j6⟩ := DataW.trod_int Tryz.underlying22 h6
    obtain ⟨q7, e7, _, j7⟩ := DataW.trod_int Tryz.underlying22 h7
    obtain ⟨B, m, d, cl, rfl, hC⟩ := u32s_opens h8
    simp only [List.cons.injEq, and_true] at e0 e1 e3 e4 e5 e6 e7
    subst e0 e1 e3 e4 e5 e6 e7
    exact ⟨⟨q0, q1, pl, q3, q4, q5, q6, q7, cl⟩, A, n, c, B, m, d, rfl, hP, hC⟩
set_option maxRecDepth 100000 in
set_option maxHeartbeats 4000000 in
theorem pf_opens {H : Type} {enc : TypeId × Value → H} {W : World} {f : Nat} {cs : List Value} {x : DataW H × List MemPlace} (h : DataW.trod enc Tryz.prog W 0 (fun _ => true) true f 24 cs = some x) : ∃ a b : Int, cs = [.int .u32 a, .int .i64 b] := by
  obtain ⟨xs, f2, _, rfl, hl, hlen, hf⟩ := DataW.trod_struct Tryz.underlying24 h
  have c9 : Tryz.prog.cellsOf 24 = 2 := by kernel_rfl
  rw [c9] at hl
  match xs, hlen with
  | [y0, y1], _ =>
  match cs, hl with
  | [v0, v1], _ =>
    have h0 : DataW.trod enc Tryz.prog W 0 (fun _ => true) true f2 22 [v0] = some y0 := hf 0 _ rfl
    have h1 : DataW.trod enc Tryz.prog W 0 (fun _ => true) true f2 3 [v1] = some y1 := hf 1 _ rfl
    clear hf
    obtain ⟨q0, e0, _, j0⟩ := DataW.trod_int Tryz.underlying22 h0
    obtain ⟨q1, e1, _, j1⟩ := DataW.trod_int Tryz.underlying3 h1
    simp only [List.cons.injEq, and_true] at e0 e1
    subst e0 e1
    exact ⟨q0, q1, rfl⟩
set_option maxRecDepth 100000 in
set_option maxHeartbeats 4000000 in
theorem rt_opens {H : Type} {enc : TypeId × Value → H} {W : World} {f : Nat} {cs : List Value} {x : DataW H × List MemPlace} (h : DataW.trod enc Tryz.prog W 0 (fun _ => true) true f 30 cs = some x) : ∃ r : RT, cs = rtL r ∧ RtR W r := by
  obtain ⟨xs, f2, _, rfl, hl, hlen, hf⟩ := DataW.trod_struct Tryz.underlying30 h
  have c9 : Tryz.prog.cellsOf 30 = 16 := by kernel_rfl
  have cP : Tryz.prog.cellsOf 24 = 2 := by kernel_rfl
  have cA : Tryz.prog.cellsOf 28 = 9 := by kernel_rfl
  rw [c9] at hl
  match xs, hlen with
  | [y0, y1, y2, y3, y4, y5, y6], _ =>
  match cs, hl with
  | [v0, v1, v2, v3, v4, v5, v6, v7, v8, v9, v10, v11, v12, v13, v14, v15], _ =>
    have h0 : DataW.trod enc Tryz.prog W 0 (fun _ => true) true f2 24 [v0, v1] = some y0 := hf 0 _ rfl
    have h1 : DataW.trod enc Tryz.prog W 0 (fun _ => true) true f2 28 [v2, v3, v4, v5, v6, v7, v8, v9, v10] = some y1 := hf 1 _ rfl
    have h2 : DataW.trod enc Tryz.prog W 0 (fun _ => true) true f2 22 [v11] = some y2 := hf 2 _ rfl
    have h3 : DataW.trod enc Tryz.prog W 0 (fun _ => true) true f2 22 [v12] = some y3 := hf 3 _ rfl
    have h4 : DataW.trod enc Tryz.prog W 0 (fun _ => true) true f2 22 [v13] = some y4 := hf 4 _ rfl
    have h5 : DataW.trod enc Tryz.prog W 0 (fun _ => true) true f2 4 [v14] = some y5 := hf 5 _ rfl
    have h6 : DataW.trod enc Tryz.prog W 0 (fun _ => true) true f2 4 [v15] = some y6 := hf 6 _ rfl
    clear hf
    obtain ⟨q2, e2, _, j2⟩ := DataW.trod_int Tryz.underlying22 h2
    obtain ⟨q3, e3, _, j3⟩ := DataW.trod_int Tryz.underlying22 h3
    obtain ⟨q4, e4, _, j4⟩ := DataW.trod_int Tryz.underlying22 h4
    obtain ⟨q5, e5, _⟩ := DataW.trod_bool Tryz.underlying4 h5
    obtain ⟨q6, e6, _⟩ := DataW.trod_bool Tryz.underlying4 h6
    simp only [List.cons.injEq, and_true] at e2 e3 e4 e5 e6
    subst e2 e3 e4 e5 e6
    obtain ⟨pa, pl, ep⟩ := pf_opens h0
    obtain ⟨X, A, n, c, B, m, d, ea, hP, hC⟩ := at_opens h1
    simp only [List.cons.injEq, and_true] at ep ea
    obtain ⟨rfl, rfl⟩ := ep
    obtain ⟨rfl, rfl, rfl, rfl, rfl, rfl, rfl, rfl, rfl⟩ := ea
    exact ⟨⟨pa, pl, X, A, n, c, B, m, d, q2, q3, q4, q5, q6⟩, rfl, hP, hC⟩
set_option maxRecDepth 100000 in
theorem rt_open {H : Type} {enc : TypeId × Value → H} {W : World} {r0 : Reach} {b0 : Nat} {v : Value} {d0 : DataW H} {p0 : List MemPlace} (hv : Value.okWide Tryz.prog W r0 b0 30 v)
    (h : DataW.Trod enc Tryz.prog W 0 (fun _ => true) true 30 v d0 p0) : ∃ r, v = .agg (rtV r) ∧ RtR W r := by
  obtain ⟨cs, rfl, hsz⟩ := okWide_struct Tryz.underlying30 hv
  obtain ⟨fuel, hf⟩ := h
  obtain ⟨r, e, hr⟩ := rt_opens hf
  have e3 : cs = (rtL r).toArray := by
    have e2 : cs.toList = _ := e
    rw [← e2]
  exact ⟨r, by rw [e3], hr⟩
end Go.Proofs.YtcinjckajnnhmaaGreat
