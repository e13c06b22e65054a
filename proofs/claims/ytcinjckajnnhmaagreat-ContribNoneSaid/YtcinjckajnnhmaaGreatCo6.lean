import Derived.Test.YtcinjckajnnhmaaGreatCo5
import Derived.WalkKit
import Derived.ProofKit
import Derived.OpenShut
import Derived.Below
import Derived.Laws.OwnMore
import Derived.Laws.Rows
import Derived.Laws.MakeOwn
import Derived.Deep.AppendLies
import Derived.Deep.Draws
import Derived.Deep.OwnRows
import Derived.Deep.QuietTactic
import Derived.Maps.AppendAt
import Derived.RegionTactic
import Derived.OwnWalk
import Derived.ChangeSame
import Derived.Outline
import Derived.BigQuiet
import Derived.WalkMore
import Derived.ScopeJumps
import Derived.WalkLawsBesides
import Derived.WalkSpells
import Derived.Laws.BitsLemmas
import Derived.Laws.BitsAllLaws
import Derived.WideKeyArgs
import Derived.Deep.DeepHandedRow
import Derived.Deep.DeepWitnessRowRef
import Derived.Lib.LaidTab
import Derived.Lib.AppendIntMem
import Derived.LaidMore
import Derived.MakeChecks
import Derived.Lib.Itoa
import Derived.Lib.ItoaMem
import Derived.Deep.Quiet
import Derived.Deep.Slices
import Derived.BigRegion
import Derived.Orders
import Derived.OrdersIn
import Derived.RangeFuncCalls
import Derived.Shelf.RegionOpen
import Derived.StillTailTactics
import Derived.Lib.PathFns
import Derived.Lib.IndexBytes
import Derived.RangeFuncWrites
import Derived.RangeFuncNested
import Derived.RangeFuncBound
import Derived.RangeFuncLeaves
import Derived.RangeFuncBox
import Derived.Shelf.Abstract
import Derived.OwnWalkIn
import Derived.TacticsInMore
import Derived.LoopNIn
import Derived.LoopIn
import Derived.Lib.SmallJoins
import Derived.Lib.ParseIntBCases
import Derived.Lib.IndexMore
import Derived.Shelf.Vars
import Derived.Lib.AtoiAllCases
import Derived.SliceStrings
import Derived.Deep.RegionLaw
import Derived.Sort.LotA
import Derived.BigRegionIn
import Derived.Deep.RegionHeld3
import Derived.RangeFuncOwn
import Derived.Sort.WalkA6
import Derived.Sort.WalkB3
import Derived.Sort.WalkC4
import Derived.Sort.WalkA14
import Derived.Sort.Walk11
import Derived.Sort.Walk7
import Derived.Sort.Walk13
import Derived.Sort.Row
import Derived.Lib.Walk
import Derived.Lib.Strings
import Derived.BigGuard
import Derived.BigCall
import Derived.CellFam
import Derived.Deep.LoopGhost
import Derived.Sort.LotC
import Derived.Deep.RegionWith
import Derived.RowKit
import Derived.Sort.LotD3
import Derived.Sort.LotD4
import Derived.Sort.Grow
import Derived.Sort.AtCall
import Derived.Sort.LotD5
import Derived.Laws.Bits64
import Derived.Laws.Bits64b
import Derived.Sort.EncStr
import Derived.Sort.LotD1
import Derived.Sort.LotB
import Derived.Deep.Cut
import Derived.Sort.Walk13a
import Derived.Sort.AssemblyPlain
import Derived.Shelf.Spec.SlicesInsertGrow
import Derived.Deep.MidRow
import Derived.Lib.RowBridge
import Derived.Laws.CopyOwn
import Derived.Lib.AppendZerosOnto
import Derived.Deep.DeepCutAuto
import Derived.Lib.Bytealg
import Derived.Shelf.Strings.SplitShaped
import Derived.Shelf.Strings.Prefix
import Derived.Shelf.Small.Strs
import Derived.Lib.QuietBelow
import Derived.Shelf.SlSortCmp.WholeK
set_option linter.unusedSimpArgs false
set_option linter.unusedVariables false
namespace Go.Proofs.YtcinjckajnnhmaaGreat
open Go.RowKit Go.WideShapes Go.ChangeShapes
attribute [local go_sem] Oper.semAt_some
set_option maxRecDepth 100000 in
theorem clonePList_nil (w : World) : Calls Tryz.prog 120 #[.slice none 0 0] w fun e w' => e = .returned (.slice none 0 0) ∧ w' = w := by
  have hnil := fun w => Lib.run_eql_slice_nil (P := Tryz.prog) w
  go_enter Tryz.func120, Tryz.ntmps120
  go_wp2
  go_ret
  exact ⟨rfl, rfl⟩
set_option maxRecDepth 100000 in
theorem cloneAList_nil (w : World) : Calls Tryz.prog 121 #[.slice none 0 0] w fun e w' => e = .returned (.slice none 0 0) ∧ w' = w := by
  have hnil := fun w => Lib.run_eql_slice_nil (P := Tryz.prog) w
  go_enter Tryz.func121, Tryz.ntmps121
  go_wp2
  go_ret
  exact ⟨rfl, rfl⟩
set_option maxRecDepth 100000 in
theorem cloneCList_nil (w : World) : Calls Tryz.prog 122 #[.slice none 0 0] w fun e w' => e = .returned (.slice none 0 0) ∧ w' = w := by
  have hnil := fun w => Lib.run_eql_slice_nil (P := Tryz.prog) w
  go_enter Tryz.func122, Tryz.ntmps122
  go_wp2
  go_ret
  exact ⟨rfl, rfl⟩
set_option maxRecDepth 100000 in
theorem cloneRMap_nil (w : World) : Calls Tryz.prog 123 #[.slice none 0 0] w fun e w' => e = .returned (.slice none 0 0) ∧ w' = w := by
  have hnil := fun w => Lib.run_eql_slice_nil (P := Tryz.prog) w
  go_enter Tryz.func123, Tryz.ntmps123
  go_wp2
  go_ret
  exact ⟨rfl, rfl⟩
set_option maxRecDepth 100000 in
set_option maxHeartbeats 8000000 in
theorem ownLists_zero (w : World) : Calls Tryz.prog 65 #[.agg #[.slice none 0 0, .slice none 0 0, .slice none 0 0, .slice none 0 0]] w fun e w' => e = .returned (.agg #[.slice none 0 0, .slice none 0 0, .slice none 0 0, .slice none 0 0]) ∧ Below w.heap.size w w' := by
  obtain ⟨w1, hw1⟩ : ∃ w1, (w.alloc (.cells #[.slice none 0 0, .slice none 0 0, .slice none 0 0, .slice none 0 0] 38)).alloc (.cells #[.slice none 0 0, .slice none 0 0, .slice none 0 0, .slice none 0 0] 38) = w1 := ⟨_, rfl⟩
  have hb1 : Below w.heap.size w w1 := hw1 ▸ blkBelow2 w _ _
  have HK : Hid (Blk w1 w.heap.size 38 #[.slice none 0 0, .slice none 0 0, .slice none 0 0, .slice none 0 0]) := hide (hw1 ▸ (Blk.new w _ _).alloc _)
  have HZ : Hid (Blk w1 (w.heap.size + 1) 38 #[.slice none 0 0, .slice none 0 0, .slice none 0 0, .slice none 0 0]) := hide (hw1 ▸ blk_new' _ _ (by simp))
  have HB1 := hide hb1
  have HW1 := hide hw1
  clear hw1 hb1
  go_enter Tryz.func65, Tryz.ntmps65
  go_upto_region 1 with fail
  rw [HW1.out]
  have Hmn := hide (show AllMono [(fun v _ => v = .pointer (some ⟨w.heap.size, 0, none⟩)), (fun v _ => v = .slice none 0 0), (fun v _ => v = .slice none 0 0), (fun v _ => v = .pointer (some ⟨w.heap.size, 1, none⟩)), (fun v _ => v = .slice none 0 0), (fun v _ => v = .slice none 0 0), (fun v _ => v = .pointer (some ⟨w.heap.size, 2, none⟩)), (fun v _ => v = .slice none 0 0), (fun v _ => v = .slice none 0 0), (fun v _ => v = .pointer (some ⟨w.heap.size, 3, none⟩)), (fun v _ => v = .slice none 0 0), (fun v _ => v = .slice none 0 0), (fun v _ => v = .agg #[.slice none 0 0, .slice none 0 0, .slice none 0 0, .slice none 0 0]), (fun v w => ∃ R, v = .pointer (some ⟨R, 0, none⟩) ∧ Blk w R 38 #[.slice none 0 0, .slice none 0 0, .slice none 0 0, .slice none 0 0] ∧ w1.heap.size ≤ R)] from ⟨fun _ _ _ _ h => h, fun _ _ _ _ h => h, fun _ _ _ _ h => h, fun _ _ _ _ h => h, fun _ _ _ _ h => h, fun _ _ _ _ h => h, fun _ _ _ _ h => h, fun _ _ _ _ h => h, fun _ _ _ _ h => h, fun _ _ _ _ h => h, fun _ _ _ _ h => h, fun _ _ _ _ h => h, fun _ _ _ _ h => h, fun v w w2 hb ⟨R, e, h, h2⟩ => ⟨R, e, h.below hb h.lt, h2⟩, trivial⟩)
  refine wp_region_relT 14 _ (by kernel_rfl) (by kernel_rfl) (by kernel_rfl) (by kernel_rfl) (by kernel_rfl) (relMono _ Hmn.out) ⟨?_, ?_, ?_, ?_, ?_, ?_, ?_, ?_, ?_, ?_, ?_, ?_, ?_, ?_, trivial⟩ ?_
  · refine relStep_plain rfl ?_
    intro Ac w5 hp
    have hb := hp.bel
    have a1 : Ac.eval (.tmp 1) = .pointer (some ⟨w.heap.size, 0, none⟩) := hp.out 1 (by rfl)
    have hc := evalC Ac; have hf := evalF Ac; have hgl := evalG Ac
    obtain ⟨ρ, hρ⟩ : ∃ ρ, Ac.eval = ρ := ⟨_, rfl⟩
    rw [hρ] at a1 hc hf hgl
    exact relPure hρ (.pointer (some ⟨w.heap.size, 0, none⟩)) (by simp [go_sem, hc, hf, hgl, ↓IntWalk.iteOmega, a1, *]) rfl
  · refine relStep_plain rfl ?_
    intro Ac w5 hp
    have hb := hp.bel
    have a16 : Ac.eval (.tmp 16) = .pointer (some ⟨w.heap.size, 0, none⟩) := hp.dep 0 (by kernel_rfl)
    have hx5 := HK.out.below hb HK.out.lt
    have x0 : w5.cell? ⟨w.heap.size, 0, none⟩ = some (.slice none 0 0) := hx5.cell 0
    have x1 : w5.cell? ⟨w.heap.size, 1, none⟩ = some (.slice none 0 0) := hx5.cell 1
    have x2 : w5.cell? ⟨w.heap.size, 2, none⟩ = some (.slice none 0 0) := hx5.cell 2
    have x3 : w5.cell? ⟨w.heap.size, 3, none⟩ = some (.slice none 0 0) := hx5.cell 3
    have hc := evalC Ac; have hf := evalF Ac; have hgl := evalG Ac
    obtain ⟨ρ, hρ⟩ : ∃ ρ, Ac.eval = ρ := ⟨_, rfl⟩
    rw [hρ] at a16 hc hf hgl
    exact relPure hρ (.slice none 0 0) (by simp [go_sem, hc, hf, hgl, ↓IntWalk.iteOmega, a16, *]) rfl
  · refine relStep_plain rfl ?_
    intro Ac w5 hp
    have hb := hp.bel
    have a17 : Ac.eval (.tmp 17) = .slice none 0 0 := hp.dep 1 (by kernel_rfl)
    have hc := evalC Ac; have hf := evalF Ac; have hgl := evalG Ac
    obtain ⟨ρ, hρ⟩ : ∃ ρ, Ac.eval = ρ := ⟨_, rfl⟩
    rw [hρ] at a17 hc hf hgl
    refine relCall hρ 120 #[.slice none 0 0] (by simp [go_sem, hc, hf, hgl, ↓IntWalk.iteOmega, a17, *]) ?_
    refine (clonePList_nil w5).mono ?_
    rintro e w6 ⟨rfl, rfl⟩
    exact ⟨_, rfl, rfl, Below.refl _ _⟩
  · refine relStep_plain rfl ?_
    intro Ac w5 hp
    have hb := hp.bel
    have a1 : Ac.eval (.tmp 1) = .pointer (some ⟨w.heap.size, 0, none⟩) := hp.out 1 (by rfl)
    have hc := evalC Ac; have hf := evalF Ac; have hgl := evalG Ac
    obtain ⟨ρ, hρ⟩ : ∃ ρ, Ac.eval = ρ := ⟨_, rfl⟩
    rw [hρ] at a1 hc hf hgl
    exact relPure hρ (.pointer (some ⟨w.heap.size, 1, none⟩)) (by simp [go_sem, hc, hf, hgl, ↓IntWalk.iteOmega, a1, *]) rfl
  · refine relStep_plain rfl ?_
    intro Ac w5 hp
    have hb := hp.bel
    have a19 : Ac.eval (.tmp 19) = .pointer (some ⟨w.heap.size, 1, none⟩) := hp.dep 3 (by kernel_rfl)
    have hx5 := HK.out.below hb HK.out.lt
    have x0 : w5.cell? ⟨w.heap.size, 0, none⟩ = some (.slice none 0 0) := hx5.cell 0
    have x1 : w5.cell? ⟨w.heap.size, 1, none⟩ = some (.slice none 0 0) := hx5.cell 1
    have x2 : w5.cell? ⟨w.heap.size, 2, none⟩ = some (.slice none 0 0) := hx5.cell 2
    have x3 : w5.cell? ⟨w.heap.size, 3, none⟩ = some (.slice none 0 0) := hx5.cell 3
    have hc := evalC Ac; have hf := evalF Ac; have hgl := evalG Ac
    obtain ⟨ρ, hρ⟩ : ∃ ρ, Ac.eval = ρ := ⟨_, rfl⟩
    rw [hρ] at a19 hc hf hgl
    exact relPure hρ (.slice none 0 0) (by simp [go_sem, hc, hf, hgl, ↓IntWalk.iteOmega, a19, *]) rfl
  · refine relStep_plain rfl ?_
    intro Ac w5 hp
    have hb := hp.bel
    have a20 : Ac.eval (.tmp 20) = .slice none 0 0 := hp.dep 4 (by kernel_rfl)
    have hc := evalC Ac; have hf := evalF Ac; have hgl := evalG Ac
    obtain ⟨ρ, hρ⟩ : ∃ ρ, Ac.eval = ρ := ⟨_, rfl⟩
    rw [hρ] at a20 hc hf hgl
    refine relCall hρ 121 #[.slice none 0 0] (by simp [go_sem, hc, hf, hgl, ↓IntWalk.iteOmega, a20, *]) ?_
    refine (cloneAList_nil w5).mono ?_
    rintro e w6 ⟨rfl, rfl⟩
    exact ⟨_, rfl, rfl, Below.refl _ _⟩
  · refine relStep_plain rfl ?_
    intro Ac w5 hp
    have hb := hp.bel
    have a1 : Ac.eval (.tmp 1) = .pointer (some ⟨w.heap.size, 0, none⟩) := hp.out 1 (by rfl)
    have hc := evalC Ac; have hf := evalF Ac; have hgl := evalG Ac
    obtain ⟨ρ, hρ⟩ : ∃ ρ, Ac.eval = ρ := ⟨_, rfl⟩
    rw [hρ] at a1 hc hf hgl
    exact relPure hρ (.pointer (some ⟨w.heap.size, 2, none⟩)) (by simp [go_sem, hc, hf, hgl, ↓IntWalk.iteOmega, a1, *]) rfl
  · refine relStep_plain rfl ?_
    intro Ac w5 hp
    have hb := hp.bel
    have a22 : Ac.eval (.tmp 22) = .pointer (some ⟨w.heap.size, 2, none⟩) := hp.dep 6 (by kernel_rfl)
    have hx5 := HK.out.below hb HK.out.lt
    have x0 : w5.cell? ⟨w.heap.size, 0, none⟩ = some (.slice none 0 0) := hx5.cell 0
    have x1 : w5.cell? ⟨w.heap.size, 1, none⟩ = some (.slice none 0 0) := hx5.cell 1
    have x2 : w5.cell? ⟨w.heap.size, 2, none⟩ = some (.slice none 0 0) := hx5.cell 2
    have x3 : w5.cell? ⟨w.heap.size, 3, none⟩ = some (.slice none 0 0) := hx5.cell 3
    have hc := evalC Ac; have hf := evalF Ac; have hgl := evalG Ac
    obtain ⟨ρ, hρ⟩ : ∃ ρ, Ac.eval = ρ := ⟨_, rfl⟩
    rw [hρ] at a22 hc hf hgl
    exact relPure hρ (.slice none 0 0) (by simp [go_sem, hc, hf, hgl, ↓IntWalk.iteOmega, a22, *]) rfl
  · refine relStep_plain rfl ?_
    intro Ac w5 hp
    have hb := hp.bel
    have a23 : Ac.eval (.tmp 23) = .slice none 0 0 := hp.dep 7 (by kernel_rfl)
    have hc := evalC Ac; have hf := evalF Ac; have hgl := evalG Ac
    obtain ⟨ρ, hρ⟩ : ∃ ρ, Ac.eval = ρ := ⟨_, rfl⟩
    rw [hρ] at a23 hc hf hgl
    refine relCall hρ 122 #[.slice none 0 0] (by simp [go_sem, hc, hf, hgl, ↓IntWalk.iteOmega, a23, *]) ?_
    refine (cloneCList_nil w5).mono ?_
    rintro e w6 ⟨rfl, rfl⟩
    exact ⟨_, rfl, rfl, Below.refl _ _⟩
  · refine relStep_plain rfl ?_
    intro Ac w5 hp
    have hb := hp.bel
    have a1 : Ac.eval (.tmp 1) = .pointer (some ⟨w.heap.size, 0, none⟩) := hp.out 1 (by rfl)
    have hc := evalC Ac; have hf := evalF Ac; have hgl := evalG Ac
    obtain ⟨ρ, hρ⟩ : ∃ ρ, Ac.eval = ρ := ⟨_, rfl⟩
    rw [hρ] at a1 hc hf hgl
    exact relPure hρ (.pointer (some ⟨w.heap.size, 3, none⟩)) (by simp [go_sem, hc, hf, hgl, ↓IntWalk.iteOmega, a1, *]) rfl
  · refine relStep_plain rfl ?_
    intro Ac w5 hp
    have hb := hp.bel
    have a25 : Ac.eval (.tmp 25) = .pointer (some ⟨w.heap.size, 3, none⟩) := hp.dep 9 (by kernel_rfl)
    have hx5 := HK.out.below hb HK.out.lt
    have x0 : w5.cell? ⟨w.heap.size, 0, none⟩ = some (.slice none 0 0) := hx5.cell 0
    have x1 : w5.cell? ⟨w.heap.size, 1, none⟩ = some (.slice none 0 0) := hx5.cell 1
    have x2 : w5.cell? ⟨w.heap.size, 2, none⟩ = some (.slice none 0 0) := hx5.cell 2
    have x3 : w5.cell? ⟨w.heap.size, 3, none⟩ = some (.slice none 0 0) := hx5.cell 3
    have hc := evalC Ac; have hf := evalF Ac; have hgl := evalG Ac
    obtain ⟨ρ, hρ⟩ : ∃ ρ, Ac.eval = ρ := ⟨_, rfl⟩
    rw [hρ] at a25 hc hf hgl
    exact relPure hρ (.slice none 0 0) (by simp [go_sem, hc, hf, hgl, ↓IntWalk.iteOmega, a25, *]) rfl
  · refine relStep_plain rfl ?_
    intro Ac w5 hp
    have hb := hp.bel
    have a26 : Ac.eval (.tmp 26) = .slice none 0 0 := hp.dep 10 (by kernel_rfl)
    have hc := evalC Ac; have hf := evalF Ac; have hgl := evalG Ac
    obtain ⟨ρ, hρ⟩ : ∃ ρ, Ac.eval = ρ := ⟨_, rfl⟩
    rw [hρ] at a26 hc hf hgl
    refine relCall hρ 123 #[.slice none 0 0] (by simp [go_sem, hc, hf, hgl, ↓IntWalk.iteOmega, a26, *]) ?_
    refine (cloneRMap_nil w5).mono ?_
    rintro e w6 ⟨rfl, rfl⟩
    exact ⟨_, rfl, rfl, Below.refl _ _⟩
  · refine relStep_plain rfl ?_
    intro Ac w5 hp
    have hb := hp.bel
    have a18 : Ac.eval (.tmp 18) = .slice none 0 0 := hp.dep 2 (by kernel_rfl)
    have a21 : Ac.eval (.tmp 21) = .slice none 0 0 := hp.dep 5 (by kernel_rfl)
    have a24 : Ac.eval (.tmp 24) = .slice none 0 0 := hp.dep 8 (by kernel_rfl)
    have a27 : Ac.eval (.tmp 27) = .slice none 0 0 := hp.dep 11 (by kernel_rfl)
    have hc := evalC Ac; have hf := evalF Ac; have hgl := evalG Ac
    obtain ⟨ρ, hρ⟩ : ∃ ρ, Ac.eval = ρ := ⟨_, rfl⟩
    rw [hρ] at a18 a21 a24 a27 hc hf hgl
    exact relPure hρ (.agg #[.slice none 0 0, .slice none 0 0, .slice none 0 0, .slice none 0 0]) (by simp [go_sem, hc, hf, hgl, ↓IntWalk.iteOmega, a18, a21, a24, a27, *]) rfl
  · refine relStep_plain rfl ?_
    intro Ac w5 hp
    have hb := hp.bel
    have hc := evalC Ac; have hf := evalF Ac; have hgl := evalG Ac
    obtain ⟨ρ, hρ⟩ : ∃ ρ, Ac.eval = ρ := ⟨_, rfl⟩
    rw [hρ] at hc hf hgl
    exact relVal hρ (.pointer (some ⟨w5.heap.size, 0, none⟩)) (w5.alloc (.cells #[.slice none 0 0, .slice none 0 0, .slice none 0 0, .slice none 0 0] 38)) (by simp [go_sem, hc, hf, hgl, ↓IntWalk.iteOmega, *]) ⟨_, rfl, Blk.new w5 _ _, hb.size⟩ ((Below.refl _ _).alloc (Nat.le_refl _) _)
  intro u w2 hb7 hall
  have e28 : u 12 = .agg #[.slice none 0 0, .slice none 0 0, .slice none 0 0, .slice none 0 0] := relAll_at hall (i := 12) (by decide +kernel)
  obtain ⟨R3, e3, hR3, hRb3⟩ := relAll_at hall (i := 13) (by decide +kernel)
  change u 13 = _ at e3
  clear hall
  simp only [List.drop_succ_cons, List.drop_zero, List.take_succ_cons, List.take_zero, putAll, Act.put, List.setIfInBounds_toArray, List.set_cons_zero, List.set_cons_succ, Nat.zero_add, Nat.reduceAdd, e28, e3]
  have HB2 := hide (HB1.out.trans (hb7.mono HB1.out.size))
  have HZ2 := hide (HZ.out.below hb7 HZ.out.lt)
  have HR2 := hide hR3
  have hRb : w1.heap.size ≤ R3 := hRb3
  have hs1 := HB1.out.size
  have hzl := HZ.out.lt
  clear hb7 hR3 hRb3
  have r0 : w2.cell? ⟨R3, 0, none⟩ = some (.slice none 0 0) := HR2.out.cell 0
  have r1 : w2.cell? ⟨R3, 1, none⟩ = some (.slice none 0 0) := HR2.out.cell 1
  have r2 : w2.cell? ⟨R3, 2, none⟩ = some (.slice none 0 0) := HR2.out.cell 2
  have r3 : w2.cell? ⟨R3, 3, none⟩ = some (.slice none 0 0) := HR2.out.cell 3
  have rf := fun i => HR2.out.frozen i
  go_upto_region 2 with fail
  change Code.wp _ _ _ _ (w2.setCells R3 0 [.slice none 0 0, .slice none 0 0, .slice none 0 0, .slice none 0 0])
  obtain ⟨w3, hw3⟩ : ∃ W, w2.setCells R3 0 [.slice none 0 0, .slice none 0 0, .slice none 0 0, .slice none 0 0] = W := ⟨_, rfl⟩
  have HR3 := hide (hw3 ▸ blk_sets [.slice none 0 0, .slice none 0 0, .slice none 0 0, .slice none 0 0] [] [.slice none 0 0, .slice none 0 0, .slice none 0 0, .slice none 0 0] HR2.out rfl : Blk w3 R3 38 #[.slice none 0 0, .slice none 0 0, .slice none 0 0, .slice none 0 0])
  have HZ3 := hide (hw3 ▸ blk_sets_far (by omega) [.slice none 0 0, .slice none 0 0, .slice none 0 0, .slice none 0 0] 0 HZ2.out : Blk w3 (w.heap.size + 1) 38 #[.slice none 0 0, .slice none 0 0, .slice none 0 0, .slice none 0 0])
  have HB3 : Hid (Below w.heap.size w w3) := hide (hw3 ▸ below_clear (by omega) _ _ HB2.out)
  rw [hw3]
  clear hw3 rf r0 r1 r2 r3
  have r0 : w3.cell? ⟨R3, 0, none⟩ = some (.slice none 0 0) := HR3.out.cell 0
  have r1 : w3.cell? ⟨R3, 1, none⟩ = some (.slice none 0 0) := HR3.out.cell 1
  have r2 : w3.cell? ⟨R3, 2, none⟩ = some (.slice none 0 0) := HR3.out.cell 2
  have r3 : w3.cell? ⟨R3, 3, none⟩ = some (.slice none 0 0) := HR3.out.cell 3
  have z0 : w3.cell? ⟨w.heap.size + 1, 0, none⟩ = some (.slice none 0 0) := HZ3.out.cell 0
  have z1 : w3.cell? ⟨w.heap.size + 1, 1, none⟩ = some (.slice none 0 0) := HZ3.out.cell 1
  have z2 : w3.cell? ⟨w.heap.size + 1, 2, none⟩ = some (.slice none 0 0) := HZ3.out.cell 2
  have z3 : w3.cell? ⟨w.heap.size + 1, 3, none⟩ = some (.slice none 0 0) := HZ3.out.cell 3
  have zf := fun i => HZ3.out.frozen i
  go_wp2
  go_loopw [32] (fun iv wr => iv = .int .i64 0 ∧ wr = w3) (fun _ _ => 0)
  case atStart => exact ⟨rfl, rfl⟩
  case round =>
  obtain ⟨rfl, hwr⟩ := hrel
  have hwr' := hwr.symm
  subst hwr'
  clear hwr
  go_wp2
  go_loopw [49] (fun iv wr => iv = .int .i64 0 ∧ wr = w3) (fun _ _ => 0)
  case atStart => exact ⟨rfl, rfl⟩
  case round =>
  obtain ⟨rfl, hwr⟩ := hrel
  have hwr' := hwr.symm
  subst hwr'
  clear hwr
  go_wp2
  go_loopw [91] (fun iv wr => iv = .int .i64 0 ∧ wr = w3) (fun _ _ => 0)
  case atStart => exact ⟨rfl, rfl⟩
  case round =>
  obtain ⟨rfl, hwr⟩ := hrel
  have hwr' := hwr.symm
  subst hwr'
  clear hwr
  go_wp2
  go_loopw [133] (fun iv wr => iv = .int .i64 0 ∧ wr = w3) (fun _ _ => 0)
  case atStart => exact ⟨rfl, rfl⟩
  case round =>
  obtain ⟨rfl, hwr⟩ := hrel
  have hwr' := hwr.symm
  subst hwr'
  clear hwr
  go_wp2
  change bodyPost _ _ _ _ _ (w3.setCells (w.heap.size + 1) 0 [.slice none 0 0, .slice none 0 0, .slice none 0 0, .slice none 0 0])
  obtain ⟨wF, hwF⟩ : ∃ x, w3.setCells (w.heap.size + 1) 0 [.slice none 0 0, .slice none 0 0, .slice none 0 0, .slice none 0 0] = x := ⟨_, rfl⟩
  have HFk := hide (hwF ▸ blk_sets [.slice none 0 0, .slice none 0 0, .slice none 0 0, .slice none 0 0] [] [.slice none 0 0, .slice none 0 0, .slice none 0 0, .slice none 0 0] HZ3.out rfl : Blk wF (w.heap.size + 1) 38 #[.slice none 0 0, .slice none 0 0, .slice none 0 0, .slice none 0 0])
  have HFb : Hid (Below w.heap.size w wF) := hide (hwF ▸ below_clear (Nat.le_succ _) _ _ HB3.out)
  rw [hwF]
  clear hwF zf z0 z1 z2 z3 r0 r1 r2 r3
  have q0 : wF.cell? ⟨w.heap.size + 1, 0, none⟩ = some (.slice none 0 0) := HFk.out.cell 0
  have q1 : wF.cell? ⟨w.heap.size + 1, 1, none⟩ = some (.slice none 0 0) := HFk.out.cell 1
  have q2 : wF.cell? ⟨w.heap.size + 1, 2, none⟩ = some (.slice none 0 0) := HFk.out.cell 2
  have q3 : wF.cell? ⟨w.heap.size + 1, 3, none⟩ = some (.slice none 0 0) := HFk.out.cell 3
  refine bodyPost_ret (v := .agg #[.slice none 0 0, .slice none 0 0, .slice none 0 0, .slice none 0 0]) (by simp [results, Tryz.results65, go_sem, q0, q1, q2, q3]) rfl ⟨rfl, HFb.out⟩
set_option maxRecDepth 100000 in
set_option maxHeartbeats 8000000 in
theorem permits_nil (L1 L2 L3 L5 : Option Addr × Nat × Nat) (pa pl : Int) (X : AT) (hp0 : X.path = []) (hc0 : X.comms = []) (v : Value) (w : World) (hv : AtR w X v) :
    Calls Tryz.prog 71 #[.agg (liC L1 L2 L3 L5), .string ⟨#[]⟩, .agg #[.int .u32 pa, .int .i64 pl], v] w (GoodP true w) := by
  obtain ⟨A, n, c, B, m, d, rfl, hP, hC⟩ := hv
  obtain ⟨w1, hw1⟩ : ∃ w1, ((w.alloc (.cells (liC L1 L2 L3 L5) 38)).alloc (.cells #[.int .u32 pa, .int .i64 pl] 24)).alloc (.cells #[.int .i64 X.has, .int .i64 X.org, .slice A n c, .int .u32 X.hop, .int .u32 X.med, .int .u32 X.pref, .int .u32 X.aas, .int .u32 X.aid, .slice B m d] 28) = w1 := ⟨_, rfl⟩
  have hb1 : Below w.heap.size w w1 := hw1 ▸ blkBelow3q w _ _ _
  have HL : Hid (Blk w1 w.heap.size 38 (liC L1 L2 L3 L5)) := hide (hw1 ▸ ((Blk.new w _ _).alloc _).alloc _)
  have HQ : Hid (Blk w1 (w.heap.size + 1) 24 #[.int .u32 pa, .int .i64 pl]) := hide (hw1 ▸ (blk_new' _ _ (by simp)).alloc _)
  have HA : Hid (Blk w1 (w.heap.size + 1 + 1) 28 #[.int .i64 X.has, .int .i64 X.org, .slice A n c, .int .u32 X.hop, .int .u32 X.med, .int .u32 X.pref, .int .u32 X.aas, .int .u32 X.aid, .slice B m d]) := hide (hw1 ▸ blk_new' _ _ (by simp))
  have HE := hide (evalE0_any L1 L2 L3 L5 pa pl X hp0 hc0 (atV X.has X.org A n c X.hop X.med X.pref X.aas X.aid B m d) w1 ⟨A, n, c, B, m, d, rfl, hP.below sgMono hb1, hC.below hb1⟩)
  have HB1 := hide hb1
  have HW1 := hide hw1
  clear hw1 hb1 hP hC hp0 hc0
  have l0 : w1.cell? ⟨w.heap.size, 0, none⟩ = some (.slice L1.1 L1.2.1 L1.2.2) := HL.out.cell 0
  have l1 : w1.cell? ⟨w.heap.size, 1, none⟩ = some (.slice L2.1 L2.2.1 L2.2.2) := HL.out.cell 1
  have l2 : w1.cell? ⟨w.heap.size, 2, none⟩ = some (.slice L3.1 L3.2.1 L3.2.2) := HL.out.cell 2
  have l3 : w1.cell? ⟨w.heap.size, 3, none⟩ = some (.slice L5.1 L5.2.1 L5.2.2) := HL.out.cell 3
  have p0 : w1.cell? ⟨w.heap.size + 1, 0, none⟩ = some (.int .u32 pa) := HQ.out.cell 0
  have p1 : w1.cell? ⟨w.heap.size + 1, 1, none⟩ = some (.int .i64 pl) := HQ.out.cell 1
  have x0 : w1.cell? ⟨w.heap.size + 1 + 1, 0, none⟩ = some (.int .i64 X.has) := HA.out.cell 0
  have x1 : w1.cell? ⟨w.heap.size + 1 + 1, 1, none⟩ = some (.int .i64 X.org) := HA.out.cell 1
  have x2 : w1.cell? ⟨w.heap.size + 1 + 1, 2, none⟩ = some (.slice A n c) := HA.out.cell 2
  have x3 : w1.cell? ⟨w.heap.size + 1 + 1, 3, none⟩ = some (.int .u32 X.hop) := HA.out.cell 3
  have x4 : w1.cell? ⟨w.heap.size + 1 + 1, 4, none⟩ = some (.int .u32 X.med) := HA.out.cell 4
  have x5 : w1.cell? ⟨w.heap.size + 1 + 1, 5, none⟩ = some (.int .u32 X.pref) := HA.out.cell 5
  have x6 : w1.cell? ⟨w.heap.size + 1 + 1, 6, none⟩ = some (.int .u32 X.aas) := HA.out.cell 6
  have x7 : w1.cell? ⟨w.heap.size + 1 + 1, 7, none⟩ = some (.int .u32 X.aid) := HA.out.cell 7
  have x8 : w1.cell? ⟨w.heap.size + 1 + 1, 8, none⟩ = some (.slice B m d) := HA.out.cell 8
  go_enter Tryz.func71, Tryz.ntmps71
  go_wp2_with fail
  rw [HW1.out]
  refine HE.out.mono ?_
  rintro e w2 ⟨v2, rfl, ⟨A6, n6, c6, xs6, B6, m6, d6, rfl, hl6, hu6⟩, hb2⟩
  have HB2 := hide (HB1.out.trans (hb2.mono HB1.out.size))
  have HB3 : Hid (∀ o, Below w.heap.size w (w2.alloc o)) := hide fun o => HB2.out.alloc HB2.out.size o
  clear hb2 hl6 hu6 l0 l1 l2 l3 p0 p1 x0 x1 x2 x3 x4 x5 x6 x7 x8
  go_wp2
  go_ret
  exact ⟨rfl, HB3.out _⟩
end Go.Proofs.YtcinjckajnnhmaaGreat
set_option linter.unusedSimpArgs false
set_option linter.unusedVariables false
namespace Go.Proofs.YtcinjckajnnhmaaGreat
open Go.RowKit Go.WideShapes Go.ChangeShapes
attribute [local go_sem] Oper.semAt_some
set_option maxRecDepth 100000 in
set_option maxHeartbeats 8000000 in
theorem aboveE_yes (g nb p m a n : Nat) (v0 : Value) (w : World) (hP : PG p m) (hA : PG a n) (hwi : (covB p (m : Int) a (n : Int) && !decide (a = p ∧ (n : Int) = (m : Int))) = true) (hbit : bitN a m = 0) (hm : m ≤ 31) (hg : Blk w g 219 #[.pointer (some ⟨nb, 0, none⟩)]) (hk : Blk w nb 226 (ndC p m [v0] true 1 (.pointer none) (.pointer none))) :
    Calls Tryz.prog 163 #[.pointer (some ⟨g, 0, none⟩), .agg #[.int .u32 (a : Int), .int .i64 (n : Int)]] w fun e w' => ∃ A' c', e = .returned (.slice A' 1 c') ∧ LstAt 2 pxR w' A' 1 c' [(p, m)] ∧ Below w.heap.size w w' := by
  obtain ⟨i0, hi, hz0, hz1, hz2⟩ := info_parts pxInfo
  obtain ⟨w1, hw1⟩ : ∃ w1, w.alloc (.cells #[.int .u32 (a : Int), .int .i64 (n : Int)] 24) = w1 := ⟨_, rfl⟩
  have hb1 : Below w.heap.size w w1 := hw1 ▸ blkBelow1 w _
  have HX : Hid (Blk w1 w.heap.size 24 #[.int .u32 (a : Int), .int .i64 (n : Int)]) := hide (hw1 ▸ Blk.new w _ _)
  have HK := hide (hk.below hb1 hk.lt)
  have HTp := hide (topE_any (α := Nat) g (.nd nb p m (some 0) .nil .nil) w1 (hg.below hb1 hg.lt))
  have HWi := hide (fun W => Within_any a (n : Int) p (m : Int) hA.1 hP.1 (by omega) (by have := hA.2.1; omega) (by omega) (by omega) W)
  rw [hwi] at HWi
  unfold pfx at HWi
  have HSd := hide (fun W => side_any p m a n hA.1 hm W)
  have HBit := hide hbit
  have HB1 := hide hb1
  have HW1 := hide hw1
  clear hw1 hb1 hg hk hwi hbit hP hA
  go_enter Tryz.func163, Tryz.ntmps163
  go_wp2_with fail
  rw [HW1.out]
  refine HTp.out.mono ?_
  rintro e w1' ⟨rfl, rfl⟩
  have e0 : trPtr (.nd nb p m (some (0 : Nat)) .nil .nil : Tr Nat) = .pointer (some ⟨nb, 0, none⟩) := rfl
  rw [e0]
  clear e0
  go_wp2
  obtain ⟨w1, hq1⟩ : ∃ w1, w1' = w1 := ⟨_, rfl⟩
  subst hq1
  go_loopw [5, 6] (fun vo vn wr => (vo = .slice none 0 0 ∧ vn = .pointer (some ⟨nb, 0, none⟩) ∧ wr = w1') ∨ (vn = .pointer none ∧ ∃ A' c', vo = .slice A' 1 c' ∧ LstAt 2 pxR wr A' 1 c' [(p, m)] ∧ Below w.heap.size w wr)) (fun _ vn _ => match vn with | .pointer (some _) => 1 | _ => 0)
  case atStart => exact .inl ⟨rfl, rfl, rfl⟩
  case round =>
    rcases hrel with ⟨rfl, rfl, hwr⟩ | ⟨rfl, A', c', rfl, hl, hbl⟩
    · have hwr' := hwr.symm
      subst hwr'
      clear hwr
      have HKr := hide HK.out
      have HXr := hide HX.out
      go_upto_region 3 with fail
      have Hmn := hide (show AllMono [(fun v _ => v = .pointer (some ⟨nb, 0, none⟩)), (fun v _ => v = .bool true), (fun v _ => v = .bool true), (fun v _ => v = .agg #[.int .u32 (a : Int), .int .i64 (n : Int)]), (fun v _ => v = .pointer (some ⟨nb, 0, none⟩)), (fun v _ => v = .pointer (some ⟨nb, 0, none⟩)), (fun v _ => v = .pointer (some ⟨nb, 0, none⟩)), (fun v _ => v = .agg #[.int .u32 (p : Int), .int .i64 (m : Int)]), (fun v _ => v = .bool true), (fun v _ => v = .bool true)] from ⟨fun _ _ _ _ h => h, fun _ _ _ _ h => h, fun _ _ _ _ h => h, fun _ _ _ _ h => h, fun _ _ _ _ h => h, fun _ _ _ _ h => h, fun _ _ _ _ h => h, fun _ _ _ _ h => h, fun _ _ _ _ h => h, fun _ _ _ _ h => h, trivial⟩)
      refine wp_region_rel _ (by kernel_rfl) (by kernel_rfl) (relMono _ Hmn.out) ⟨?_, ?_, ?_, ?_, ?_, ?_, ?_, ?_, ?_, ?_, trivial⟩ ?_
      · refine relStep_plain rfl ?_
        intro Ac w5 hp
        have hb := hp.bel
        have a6 : Ac.eval (.tmp 6) = .pointer (some ⟨nb, 0, none⟩) := hp.out 6 (by rfl)
        have hc := evalC Ac; have hf := evalF Ac; have hgl := evalG Ac
        obtain ⟨ρ, hρ⟩ : ∃ ρ, Ac.eval = ρ := ⟨_, rfl⟩
        rw [hρ] at a6 hc hf hgl
        exact relPure hρ (.pointer (some ⟨nb, 0, none⟩)) (by simp [go_sem, hc, hf, hgl, ↓IntWalk.iteOmega, a6, *]) rfl
      · refine relStep_plain rfl ?_
        intro Ac w5 hp
        have hb := hp.bel
        have a9 : Ac.eval (.tmp 9) = .pointer (some ⟨nb, 0, none⟩) := hp.dep 0 (by kernel_rfl)
        have hc := evalC Ac; have hf := evalF Ac; have hgl := evalG Ac
        obtain ⟨ρ, hρ⟩ : ∃ ρ, Ac.eval = ρ := ⟨_, rfl⟩
        rw [hρ] at a9 hc hf hgl
        exact relPure hρ (.bool true) (by simp [go_sem, hc, hf, hgl, ↓IntWalk.iteOmega, a9, *]) rfl
      · refine relStep_plain rfl ?_
        intro Ac w5 hp
        have hb := hp.bel
        have a10 : Ac.eval (.tmp 10) = .bool true := hp.dep 1 (by kernel_rfl)
        have hc := evalC Ac; have hf := evalF Ac; have hgl := evalG Ac
        obtain ⟨ρ, hρ⟩ : ∃ ρ, Ac.eval = ρ := ⟨_, rfl⟩
        rw [hρ] at a10 hc hf hgl
        exact relPure hρ (.bool true) (by simp [go_sem, hc, hf, hgl, ↓IntWalk.iteOmega, a10, *]) rfl
      · refine relStep_guard (g := 2) (b := true) (x := true) rfl (by kernel_rfl) rfl (by kernel_rfl) rfl (fun _ _ h => h) ?_
        intro Ac w5 hp
        have hb := hp.bel
        have a3 : Ac.eval (.tmp 3) = .pointer (some ⟨w.heap.size, 0, none⟩) := hp.out 3 (by rfl)
        have hx5 := HXr.out.below hb HXr.out.lt
        have x0 : w5.cell? ⟨w.heap.size, 0, none⟩ = some (.int .u32 (a : Int)) := hx5.cell 0
        have x1 : w5.cell? ⟨w.heap.size, 1, none⟩ = some (.int .i64 (n : Int)) := hx5.cell 1
        have hc := evalC Ac; have hf := evalF Ac; have hgl := evalG Ac
        obtain ⟨ρ, hρ⟩ : ∃ ρ, Ac.eval = ρ := ⟨_, rfl⟩
        rw [hρ] at a3 hc hf hgl
        exact relPure hρ (.agg #[.int .u32 (a : Int), .int .i64 (n : Int)]) (by simp [go_sem, hc, hf, hgl, ↓IntWalk.iteOmega, a3, *]) rfl
      · refine relStep_guard (g := 2) (b := true) (x := true) rfl (by kernel_rfl) rfl (by kernel_rfl) rfl (fun _ _ h => h) ?_
        intro Ac w5 hp
        have hb := hp.bel
        have a6 : Ac.eval (.tmp 6) = .pointer (some ⟨nb, 0, none⟩) := hp.out 6 (by rfl)
        have hc := evalC Ac; have hf := evalF Ac; have hgl := evalG Ac
        obtain ⟨ρ, hρ⟩ : ∃ ρ, Ac.eval = ρ := ⟨_, rfl⟩
        rw [hρ] at a6 hc hf hgl
        exact relPure hρ (.pointer (some ⟨nb, 0, none⟩)) (by simp [go_sem, hc, hf, hgl, ↓IntWalk.iteOmega, a6, *]) rfl
      · refine relStep_guard (g := 2) (b := true) (x := true) rfl (by kernel_rfl) rfl (by kernel_rfl) rfl (fun _ _ h => h) ?_
        intro Ac w5 hp
        have hb := hp.bel
        have a13 : Ac.eval (.tmp 13) = .pointer (some ⟨nb, 0, none⟩) := hp.dep 4 (by kernel_rfl)
        have hc := evalC Ac; have hf := evalF Ac; have hgl := evalG Ac
        obtain ⟨ρ, hρ⟩ : ∃ ρ, Ac.eval = ρ := ⟨_, rfl⟩
        rw [hρ] at a13 hc hf hgl
        exact relPure hρ (.pointer (some ⟨nb, 0, none⟩)) (by simp [go_sem, hc, hf, hgl, ↓IntWalk.iteOmega, a13, *]) rfl
      · refine relStep_guard (g := 2) (b := true) (x := true) rfl (by kernel_rfl) rfl (by kernel_rfl) rfl (fun _ _ h => h) ?_
        intro Ac w5 hp
        have hb := hp.bel
        have a14 : Ac.eval (.tmp 14) = .pointer (some ⟨nb, 0, none⟩) := hp.dep 5 (by kernel_rfl)
        have hc := evalC Ac; have hf := evalF Ac; have hgl := evalG Ac
        obtain ⟨ρ, hρ⟩ : ∃ ρ, Ac.eval = ρ := ⟨_, rfl⟩
        rw [hρ] at a14 hc hf hgl
        exact relPure hρ (.pointer (some ⟨nb, 0, none⟩)) (by simp [go_sem, hc, hf, hgl, ↓IntWalk.iteOmega, a14, *]) rfl
      · refine relStep_guard (g := 2) (b := true) (x := true) rfl (by kernel_rfl) rfl (by kernel_rfl) rfl (fun _ _ h => h) ?_
        intro Ac w5 hp
        have hb := hp.bel
        have a15 : Ac.eval (.tmp 15) = .pointer (some ⟨nb, 0, none⟩) := hp.dep 6 (by kernel_rfl)
        have hk5 := HKr.out.below hb HKr.out.lt
        have y0 : w5.cell? ⟨nb, 0, none⟩ = some (.int .u32 (p : Int)) := hk5.cell 0
        have y1 : w5.cell? ⟨nb, 1, none⟩ = some (.int .i64 (m : Int)) := hk5.cell 1
        have y5 : w5.cell? ⟨nb, 5, none⟩ = some (.pointer none) := hk5.cell 5
        have hc := evalC Ac; have hf := evalF Ac; have hgl := evalG Ac
        obtain ⟨ρ, hρ⟩ : ∃ ρ, Ac.eval = ρ := ⟨_, rfl⟩
        rw [hρ] at a15 hc hf hgl
        exact relPure hρ (.agg #[.int .u32 (p : Int), .int .i64 (m : Int)]) (by simp [go_sem, hc, hf, hgl, ↓IntWalk.iteOmega, a15, *]) rfl
      · refine relStep_guard (g := 2) (b := true) (x := true) rfl (by kernel_rfl) rfl (by kernel_rfl) rfl (fun _ _ h => h) ?_
        intro Ac w5 hp
        have hb := hp.bel
        have a12 : Ac.eval (.tmp 12) = .agg #[.int .u32 (a : Int), .int .i64 (n : Int)] := hp.dep 3 (by kernel_rfl)
        have a16 : Ac.eval (.tmp 16) = .agg #[.int .u32 (p : Int), .int .i64 (m : Int)] := hp.dep 7 (by kernel_rfl)
        have hc := evalC Ac; have hf := evalF Ac; have hgl := evalG Ac
        obtain ⟨ρ, hρ⟩ : ∃ ρ, Ac.eval = ρ := ⟨_, rfl⟩
        rw [hρ] at a12 a16 hc hf hgl
        refine relCall hρ 207 #[.agg #[.int .u32 (a : Int), .int .i64 (n : Int)], .agg #[.int .u32 (p : Int), .int .i64 (m : Int)]] (by simp [go_sem, hc, hf, hgl, ↓IntWalk.iteOmega, a12, a16, *]) ?_
        refine (HWi.out w5).mono ?_
        rintro e w6 ⟨rfl, hb6⟩
        exact ⟨_, rfl, rfl, hb6⟩
      · refine relStep_plain rfl ?_
        intro Ac w5 hp
        have hb := hp.bel
        have a11 : Ac.eval (.tmp 11) = .bool true := hp.dep 2 (by kernel_rfl)
        have a17 : Ac.eval (.tmp 17) = .bool true := hp.dep 8 (by kernel_rfl)
        have hc := evalC Ac; have hf := evalF Ac; have hgl := evalG Ac
        obtain ⟨ρ, hρ⟩ : ∃ ρ, Ac.eval = ρ := ⟨_, rfl⟩
        rw [hρ] at a11 a17 hc hf hgl
        exact relPure hρ (.bool true) (by simp [go_sem, hc, hf, hgl, ↓IntWalk.iteOmega, a11, a17, *]) rfl
      intro u w2 hb7 hall
      have e18 : u 9 = .bool true := relAll_at hall (i := 9) (by decide +kernel)
      clear hall
      simp only [List.drop_succ_cons, List.drop_zero, List.take_succ_cons, List.take_zero, putAll, Act.put, List.setIfInBounds_toArray, List.set_cons_zero, List.set_cons_succ, Nat.zero_add, Nat.reduceAdd, e18]
      have HK2 := hide (HK.out.below hb7 HK.out.lt)
      have HX2 := hide (HX.out.below hb7 HX.out.lt)
      have HB2 := hide (HB1.out.trans (hb7.mono HB1.out.size))
      clear hb7 HKr HXr
      have y0 : w2.cell? ⟨nb, 0, none⟩ = some (.int .u32 (p : Int)) := HK2.out.cell 0
      have y1 : w2.cell? ⟨nb, 1, none⟩ = some (.int .i64 (m : Int)) := HK2.out.cell 1
      have y3 : w2.cell? ⟨nb, 3, none⟩ = some (.bool true) := HK2.out.cell 3
      have hkl := HK2.out.lt
      go_wp2_with (at_builtin; refine wpList_append_any _ rfl (.tmp 34) (.tmp 39) 45 rfl w2.heap.size 24 i0 _ 2 16 Tryz.underlying45 hi hz0 hz1 hz2 rfl (by decide) (.slice none 0 0) 0 [] rfl (World.ownsRow_nil _ _ _ _) (w2.heap.size + 1) (some ⟨w2.heap.size, 0, none⟩) 1 1 [.int .u32 (p : Int), .int .i64 (m : Int)] rfl (reads_blkN (Blk.new _ _ _) (by simp) rfl rfl) (by simp [Value.oneCell']) (by unfold maxLen; omega) (by omega) (by simp) ?_; intro v' w4 h5 h6 h7; rw [Nat.zero_add, List.nil_append] at h5; obtain ⟨A', c', rfl⟩ := own_slice h5; have hb4 : Below w2.heap.size w2 w4 := ((Below.refl _ _).alloc (Nat.le_refl _) _).grown h6 (by simp) (fun k hk => by simp [Value.ownBlock] at hk); have HL4 := hide (own_pxs (l := [(p, m)]) h5); have HK4 := hide (HK2.out.below hb4 HK2.out.lt); have HX4 := hide (HX2.out.below hb4 HX2.out.lt); have HB4 := hide (HB2.out.trans (hb4.mono HB2.out.size)); clear h5 h6 h7 hb4)
      clear y0 y1 y3
      go_upto_region 4 with fail
      have Hmn := hide (show AllMono [(fun v _ => v = .pointer (some ⟨nb, 0, none⟩)), (fun v _ => v = .pointer (some ⟨nb, 0, none⟩)), (fun v _ => v = .pointer (some ⟨nb, 0, none⟩)), (fun v _ => v = .pointer (some ⟨nb, 0, none⟩)), (fun v _ => v = .agg #[.int .u32 (p : Int), .int .i64 (m : Int)]), (fun v _ => v = .agg #[.int .u32 (a : Int), .int .i64 (n : Int)]), (fun v _ => v = .int .i64 0), (fun v _ => v = .pointer (some ⟨nb, 0, none⟩)), (fun v _ => v = .pointer (some ⟨nb, 5, none⟩)), (fun v _ => v = .pointer (some ⟨nb, 5, none⟩)), (fun v _ => v = .pointer none)] from ⟨fun _ _ _ _ h => h, fun _ _ _ _ h => h, fun _ _ _ _ h => h, fun _ _ _ _ h => h, fun _ _ _ _ h => h, fun _ _ _ _ h => h, fun _ _ _ _ h => h, fun _ _ _ _ h => h, fun _ _ _ _ h => h, fun _ _ _ _ h => h, fun _ _ _ _ h => h, trivial⟩)
      refine wp_region_relT 11 _ (by kernel_rfl) (by kernel_rfl) (by kernel_rfl) (by kernel_rfl) (by kernel_rfl) (relMono _ Hmn.out) ⟨?_, ?_, ?_, ?_, ?_, ?_, ?_, ?_, ?_, ?_, ?_, trivial⟩ ?_
      · refine relStep_plain rfl ?_
        intro Ac w5 hp
        have hb := hp.bel
        have a6 : Ac.eval (.tmp 6) = .pointer (some ⟨nb, 0, none⟩) := hp.out 6 (by rfl)
        have hc := evalC Ac; have hf := evalF Ac; have hgl := evalG Ac
        obtain ⟨ρ, hρ⟩ : ∃ ρ, Ac.eval = ρ := ⟨_, rfl⟩
        rw [hρ] at a6 hc hf hgl
        exact relPure hρ (.pointer (some ⟨nb, 0, none⟩)) (by simp [go_sem, hc, hf, hgl, ↓IntWalk.iteOmega, a6, *]) rfl
      · refine relStep_plain rfl ?_
        intro Ac w5 hp
        have hb := hp.bel
        have a6 : Ac.eval (.tmp 6) = .pointer (some ⟨nb, 0, none⟩) := hp.out 6 (by rfl)
        have hc := evalC Ac; have hf := evalF Ac; have hgl := evalG Ac
        obtain ⟨ρ, hρ⟩ : ∃ ρ, Ac.eval = ρ := ⟨_, rfl⟩
        rw [hρ] at a6 hc hf hgl
        exact relPure hρ (.pointer (some ⟨nb, 0, none⟩)) (by simp [go_sem, hc, hf, hgl, ↓IntWalk.iteOmega, a6, *]) rfl
      · refine relStep_plain rfl ?_
        intro Ac w5 hp
        have hb := hp.bel
        have a20 : Ac.eval (.tmp 20) = .pointer (some ⟨nb, 0, none⟩) := hp.dep 1 (by kernel_rfl)
        have hc := evalC Ac; have hf := evalF Ac; have hgl := evalG Ac
        obtain ⟨ρ, hρ⟩ : ∃ ρ, Ac.eval = ρ := ⟨_, rfl⟩
        rw [hρ] at a20 hc hf hgl
        exact relPure hρ (.pointer (some ⟨nb, 0, none⟩)) (by simp [go_sem, hc, hf, hgl, ↓IntWalk.iteOmega, a20, *]) rfl
      · refine relStep_plain rfl ?_
        intro Ac w5 hp
        have hb := hp.bel
        have a21 : Ac.eval (.tmp 21) = .pointer (some ⟨nb, 0, none⟩) := hp.dep 2 (by kernel_rfl)
        have hc := evalC Ac; have hf := evalF Ac; have hgl := evalG Ac
        obtain ⟨ρ, hρ⟩ : ∃ ρ, Ac.eval = ρ := ⟨_, rfl⟩
        rw [hρ] at a21 hc hf hgl
        exact relPure hρ (.pointer (some ⟨nb, 0, none⟩)) (by simp [go_sem, hc, hf, hgl, ↓IntWalk.iteOmega, a21, *]) rfl
      · refine relStep_plain rfl ?_
        intro Ac w5 hp
        have hb := hp.bel
        have a22 : Ac.eval (.tmp 22) = .pointer (some ⟨nb, 0, none⟩) := hp.dep 3 (by kernel_rfl)
        have hk5 := HK4.out.below hb HK4.out.lt
        have y0 : w5.cell? ⟨nb, 0, none⟩ = some (.int .u32 (p : Int)) := hk5.cell 0
        have y1 : w5.cell? ⟨nb, 1, none⟩ = some (.int .i64 (m : Int)) := hk5.cell 1
        have y5 : w5.cell? ⟨nb, 5, none⟩ = some (.pointer none) := hk5.cell 5
        have hc := evalC Ac; have hf := evalF Ac; have hgl := evalG Ac
        obtain ⟨ρ, hρ⟩ : ∃ ρ, Ac.eval = ρ := ⟨_, rfl⟩
        rw [hρ] at a22 hc hf hgl
        exact relPure hρ (.agg #[.int .u32 (p : Int), .int .i64 (m : Int)]) (by simp [go_sem, hc, hf, hgl, ↓IntWalk.iteOmega, a22, *]) rfl
      · refine relStep_plain rfl ?_
        intro Ac w5 hp
        have hb := hp.bel
        have a3 : Ac.eval (.tmp 3) = .pointer (some ⟨w.heap.size, 0, none⟩) := hp.out 3 (by rfl)
        have hx5 := HX4.out.below hb HX4.out.lt
        have x0 : w5.cell? ⟨w.heap.size, 0, none⟩ = some (.int .u32 (a : Int)) := hx5.cell 0
        have x1 : w5.cell? ⟨w.heap.size, 1, none⟩ = some (.int .i64 (n : Int)) := hx5.cell 1
        have hc := evalC Ac; have hf := evalF Ac; have hgl := evalG Ac
        obtain ⟨ρ, hρ⟩ : ∃ ρ, Ac.eval = ρ := ⟨_, rfl⟩
        rw [hρ] at a3 hc hf hgl
        exact relPure hρ (.agg #[.int .u32 (a : Int), .int .i64 (n : Int)]) (by simp [go_sem, hc, hf, hgl, ↓IntWalk.iteOmega, a3, *]) rfl
      · refine relStep_plain rfl ?_
        intro Ac w5 hp
        have hb := hp.bel
        have a23 : Ac.eval (.tmp 23) = .agg #[.int .u32 (p : Int), .int .i64 (m : Int)] := hp.dep 4 (by kernel_rfl)
        have a24 : Ac.eval (.tmp 24) = .agg #[.int .u32 (a : Int), .int .i64 (n : Int)] := hp.dep 5 (by kernel_rfl)
        have hc := evalC Ac; have hf := evalF Ac; have hgl := evalG Ac
        obtain ⟨ρ, hρ⟩ : ∃ ρ, Ac.eval = ρ := ⟨_, rfl⟩
        rw [hρ] at a23 a24 hc hf hgl
        refine relCall hρ 186 #[.agg #[.int .u32 (p : Int), .int .i64 (m : Int)], .agg #[.int .u32 (a : Int), .int .i64 (n : Int)]] (by simp [go_sem, hc, hf, hgl, ↓IntWalk.iteOmega, a23, a24, *]) ?_
        refine (HSd.out w5).mono ?_
        rintro e w6 ⟨rfl, hb6⟩
        exact ⟨_, rfl, by rw [HBit.out]; rfl, hb6⟩
      · refine relStep_plain rfl ?_
        intro Ac w5 hp
        have hb := hp.bel
        have a19 : Ac.eval (.tmp 19) = .pointer (some ⟨nb, 0, none⟩) := hp.dep 0 (by kernel_rfl)
        have hc := evalC Ac; have hf := evalF Ac; have hgl := evalG Ac
        obtain ⟨ρ, hρ⟩ : ∃ ρ, Ac.eval = ρ := ⟨_, rfl⟩
        rw [hρ] at a19 hc hf hgl
        exact relPure hρ (.pointer (some ⟨nb, 0, none⟩)) (by simp [go_sem, hc, hf, hgl, ↓IntWalk.iteOmega, a19, *]) rfl
      · refine relStep_plain rfl ?_
        intro Ac w5 hp
        have hb := hp.bel
        have a26 : Ac.eval (.tmp 26) = .pointer (some ⟨nb, 0, none⟩) := hp.dep 7 (by kernel_rfl)
        have hc := evalC Ac; have hf := evalF Ac; have hgl := evalG Ac
        obtain ⟨ρ, hρ⟩ : ∃ ρ, Ac.eval = ρ := ⟨_, rfl⟩
        rw [hρ] at a26 hc hf hgl
        exact relPure hρ (.pointer (some ⟨nb, 5, none⟩)) (by simp [go_sem, hc, hf, hgl, ↓IntWalk.iteOmega, a26, *]) rfl
      · refine relStep_plain rfl ?_
        intro Ac w5 hp
        have hb := hp.bel
        have a27 : Ac.eval (.tmp 27) = .pointer (some ⟨nb, 5, none⟩) := hp.dep 8 (by kernel_rfl)
        have a25 : Ac.eval (.tmp 25) = .int .i64 0 := hp.dep 6 (by kernel_rfl)
        have hc := evalC Ac; have hf := evalF Ac; have hgl := evalG Ac
        obtain ⟨ρ, hρ⟩ : ∃ ρ, Ac.eval = ρ := ⟨_, rfl⟩
        rw [hρ] at a27 a25 hc hf hgl
        exact relPure hρ (.pointer (some ⟨nb, 5, none⟩)) (by simp [go_sem, hc, hf, hgl, ↓IntWalk.iteOmega, a27, a25, *]) rfl
      · refine relStep_plain rfl ?_
        intro Ac w5 hp
        have hb := hp.bel
        have a28 : Ac.eval (.tmp 28) = .pointer (some ⟨nb, 5, none⟩) := hp.dep 9 (by kernel_rfl)
        have hk5 := HK4.out.below hb HK4.out.lt
        have y0 : w5.cell? ⟨nb, 0, none⟩ = some (.int .u32 (p : Int)) := hk5.cell 0
        have y1 : w5.cell? ⟨nb, 1, none⟩ = some (.int .i64 (m : Int)) := hk5.cell 1
        have y5 : w5.cell? ⟨nb, 5, none⟩ = some (.pointer none) := hk5.cell 5
        have hc := evalC Ac; have hf := evalF Ac; have hgl := evalG Ac
        obtain ⟨ρ, hρ⟩ : ∃ ρ, Ac.eval = ρ := ⟨_, rfl⟩
        rw [hρ] at a28 hc hf hgl
        exact relPure hρ (.pointer none) (by simp [go_sem, hc, hf, hgl, ↓IntWalk.iteOmega, a28, *]) rfl
      intro u w5 hb7 hall
      have e29 : u 10 = .pointer none := relAll_at hall (i := 10) (by decide +kernel)
      clear hall
      simp only [List.drop_succ_cons, List.drop_zero, List.take_succ_cons, List.take_zero, putAll, Act.put, List.setIfInBounds_toArray, List.set_cons_zero, List.set_cons_succ, Nat.zero_add, Nat.reduceAdd, e29]
      have HL5 := hide (HL4.out.below pxMono hb7)
      have HB5 := hide (HB4.out.trans (hb7.mono HB4.out.size))
      clear hb7
      go_wp2
      go_roundw
      case rel => exact .inr ⟨rfl, A', c', rfl, HL5.out, HB5.out⟩
      case measure => simp
    · have HL := hide hl
      have HB := hide hbl
      clear hl hbl
      go_upto_region 3 with fail
      have Hmn := hide (show AllMono [(fun v _ => v = .pointer none), (fun v _ => v = .bool false), (fun v _ => v = .bool false), (fun v _ => v = undef), (fun v _ => v = undef), (fun v _ => v = undef), (fun v _ => v = undef), (fun v _ => v = undef), (fun v _ => v = undef), (fun v _ => v = .bool false)] from ⟨fun _ _ _ _ h => h, fun _ _ _ _ h => h, fun _ _ _ _ h => h, fun _ _ _ _ h => h, fun _ _ _ _ h => h, fun _ _ _ _ h => h, fun _ _ _ _ h => h, fun _ _ _ _ h => h, fun _ _ _ _ h => h, fun _ _ _ _ h => h, trivial⟩)
      refine wp_region_rel _ (by kernel_rfl) (by kernel_rfl) (relMono _ Hmn.out) ⟨?_, ?_, ?_, ?_, ?_, ?_, ?_, ?_, ?_, ?_, trivial⟩ ?_
      · refine relStep_plain rfl ?_
        intro Ac w5 hp
        have hb := hp.bel
        have a6 : Ac.eval (.tmp 6) = .pointer none := hp.out 6 (by rfl)
        have hc := evalC Ac; have hf := evalF Ac; have hgl := evalG Ac
        obtain ⟨ρ, hρ⟩ : ∃ ρ, Ac.eval = ρ := ⟨_, rfl⟩
        rw [hρ] at a6 hc hf hgl
        exact relPure hρ (.pointer none) (by simp [go_sem, hc, hf, hgl, ↓IntWalk.iteOmega, a6, *]) rfl
      · refine relStep_plain rfl ?_
        intro Ac w5 hp
        have hb := hp.bel
        have a9 : Ac.eval (.tmp 9) = .pointer none := hp.dep 0 (by kernel_rfl)
        have hc := evalC Ac; have hf := evalF Ac; have hgl := evalG Ac
        obtain ⟨ρ, hρ⟩ : ∃ ρ, Ac.eval = ρ := ⟨_, rfl⟩
        rw [hρ] at a9 hc hf hgl
        exact relPure hρ (.bool false) (by simp [go_sem, hc, hf, hgl, ↓IntWalk.iteOmega, a9, *]) rfl
      · refine relStep_plain rfl ?_
        intro Ac w5 hp
        have hb := hp.bel
        have a10 : Ac.eval (.tmp 10) = .bool false := hp.dep 1 (by kernel_rfl)
        have hc := evalC Ac; have hf := evalF Ac; have hgl := evalG Ac
        obtain ⟨ρ, hρ⟩ : ∃ ρ, Ac.eval = ρ := ⟨_, rfl⟩
        rw [hρ] at a10 hc hf hgl
        exact relPure hρ (.bool false) (by simp [go_sem, hc, hf, hgl, ↓IntWalk.iteOmega, a10, *]) rfl
      · refine relStep_guard (g := 2) (b := true) (x := false) rfl (by kernel_rfl) rfl (by kernel_rfl) rfl (fun _ _ h => h) ?_
        exact fun _ => rfl
      · refine relStep_guard (g := 2) (b := true) (x := false) rfl (by kernel_rfl) rfl (by kernel_rfl) rfl (fun _ _ h => h) ?_
        exact fun _ => rfl
      · refine relStep_guard (g := 2) (b := true) (x := false) rfl (by kernel_rfl) rfl (by kernel_rfl) rfl (fun _ _ h => h) ?_
        exact fun _ => rfl
      · refine relStep_guard (g := 2) (b := true) (x := false) rfl (by kernel_rfl) rfl (by kernel_rfl) rfl (fun _ _ h => h) ?_
        exact fun _ => rfl
      · refine relStep_guard (g := 2) (b := true) (x := false) rfl (by kernel_rfl) rfl (by kernel_rfl) rfl (fun _ _ h => h) ?_
        exact fun _ => rfl
      · refine relStep_guard (g := 2) (b := true) (x := false) rfl (by kernel_rfl) rfl (by kernel_rfl) rfl (fun _ _ h => h) ?_
        exact fun _ => rfl
      · refine relStep_plain rfl ?_
        intro Ac w5 hp
        have hb := hp.bel
        have a11 : Ac.eval (.tmp 11) = .bool false := hp.dep 2 (by kernel_rfl)
        have hc := evalC Ac; have hf := evalF Ac; have hgl := evalG Ac
        obtain ⟨ρ, hρ⟩ : ∃ ρ, Ac.eval = ρ := ⟨_, rfl⟩
        rw [hρ] at a11 hc hf hgl
        exact relPure hρ (.bool false) (by simp [go_sem, hc, hf, hgl, ↓IntWalk.iteOmega, a11, *]) rfl
      intro u w2 hb7 hall
      have e18 : u 9 = .bool false := relAll_at hall (i := 9) (by decide +kernel)
      clear hall
      simp only [List.drop_succ_cons, List.drop_zero, List.take_succ_cons, List.take_zero, putAll, Act.put, List.setIfInBounds_toArray, List.set_cons_zero, List.set_cons_succ, Nat.zero_add, Nat.reduceAdd, e18]
      have HL2 := hide (HL.out.below pxMono hb7)
      have HB2 := hide (HB.out.trans (hb7.mono HB.out.size))
      clear hb7
      go_wp2
      go_ret
      exact ⟨A', c', rfl, HL2.out, HB2.out⟩
set_option maxRecDepth 100000 in
set_option maxHeartbeats 8000000 in
theorem aboveE_no (g nb p m a n : Nat) (v0 : Value) (w : World) (hP : PG p m) (hA : PG a n) (hwi : (covB p (m : Int) a (n : Int) && !decide (a = p ∧ (n : Int) = (m : Int))) = false) (hbit : bitN a m = 0) (hm : m ≤ 31) (hg : Blk w g 219 #[.pointer (some ⟨nb, 0, none⟩)]) (hk : Blk w nb 226 (ndC p m [v0] true 1 (.pointer none) (.pointer none))) :
    Calls Tryz.prog 163 #[.pointer (some ⟨g, 0, none⟩), .agg #[.int .u32 (a : Int), .int .i64 (n : Int)]] w fun e w' => e = .returned (.slice none 0 0) ∧ Below w.heap.size w w' := by
  obtain ⟨i0, hi, hz0, hz1, hz2⟩ := info_parts pxInfo
  obtain ⟨w1, hw1⟩ : ∃ w1, w.alloc (.cells #[.int .u32 (a : Int), .int .i64 (n : Int)] 24) = w1 := ⟨_, rfl⟩
  have hb1 : Below w.heap.size w w1 := hw1 ▸ blkBelow1 w _
  have HX : Hid (Blk w1 w.heap.size 24 #[.int .u32 (a : Int), .int .i64 (n : Int)]) := hide (hw1 ▸ Blk.new w _ _)
  have HK := hide (hk.below hb1 hk.lt)
  have HTp := hide (topE_any (α := Nat) g (.nd nb p m (some 0) .nil .nil) w1 (hg.below hb1 hg.lt))
  have HWi := hide (fun W => Within_any a (n : Int) p (m : Int) hA.1 hP.1 (by omega) (by have := hA.2.1; omega) (by omega) (by omega) W)
  rw [hwi] at HWi
  unfold pfx at HWi
  have HSd := hide (fun W => side_any p m a n hA.1 hm W)
  have HBit := hide hbit
  have HB1 := hide hb1
  have HW1 := hide hw1
  clear hw1 hb1 hg hk hwi hbit hP hA
  go_enter Tryz.func163, Tryz.ntmps163
  go_wp2_with fail
  rw [HW1.out]
  refine HTp.out.mono ?_
  rintro e w1' ⟨rfl, rfl⟩
  have e0 : trPtr (.nd nb p m (some (0 : Nat)) .nil .nil : Tr Nat) = .pointer (some ⟨nb, 0, none⟩) := rfl
  rw [e0]
  clear e0
  go_wp2
  obtain ⟨w1, hq1⟩ : ∃ w1, w1' = w1 := ⟨_, rfl⟩
  subst hq1
  go_loopw [5, 6] (fun vo vn wr => (vo = .slice none 0 0 ∧ vn = .pointer (some ⟨nb, 0, none⟩) ∧ wr = w1')) (fun _ vn _ => match vn with | .pointer (some _) => 1 | _ => 0)
  case atStart => exact ⟨rfl, rfl, rfl⟩
  case round =>
    obtain ⟨rfl, rfl, hwr⟩ := hrel
    · have hwr' := hwr.symm
      subst hwr'
      clear hwr
      have HKr := hide HK.out
      have HXr := hide HX.out
      go_upto_region 3 with fail
      have Hmn := hide (show AllMono [(fun v _ => v = .pointer (some ⟨nb, 0, none⟩)), (fun v _ => v = .bool true), (fun v _ => v = .bool true), (fun v _ => v = .agg #[.int .u32 (a : Int), .int .i64 (n : Int)]), (fun v _ => v = .pointer (some ⟨nb, 0, none⟩)), (fun v _ => v = .pointer (some ⟨nb, 0, none⟩)), (fun v _ => v = .pointer (some ⟨nb, 0, none⟩)), (fun v _ => v = .agg #[.int .u32 (p : Int), .int .i64 (m : Int)]), (fun v _ => v = .bool false), (fun v _ => v = .bool false)] from ⟨fun _ _ _ _ h => h, fun _ _ _ _ h => h, fun _ _ _ _ h => h, fun _ _ _ _ h => h, fun _ _ _ _ h => h, fun _ _ _ _ h => h, fun _ _ _ _ h => h, fun _ _ _ _ h => h, fun _ _ _ _ h => h, fun _ _ _ _ h => h, trivial⟩)
      refine wp_region_rel _ (by kernel_rfl) (by kernel_rfl) (relMono _ Hmn.out) ⟨?_, ?_, ?_, ?_, ?_, ?_, ?_, ?_, ?_, ?_, trivial⟩ ?_
      · refine relStep_plain rfl ?_
        intro Ac w5 hp
        have hb := hp.bel
        have a6 : Ac.eval (.tmp 6) = .pointer (some ⟨nb, 0, none⟩) := hp.out 6 (by rfl)
        have hc := evalC Ac; have hf := evalF Ac; have hgl := evalG Ac
        obtain ⟨ρ, hρ⟩ : ∃ ρ, Ac.eval = ρ := ⟨_, rfl⟩
        rw [hρ] at a6 hc hf hgl
        exact relPure hρ (.pointer (some ⟨nb, 0, none⟩)) (by simp [go_sem, hc, hf, hgl, ↓IntWalk.iteOmega, a6, *]) rfl
      · refine relStep_plain rfl ?_
        intro Ac w5 hp
        have hb := hp.bel
        have a9 : Ac.eval (.tmp 9) = .pointer (some ⟨nb, 0, none⟩) := hp.dep 0 (by kernel_rfl)
        have hc := evalC Ac; have hf := evalF Ac; have hgl := evalG Ac
        obtain ⟨ρ, hρ⟩ : ∃ ρ, Ac.eval = ρ := ⟨_, rfl⟩
        rw [hρ] at a9 hc hf hgl
        exact relPure hρ (.bool true) (by simp [go_sem, hc, hf, hgl, ↓IntWalk.iteOmega, a9, *]) rfl
      · refine relStep_plain rfl ?_
        intro Ac w5 hp
        have hb := hp.bel
        have a10 : Ac.eval (.tmp 10) = .bool true := hp.dep 1 (by kernel_rfl)
        have hc := evalC Ac; have hf := evalF Ac; have hgl := evalG Ac
        obtain ⟨ρ, hρ⟩ : ∃ ρ, Ac.eval = ρ := ⟨_, rfl⟩
        rw [hρ] at a10 hc hf hgl
        exact relPure hρ (.bool true) (by simp [go_sem, hc, hf, hgl, ↓IntWalk.iteOmega, a10, *]) rfl
      · refine relStep_guard (g := 2) (b := true) (x := true) rfl (by kernel_rfl) rfl (by kernel_rfl) rfl (fun _ _ h => h) ?_
        intro Ac w5 hp
        have hb := hp.bel
        have a3 : Ac.eval (.tmp 3) = .pointer (some ⟨w.heap.size, 0, none⟩) := hp.out 3 (by rfl)
        have hx5 := HXr.out.below hb HXr.out.lt
        have x0 : w5.cell? ⟨w.heap.size, 0, none⟩ = some (.int .u32 (a : Int)) := hx5.cell 0
        have x1 : w5.cell? ⟨w.heap.size, 1, none⟩ = some (.int .i64 (n : Int)) := hx5.cell 1
        have hc := evalC Ac; have hf := evalF Ac; have hgl := evalG Ac
        obtain ⟨ρ, hρ⟩ : ∃ ρ, Ac.eval = ρ := ⟨_, rfl⟩
        rw [hρ] at a3 hc hf hgl
        exact relPure hρ (.agg #[.int .u32 (a : Int), .int .i64 (n : Int)]) (by simp [go_sem, hc, hf, hgl, ↓IntWalk.iteOmega, a3, *]) rfl
      · refine relStep_guard (g := 2) (b := true) (x := true) rfl (by kernel_rfl) rfl (by kernel_rfl) rfl (fun _ _ h => h) ?_
        intro Ac w5 hp
        have hb := hp.bel
        have a6 : Ac.eval (.tmp 6) = .pointer (some ⟨nb, 0, none⟩) := hp.out 6 (by rfl)
        have hc := evalC Ac; have hf := evalF Ac; have hgl := evalG Ac
        obtain ⟨ρ, hρ⟩ : ∃ ρ, Ac.eval = ρ := ⟨_, rfl⟩
        rw [hρ] at a6 hc hf hgl
        exact relPure hρ (.pointer (some ⟨nb, 0, none⟩)) (by simp [go_sem, hc, hf, hgl, ↓IntWalk.iteOmega, a6, *]) rfl
      · refine relStep_guard (g := 2) (b := true) (x := true) rfl (by kernel_rfl) rfl (by kernel_rfl) rfl (fun _ _ h => h) ?_
        intro Ac w5 hp
        have hb := hp.bel
        have a13 : Ac.eval (.tmp 13) = .pointer (some ⟨nb, 0, none⟩) := hp.dep 4 (by kernel_rfl)
        have hc := evalC Ac; have hf := evalF Ac; have hgl := evalG Ac
        obtain ⟨ρ, hρ⟩ : ∃ ρ, Ac.eval = ρ := ⟨_, rfl⟩
        rw [hρ] at a13 hc hf hgl
        exact relPure hρ (.pointer (some ⟨nb, 0, none⟩)) (by simp [go_sem, hc, hf, hgl, ↓IntWalk.iteOmega, a13, *]) rfl
      · refine relStep_guard (g := 2) (b := true) (x := true) rfl (by kernel_rfl) rfl (by kernel_rfl) rfl (fun _ _ h => h) ?_
        intro Ac w5 hp
        have hb := hp.bel
        have a14 : Ac.eval (.tmp 14) = .pointer (some ⟨nb, 0, none⟩) := hp.dep 5 (by kernel_rfl)
        have hc := evalC Ac; have hf := evalF Ac; have hgl := evalG Ac
        obtain ⟨ρ, hρ⟩ : ∃ ρ, Ac.eval = ρ := ⟨_, rfl⟩
        rw [hρ] at a14 hc hf hgl
        exact relPure hρ (.pointer (some ⟨nb, 0, none⟩)) (by simp [go_sem, hc, hf, hgl, ↓IntWalk.iteOmega, a14, *]) rfl
      · refine relStep_guard (g := 2) (b := true) (x := true) rfl (by kernel_rfl) rfl (by kernel_rfl) rfl (fun _ _ h => h) ?_
        intro Ac w5 hp
        have hb := hp.bel
        have a15 : Ac.eval (.tmp 15) = .pointer (some ⟨nb, 0, none⟩) := hp.dep 6 (by kernel_rfl)
        have hk5 := HKr.out.below hb HKr.out.lt
        have y0 : w5.cell? ⟨nb, 0, none⟩ = some (.int .u32 (p : Int)) := hk5.cell 0
        have y1 : w5.cell? ⟨nb, 1, none⟩ = some (.int .i64 (m : Int)) := hk5.cell 1
        have y5 : w5.cell? ⟨nb, 5, none⟩ = some (.pointer none) := hk5.cell 5
        have hc := evalC Ac; have hf := evalF Ac; have hgl := evalG Ac
        obtain ⟨ρ, hρ⟩ : ∃ ρ, Ac.eval = ρ := ⟨_, rfl⟩
        rw [hρ] at a15 hc hf hgl
        exact relPure hρ (.agg #[.int .u32 (p : Int), .int .i64 (m : Int)]) (by simp [go_sem, hc, hf, hgl, ↓IntWalk.iteOmega, a15, *]) rfl
      · refine relStep_guard (g := 2) (b := true) (x := true) rfl (by kernel_rfl) rfl (by kernel_rfl) rfl (fun _ _ h => h) ?_
        intro Ac w5 hp
        have hb := hp.bel
        have a12 : Ac.eval (.tmp 12) = .agg #[.int .u32 (a : Int), .int .i64 (n : Int)] := hp.dep 3 (by kernel_rfl)
        have a16 : Ac.eval (.tmp 16) = .agg #[.int .u32 (p : Int), .int .i64 (m : Int)] := hp.dep 7 (by kernel_rfl)
        have hc := evalC Ac; have hf := evalF Ac; have hgl := evalG Ac
        obtain ⟨ρ, hρ⟩ : ∃ ρ, Ac.eval = ρ := ⟨_, rfl⟩
        rw [hρ] at a12 a16 hc hf hgl
        refine relCall hρ 207 #[.agg #[.int .u32 (a : Int), .int .i64 (n : Int)], .agg #[.int .u32 (p : Int), .int .i64 (m : Int)]] (by simp [go_sem, hc, hf, hgl, ↓IntWalk.iteOmega, a12, a16, *]) ?_
        refine (HWi.out w5).mono ?_
        rintro e w6 ⟨rfl, hb6⟩
        exact ⟨_, rfl, rfl, hb6⟩
      · refine relStep_plain rfl ?_
        intro Ac w5 hp
        have hb := hp.bel
        have a11 : Ac.eval (.tmp 11) = .bool true := hp.dep 2 (by kernel_rfl)
        have a17 : Ac.eval (.tmp 17) = .bool false := hp.dep 8 (by kernel_rfl)
        have hc := evalC Ac; have hf := evalF Ac; have hgl := evalG Ac
        obtain ⟨ρ, hρ⟩ : ∃ ρ, Ac.eval = ρ := ⟨_, rfl⟩
        rw [hρ] at a11 a17 hc hf hgl
        exact relPure hρ (.bool false) (by simp [go_sem, hc, hf, hgl, ↓IntWalk.iteOmega, a11, a17, *]) rfl
      intro u w2 hb7 hall
      have e18 : u 9 = .bool false := relAll_at hall (i := 9) (by decide +kernel)
      clear hall
      simp only [List.drop_succ_cons, List.drop_zero, List.take_succ_cons, List.take_zero, putAll, Act.put, List.setIfInBounds_toArray, List.set_cons_zero, List.set_cons_succ, Nat.zero_add, Nat.reduceAdd, e18]
      have HB2 := hide (HB1.out.trans (hb7.mono HB1.out.size))
      clear hb7
      go_wp2
      go_ret
      exact ⟨rfl, HB2.out⟩
end Go.Proofs.YtcinjckajnnhmaaGreat
set_option linter.unusedSimpArgs false
set_option linter.unusedVariables false
namespace Go.Proofs.YtcinjckajnnhmaaGreat
open Go.RowKit Go.WideShapes Go.ChangeShapes
attribute [local go_sem] Oper.semAt_some
theorem pxOne : SOne pxR := by
  rintro w vs x rfl u hu
  rcases List.mem_cons.1 hu with rfl | h
  · rfl
  · rcases List.mem_cons.1 h with rfl | h
    · rfl
    · simp at h
theorem pxLike : SLike pxR := fun _ _ _ _ _ h => h
set_option maxRecDepth 100000 in
set_option maxHeartbeats 4000000 in
theorem pgrow_nil (n : Nat) (hn : n ≤ 100000) (w : World) : Calls Tryz.prog 212 #[.slice none 0 0, .int .i64 (n : Int)] w fun e w' =>
    ∃ A c, e = .returned (.slice A 0 c) ∧ w'.ownsRow w.heap.size 24 2 (.slice A 0 c) 0 [] ∧ Below w.heap.size w w' := by
  obtain ⟨i0, hi, hz0, hz1, hz2⟩ := info_parts pxInfo
  have t0 : decide ((n : Int) < 0) = false := by simp
  have hw : IntKind.i64.wrap (n : Int) = (n : Int) := by rw [IntKind.wrap_i64]; omega
  by_cases h0 : n = 0
  · subst h0
    go_enter Tryz.func212, Tryz.ntmps212
    go_wp2
    go_ret
    exact ⟨none, 0, rfl, World.ownsRow_nil _ _ _ _, Below.refl _ _⟩
  · have hpos : 0 < n := by omega
    have hrz : ∀ ty, (Builtin.append_ #[45, 3] ty #[.slice none 0 0, .int .i64 (n : Int)]).run Tryz.prog w =
        .ok (.slice (some ⟨w.heap.size, 0, none⟩) n (grownCap w n 0 24)) (w.drew.alloc (.cells (#[] ++ Builtin.zeroCells (Value.agg #[.int .u32 0, .int .i64 0]).cells n ++ Builtin.zeroCells (Value.agg #[.int .u32 0, .int .i64 0]).cells (grownCap w n 0 24 - n)) 24)) := fun ty => by
      have h := Lib.run_append_grow_zeros (P := Tryz.prog) w 45 3 ty 24 i0 _ .i64 .i64 Tryz.underlying45 Tryz.underlying3 hi hz0 none 0 0 [] (run_firstCells_none w.drew i0.size 0 0 0) n hpos (by omega) (by omega) (by omega) (by rw [hz2]; omega) (by rw [Nat.zero_add, hz2]; exact growslice_fits (by omega) (by omega))
      simp only [Nat.zero_add] at h
      exact h
    have hge := grownCap_ge w n 0 24
    have hle := grownCap_le_maxLen w n 0 24 (by unfold maxLen; omega)
    obtain ⟨G, hG⟩ : ∃ G, grownCap w n 0 24 = G := ⟨_, rfl⟩
    rw [hG] at hge hle
    simp only [hG] at hrz
    have hle2 : G ≤ 9223372036854775807 := by unfold maxLen at hle; omega
    have hd0 : decide (0 < (n : Int)) = true := by simp; omega
    clear hG
    go_enter Tryz.func212, Tryz.ntmps212
    go_wp2_with (at_builtin; refine Lib.wpList_append_run _ rfl _ _ _ _ rfl _ _ rfl rfl _ _ (hrz _) ?_)
    all_goals (go_ret; exact ⟨_, _, rfl, ⟨rfl, .inr ⟨w.heap.size, G, _, rfl, Nat.le_refl _, heap_alloc_new w.drew _, Nat.zero_le _, hle, by simp [Builtin.zeroCells]; omega, by simp⟩⟩, (Below.refl _ w).trans ((below_drew (w := w)).alloc (Nat.le_refl _) _)⟩)
def pcat2 (l1 l2 : List (Nat × Nat)) (q : Nat) : List (Nat × Nat) := if q = 0 then [] else if q = 1 then l1 else l1 ++ l2
/-- Rows that lie, as what an append reads: beside a block that does not lie yet. -/
theorem px_src {w : World} {A : Option Addr} {n c : Nat} {l : List (Nat × Nat)} (h : LstAt 2 pxR w A n c l) : ∃ ys : List Value, ∀ wr, Below w.heap.size w wr → ∀ v : Value, (∀ k, v.ownBlock = some k → w.heap.size ≤ k) →
    Reads wr wr.heap.size 2 A n ys ∧ Chunks 2 (fun w vs x => FrB 0 v.ownBlock (fun w => pxR w vs x) w) wr ys l ∧ ∀ u ∈ ys, u.oneCell' = true := by
  obtain ⟨ys, hr, hc⟩ := h.reads (by decide)
  refine ⟨ys, fun wr hb v hv => ⟨?_, chunks_fr_below (chunks_fr pxLike hc hv) hb, Chunks.ones pxOne hc (by decide)⟩⟩
  refine ⟨hr.1, fun hn => ?_⟩
  obtain ⟨ad, hA, hlt, hcell⟩ := hr.2 hn
  exact ⟨ad, hA, Nat.lt_of_lt_of_le hlt hb.size, fun j u hu => (hb.cell (by unfold Addr.add; split <;> exact hlt)).trans (hcell j u hu)⟩
set_option maxRecDepth 100000 in
set_option maxHeartbeats 4000000 in
theorem pconcat2_any (A1 A2 : Option Addr) (n1 c1 n2 c2 R : Nat) (l1 l2 : List (Nat × Nat)) (w : World) (hR : Blk w R 45 #[.slice A1 n1 c1, .slice A2 n2 c2]) (h1 : LstAt 2 pxR w A1 n1 c1 l1) (h2 : LstAt 2 pxR w A2 n2 c2 l2) (b1 : n1 ≤ 10000) (b2 : n2 ≤ 10000) :
    Calls Tryz.prog 168 #[.slice (some ⟨R, 0, none⟩) 2 2] w fun e w' => ∃ A n c xs, e = .returned (.slice A n c) ∧ LOw 2 24 pxR w' w.heap.size 0 A n c (l1 ++ l2) xs ∧ Below w.heap.size w w' := by
  obtain ⟨i0, hi, hz0, hz1, hz2⟩ := info_parts pxInfo
  obtain ⟨ys1, s1⟩ := px_src h1
  obtain ⟨ys2, s2⟩ := px_src h2
  have S1 := hide s1
  have S2 := hide s2
  have HLl1 := hide h1.1
  have HLl2 := hide h2.1
  have HR := hide hR
  have hRl := hR.lt
  have r0 : w.cell? ⟨R, 0, none⟩ = some (.slice A1 n1 c1) := hR.cell 0
  have r1 : w.cell? ⟨R, 1, none⟩ = some (.slice A2 n2 c2) := hR.cell 1
  have HG := hide (pgrow_nil (n1 + n2) (by omega) w)
  have hw1 : IntKind.i64.wrap (n1 : Int) = (n1 : Int) := by rw [IntKind.wrap_i64]; omega
  have hw2 : IntKind.i64.wrap ((n1 : Int) + (n2 : Int)) = ((n1 + n2 : Nat) : Int) := by rw [IntKind.wrap_i64]; omega
  have p1 : decide ((n1 : Int) < 0) = false := by simp
  have p2 : decide (((n1 + n2 : Nat) : Int) < 0) = false := decide_eq_false (by omega)
  clear h1 h2 hR s1 s2
  go_enter Tryz.func168, Tryz.ntmps168
  go_wp2
  go_loopw [3, 11] (fun sv iv wr => wr = w ∧ ((iv = .int .i64 0 ∧ sv = .int .i64 0) ∨ (iv = .int .i64 1 ∧ sv = .int .i64 (n1 : Nat)) ∨ (iv = .int .i64 2 ∧ sv = .int .i64 ((n1 + n2 : Nat) : Int)))) (fun _ iv _ => 2 - (intOf iv).toNat)
  case atStart => exact ⟨rfl, .inl ⟨rfl, rfl⟩⟩
  case round =>
    obtain ⟨hwr, hc⟩ := hrel
    obtain rfl : w = wr := hwr.symm
    rcases hc with ⟨rfl, rfl⟩ | ⟨rfl, rfl⟩ | ⟨rfl, rfl⟩
    · go_wp2
      go_roundw
      case rel => first | exact ⟨trivial, .inr (.inl ⟨rfl, rfl⟩)⟩ | exact ⟨rfl, .inr (.inl ⟨rfl, rfl⟩)⟩
      case measure => simp [intOf]
    · go_wp2
      go_roundw
      case rel => first | exact ⟨trivial, .inr (.inr ⟨rfl, rfl⟩)⟩ | exact ⟨rfl, .inr (.inr ⟨rfl, rfl⟩)⟩
      case measure => simp [intOf]
    · go_wp2_with fail
      refine HG.out.mono ?_
      rintro e w3 ⟨A0, c0, rfl, hown, hb⟩
      have HL0 : Hid (LOw 2 24 pxR w3 w.heap.size 0 A0 0 c0 (pcat2 l1 l2 0) []) := hide ⟨hown, by simp [pcat2], fun k x hk => by simp [pcat2] at hk⟩
      have HB3 := hide hb
      have hs3 := hb.size
      clear hown hb r0 r1 hw1 hw2 p1 p2
      go_wp2
      go_loopw [6, 27] (fun vo iv w4 => ∃ (q : Nat) (A : Option Addr) (n c : Nat) (xs : List Value), q ≤ 2 ∧ iv = .int .i64 (q : Nat) ∧ vo = .slice A n c ∧ LOw 2 24 pxR w4 w.heap.size 0 A n c (pcat2 l1 l2 q) xs ∧ Below w.heap.size w w4) (fun _ iv _ => 2 - (intOf iv).toNat)
      case atStart => exact ⟨0, A0, 0, c0, [], by omega, rfl, rfl, HL0.out, HB3.out⟩
      case round =>
        obtain ⟨q, A, n, c, xs, hq, rfl, rfl, hlo, hbel⟩ := hrel
        have hlen := (hlo.lst (by decide)).1
        have r0 : wr.cell? ⟨R, 0, none⟩ = some (.slice A1 n1 c1) := (hbel.cell hRl).trans (HR.out.cell 0)
        have r1 : wr.cell? ⟨R, 1, none⟩ = some (.slice A2 n2 c2) := (hbel.cell hRl).trans (HR.out.cell 1)
        have hsz := hbel.size
        obtain rfl | rfl | rfl : q = 0 ∨ q = 1 ∨ q = 2 := by omega
        · have hn0 : (pcat2 l1 l2 0).length = n := hlen
          have hcat : pcat2 l1 l2 0 ++ l1 = pcat2 l1 l2 1 := by simp [pcat2]
          obtain ⟨hr, hch, ho⟩ := S1.out wr hbel (.slice A n c) (own_low_block hlo.1)
          have hnn : n ≤ 10000 := by rw [← hn0]; simp [pcat2]
          have HLo := hide hlo
          have HBe := hide hbel
          have HRd := hide hr
          have HCh := hide hch
          have HOn := hide ho
          have HCat := hide hcat
          clear hlo hbel hr hch ho hn0 hlen hcat
          go_wp2_with (at_builtin; refine wpList_append_any _ rfl (.tmp 31) (.tmp 32) 45 rfl w.heap.size 24 i0 _ 2 16 Tryz.underlying45 hi hz0 hz1 hz2 rfl (by decide) (.slice A n c) n xs rfl HLo.out.1 _ A1 n1 c1 ys1 rfl HRd.out HOn.out (by unfold maxLen; omega) (by omega) (by omega) ?_; intro v' w7 g2 g3 g4; have HB7 := hide (HBe.out.grown g3 (by omega) (fun k hk => own_low_block HLo.out.1 k hk)); obtain ⟨A7, c7, rfl, hlo7⟩ := LOw.push HLo.out HCh.out g2 g3 g4; rw [HCat.out] at hlo7; have HL7 := hide hlo7; clear hlo7 g2 g3 g4)
          go_roundw
          case rel => exact ⟨1, A7, n + n1, c7, xs ++ ys1, by omega, rfl, rfl, HL7.out, HB7.out⟩
          case measure => simp [intOf]
        · have hn0 : (pcat2 l1 l2 1).length = n := hlen
          have hcat : pcat2 l1 l2 1 ++ l2 = pcat2 l1 l2 2 := by simp [pcat2]
          obtain ⟨hr, hch, ho⟩ := S2.out wr hbel (.slice A n c) (own_low_block hlo.1)
          have hnn : n ≤ 10000 := by rw [← hn0]; simp [pcat2]; have := HLl1.out; omega
          have HLo := hide hlo
          have HBe := hide hbel
          have HRd := hide hr
          have HCh := hide hch
          have HOn := hide ho
          have HCat := hide hcat
          clear hlo hbel hr hch ho hn0 hlen hcat
          go_wp2_with (at_builtin; refine wpList_append_any _ rfl (.tmp 31) (.tmp 32) 45 rfl w.heap.size 24 i0 _ 2 16 Tryz.underlying45 hi hz0 hz1 hz2 rfl (by decide) (.slice A n c) n xs rfl HLo.out.1 _ A2 n2 c2 ys2 rfl HRd.out HOn.out (by unfold maxLen; omega) (by omega) (by omega) ?_; intro v' w7 g2 g3 g4; have HB7 := hide (HBe.out.grown g3 (by omega) (fun k hk => own_low_block HLo.out.1 k hk)); obtain ⟨A7, c7, rfl, hlo7⟩ := LOw.push HLo.out HCh.out g2 g3 g4; rw [HCat.out] at hlo7; have HL7 := hide hlo7; clear hlo7 g2 g3 g4)
          go_roundw
          case rel => exact ⟨2, A7, n + n2, c7, xs ++ ys2, by omega, rfl, rfl, HL7.out, HB7.out⟩
          case measure => simp [intOf]
        · have HLo : Hid (LOw 2 24 pxR wr w.heap.size 0 A n c (l1 ++ l2) xs) := hide (by simpa [pcat2] using hlo)
          have HBe := hide hbel
          clear hlo hbel hlen r0 r1
          go_wp2
          go_ret
          exact ⟨A, n, c, xs, rfl, HLo.out, HBe.out⟩
end Go.Proofs.YtcinjckajnnhmaaGreat
set_option linter.unusedSimpArgs false
set_option linter.unusedVariables false
namespace Go.Proofs.YtcinjckajnnhmaaGreat
open Go.RowKit Go.WideShapes Go.ChangeShapes
attribute [local go_sem] Oper.semAt_some
theorem trw_blk {α : Type} {sz : Nat} {T : TypeId} {F : Nat → Prop} {R : World → List Value → α → Prop} {w : World} : ∀ {t : Tr α}, TrW sz T F R w t → ∀ k ∈ trB t, ∃ cs, Blk w k T cs
  | .nil, _, k, hk => by simp [trB] at hk
  | .nd b a n v l r, h, k, hk => by
    simp only [trB] at hk
    rcases List.mem_cons.1 hk with rfl | hk
    · obtain ⟨vs, _, hb, _⟩ := h.1
      exact ⟨_, hb⟩
    · rcases List.mem_append.1 hk with hk | hk
      · exact trw_blk h.2.1 k hk
      · exact trw_blk h.2.2 k hk
/-- Nothing is told of a value. -/
def RU (_ : World) (_ : List Value) (_ : Nat) : Prop := True
def RE (en : Nat) (_ : World) (vs : List Value) (_ : Nat) : Prop := vs = [.pointer (some ⟨en, 0, none⟩)]
theorem ru_frs {w : World} {vs : List Value} : FrS (fun _ => False) none (fun w => RU w vs 0) w := fun _ _ => trivial
/-- A track of one aggregate, in memory. -/
structure TK (w : World) (a n tb gE gW gB nb en : Nat) (wt bt : Tr Nat) : Prop where
  ft : Blk w tb 158 #[.slice none 0 0, .slice none 0 0, .slice none 0 0, .slice none 0 0, .pointer (some ⟨gE, 0, none⟩), .pointer (some ⟨gW, 0, none⟩)]
  fe : Blk w gE 219 #[.pointer (some ⟨nb, 0, none⟩)]
  fk : TrA 1 226 (fun _ => False) (RE en) w (.nd nb a n (some 0) .nil .nil)
  fn : Blk w en 165 #[.int .u32 (a : Int), .int .i64 (n : Int), .bool false, .bool false, .string ⟨#[]⟩, .string ⟨#[]⟩, .string ⟨#[]⟩, .pointer (some ⟨gB, 0, none⟩)]
  fb : Blk w gB 192 #[trPtr bt]
  fbt : TrA 1 249 (fun _ => False) RU w bt
  fw : Blk w gW 222 #[trPtr wt]
  fwt : TrA 1 231 (fun _ => False) RU w wt
theorem tra_below {α : Type} {sz : Nat} {T : TypeId} {R : World → List Value → α → Prop} {w w' : World} {t : Tr α} (h : TrA sz T (fun _ => False) R w t) (hb : Below w.heap.size w w') : TrA sz T (fun _ => False) R w' t := h.chg (S := fun _ => False) (chg_below hb) (fun _ _ h => h) (fun _ h => h.elim)
theorem TK.below {w w' : World} {a n tb gE gW gB nb en : Nat} {wt bt : Tr Nat} (h : TK w a n tb gE gW gB nb en wt bt) (hb : Below w.heap.size w w') : TK w' a n tb gE gW gB nb en wt bt :=
  ⟨h.ft.below hb h.ft.lt, h.fe.below hb h.fe.lt, tra_below h.fk hb, h.fn.below hb h.fn.lt, h.fb.below hb h.fb.lt, tra_below h.fbt hb, h.fw.below hb h.fw.lt, tra_below h.fwt hb⟩
theorem TK.nd {w : World} {a n tb gE gW gB nb en : Nat} {wt bt : Tr Nat} (h : TK w a n tb gE gW gB nb en wt bt) : Blk w nb 226 (ndC a n [.pointer (some ⟨en, 0, none⟩)] true 1 (.pointer none) (.pointer none)) := by
  obtain ⟨vs, hv⟩ := h.fk.node
  have h1 : vs = [.pointer (some ⟨en, 0, none⟩)] := hv.val 0 rfl _ ⟨Nat.le_refl _, fun _ _ _ h _ _ => h⟩
  subst h1
  exact hv.blk
theorem TK.pg {w : World} {a n tb gE gW gB nb en : Nat} {wt bt : Tr Nat} (h : TK w a n tb gE gW gB nb en wt bt) : PG a n := h.fk.wf.1
/-- The ways turn. -/
theorem TK.ways {w w' : World} {a n tb gE gW gB nb en : Nat} {wt bt t2 : Tr Nat} (h : TK w a n tb gE gW gB nb en wt bt) (hc : ChgS (fun k => k = gW ∨ k ∈ trB wt) w w') (hg : Blk w' gW 222 #[trPtr t2]) (ht : TrA 1 231 (fun _ => False) RU w' t2) : TK w' a n tb gE gW gB nb en t2 bt := by
  have hn : ∀ {g : Nat} {T : TypeId} {cs : Array Value}, Blk w g T cs → T ≠ 222 → T ≠ 231 → ¬ (g = gW ∨ g ∈ trB wt) := by
    intro g T cs hb h1 h2 h3
    rcases h3 with rfl | h3
    · exact hb.ne_ h.fw h1 rfl
    · obtain ⟨cs2, hb2⟩ := trw_blk h.fwt.mem g h3
      exact hb.ne_ hb2 h2 rfl
  refine ⟨chg_blk hc h.ft (hn h.ft (by decide) (by decide)), chg_blk hc h.fe (hn h.fe (by decide) (by decide)), h.fk.chg hc (fun k hk => ?_) (fun _ h => h.elim), chg_blk hc h.fn (hn h.fn (by decide) (by decide)), chg_blk hc h.fb (hn h.fb (by decide) (by decide)), h.fbt.chg hc (fun k hk => ?_) (fun _ h => h.elim), hg, ht⟩
  · obtain ⟨cs2, hb2⟩ := trw_blk h.fk.mem k hk
    exact hn hb2 (by decide) (by decide)
  · obtain ⟨cs2, hb2⟩ := trw_blk h.fbt.mem k hk
    exact hn hb2 (by decide) (by decide)
/-- What contributes turns. -/
theorem TK.of {w w' : World} {a n tb gE gW gB nb en : Nat} {wt bt t2 : Tr Nat} (h : TK w a n tb gE gW gB nb en wt bt) (hc : ChgS (fun k => k = gB) w w') (hg : Blk w' gB 192 #[trPtr t2]) (ht : TrA 1 249 (fun _ => False) RU w' t2) : TK w' a n tb gE gW gB nb en wt t2 := by
  have hn : ∀ {g : Nat} {T : TypeId} {cs : Array Value}, Blk w g T cs → T ≠ 192 → ¬ (g = gB) := by
    rintro g T cs hb h1 rfl
    exact hb.ne_ h.fb h1 rfl
  refine ⟨chg_blk hc h.ft (hn h.ft (by decide)), chg_blk hc h.fe (hn h.fe (by decide)), h.fk.chg hc (fun k hk => ?_) (fun _ h => h.elim), chg_blk hc h.fn (hn h.fn (by decide)), hg, ht, chg_blk hc h.fw (hn h.fw (by decide)), h.fwt.chg hc (fun k hk => ?_) (fun _ h => h.elim)⟩
  · obtain ⟨cs2, hb2⟩ := trw_blk h.fk.mem k hk
    exact hn hb2 (by decide)
  · obtain ⟨cs2, hb2⟩ := trw_blk h.fwt.mem k hk
    exact hn hb2 (by decide)
set_option maxRecDepth 100000 in
set_option maxHeartbeats 8000000 in
theorem cnew_any (rb a n : Nat) (w : World) (hA : PG a n) (hr : Blk w rb 160 #[.int .u32 (a : Int), .int .i64 (n : Int), .bool false, .bool false, .string ⟨#[]⟩, .string ⟨#[]⟩, .string ⟨#[]⟩]) :
    Calls Tryz.prog 51 #[.agg #[.slice none 0 0, .slice none 0 0, .slice none 0 0, .slice none 0 0], .slice (some ⟨rb, 0, none⟩) 1 1] w fun e w' => ∃ tb gE gW gB nb en, e = .returned (.pointer (some ⟨tb, 0, none⟩)) ∧ TK w' a n tb gE gW gB nb en .nil .nil ∧ Below w.heap.size w w' ∧ w.heap.size ≤ gW ∧ w.heap.size ≤ gB := by
  obtain ⟨w1, hw1⟩ : ∃ w1, w.alloc (.cells #[.slice none 0 0, .slice none 0 0, .slice none 0 0, .slice none 0 0] 38) = w1 := ⟨_, rfl⟩
  have hb1 : Below w.heap.size w w1 := hw1 ▸ blkBelow1 w _
  have HL : Hid (Blk w1 w.heap.size 38 #[.slice none 0 0, .slice none 0 0, .slice none 0 0, .slice none 0 0]) := hide (hw1 ▸ Blk.new w _ _)
  have l0 : w1.cell? ⟨w.heap.size, 0, none⟩ = some (.slice none 0 0) := HL.out.cell 0
  have l1 : w1.cell? ⟨w.heap.size, 1, none⟩ = some (.slice none 0 0) := HL.out.cell 1
  have l2 : w1.cell? ⟨w.heap.size, 2, none⟩ = some (.slice none 0 0) := HL.out.cell 2
  have l3 : w1.cell? ⟨w.heap.size, 3, none⟩ = some (.slice none 0 0) := HL.out.cell 3
  have HR1 := hide (hr.below hb1 hr.lt)
  have HB1 := hide hb1
  have HW1 := hide hw1
  have HA := hide hA
  clear hw1 hb1 hr hA
  go_enter Tryz.func51, Tryz.ntmps51
  go_wp2_with fail
  rw [HW1.out]
  refine (ownLists_zero w1).mono ?_
  rintro e w2 ⟨rfl, hb2⟩
  have HB2 := hide (HB1.out.trans (hb2.mono HB1.out.size))
  have HR2 := hide (HR1.out.below hb2 HR1.out.lt)
  clear hb2 l0 l1 l2 l3
  go_wp2_with fail
  refine (newE_any w2).mono ?_
  rintro e w3 ⟨rfl, hg3, hb3⟩
  obtain ⟨gE, hgE⟩ : ∃ g, w2.heap.size = g := ⟨_, rfl⟩
  have HgEl : Hid (w.heap.size ≤ gE) := hide (hgE ▸ HB2.out.size)
  rw [hgE] at hg3
  rw [hgE]
  have HE3 := hide hg3
  have HB3 := hide (HB2.out.trans (hb3.mono HB2.out.size))
  have HR3 := hide (HR2.out.below hb3 HR2.out.lt)
  clear hb3 hg3
  go_wp2_with fail
  refine (newP_any w3).mono ?_
  rintro e w4 ⟨rfl, hg4, hb4⟩
  obtain ⟨gW, hgW⟩ : ∃ g, w3.heap.size = g := ⟨_, rfl⟩
  have HgWl : Hid (w.heap.size ≤ gW) := hide (hgW ▸ HB3.out.size)
  rw [hgW] at hg4
  rw [hgW]
  have HWy4 := hide hg4
  have HB4 := hide (HB3.out.trans (hb4.mono HB3.out.size))
  have HR4 := hide (HR3.out.below hb4 HR3.out.lt)
  have HE4 := hide (HE3.out.below hb4 HE3.out.lt)
  clear hb4 hg4
  go_upto_region 2 with fail
  obtain ⟨w5, hw5⟩ : ∃ w5, w4.alloc (.cells #[.slice none 0 0, .slice none 0 0, .slice none 0 0, .slice none 0 0, .pointer (some ⟨gE, 0, none⟩), .pointer (some ⟨gW, 0, none⟩)] 158) = w5 := ⟨_, rfl⟩
  change Code.wp _ _ _ _ (w4.alloc (.cells #[.slice none 0 0, .slice none 0 0, .slice none 0 0, .slice none 0 0, .pointer (some ⟨gE, 0, none⟩), .pointer (some ⟨gW, 0, none⟩)] 158))
  rw [hw5]
  have hb5 : Below w4.heap.size w4 w5 := hw5 ▸ blkBelow1 w4 _
  obtain ⟨tb, htb⟩ : ∃ g, w4.heap.size = g := ⟨_, rfl⟩
  have HT5 : Hid (Blk w5 tb 158 #[.slice none 0 0, .slice none 0 0, .slice none 0 0, .slice none 0 0, .pointer (some ⟨gE, 0, none⟩), .pointer (some ⟨gW, 0, none⟩)]) := hide (htb ▸ hw5 ▸ Blk.new w4 _ _)
  have HB5 := hide (HB4.out.trans (hb5.mono HB4.out.size))
  have HR5 := hide (HR4.out.below hb5 HR4.out.lt)
  have HE5 := hide (HE4.out.below hb5 HE4.out.lt)
  have HWy5 := hide (HWy4.out.below hb5 HWy4.out.lt)
  rw [htb]
  clear hb5 hw5 htb
  go_wp2
  go_loopw [18] (fun iv wr => (iv = .int .i64 0 ∧ wr = w5) ∨ (iv = .int .i64 1 ∧ ∃ gB nb en, TK wr a n tb gE gW gB nb en .nil .nil ∧ Below w.heap.size w wr ∧ w.heap.size ≤ gB)) (fun iv _ => 1 - (intOf iv).toNat)
  case atStart => exact .inl ⟨rfl, rfl⟩
  case round =>
    rcases hrel with ⟨rfl, hwr⟩ | ⟨rfl, gB, nb, en, hk, hbl, hgl⟩
    · have hwr' := hwr.symm
      subst hwr'
      clear hwr
      have r0 : w5.cell? ⟨rb, 0, none⟩ = some (.int .u32 (a : Int)) := HR5.out.cell 0
      have r1 : w5.cell? ⟨rb, 1, none⟩ = some (.int .i64 (n : Int)) := HR5.out.cell 1
      have r2 : w5.cell? ⟨rb, 2, none⟩ = some (.bool false) := HR5.out.cell 2
      have r3 : w5.cell? ⟨rb, 3, none⟩ = some (.bool false) := HR5.out.cell 3
      have r4 : w5.cell? ⟨rb, 4, none⟩ = some (.string ⟨#[]⟩) := HR5.out.cell 4
      have r5 : w5.cell? ⟨rb, 5, none⟩ = some (.string ⟨#[]⟩) := HR5.out.cell 5
      have r6 : w5.cell? ⟨rb, 6, none⟩ = some (.string ⟨#[]⟩) := HR5.out.cell 6
      go_upto_region 5 with fail
      obtain ⟨w6, hw6⟩ : ∃ w6, w5.alloc (.cells #[.int .u32 (a : Int), .int .i64 (n : Int), .bool false, .bool false, .string ⟨#[]⟩, .string ⟨#[]⟩, .string ⟨#[]⟩] 160) = w6 := ⟨_, rfl⟩
      rw [hw6]
      have hb6 : Below w5.heap.size w5 w6 := hw6 ▸ blkBelow1 w5 _
      obtain ⟨RA, hRA⟩ : ∃ g, w5.heap.size = g := ⟨_, rfl⟩
      have HA6 : Hid (Blk w6 RA 160 #[.int .u32 (a : Int), .int .i64 (n : Int), .bool false, .bool false, .string ⟨#[]⟩, .string ⟨#[]⟩, .string ⟨#[]⟩]) := hide (hRA ▸ hw6 ▸ Blk.new w5 _ _)
      have HB6 := hide (HB5.out.trans (hb6.mono HB5.out.size))
      have HE6 := hide (HE5.out.below hb6 HE5.out.lt)
      have HT6 := hide (HT5.out.below hb6 HT5.out.lt)
      have HWy6 := hide (HWy5.out.below hb6 HWy5.out.lt)
      rw [hRA]
      have HGt : Hid (∀ W, Below w6.heap.size w6 W → Calls Tryz.prog 106 #[.pointer (some ⟨gE, 0, none⟩), .agg #[.int .u32 (a : Int), .int .i64 (n : Int)]] W fun e w' => Below W.heap.size W w' ∧ e = .returned (.tuple #[.pointer none, .bool false])) := hide (fun W hb => getE_any (F := fun _ => False) (R := RE 0) gE a n (.nil : Tr Nat) W HA.out (HE6.out.below hb HE6.out.lt) trivial trivial)
      clear hb6 hw6 hRA r0 r1 r2 r3 r4 r5 r6
      have Hmn := hide (show AllMono [(fun v _ => v = .pointer (some ⟨tb, 0, none⟩)), (fun v _ => v = .pointer (some ⟨tb, 0, none⟩)), (fun v _ => v = .pointer (some ⟨tb, 4, none⟩)), (fun v _ => v = .pointer (some ⟨gE, 0, none⟩)), (fun v _ => v = .pointer (some ⟨RA, 0, none⟩)), (fun v _ => v = .agg #[.int .u32 (a : Int), .int .i64 (n : Int)]), (fun v _ => v = .tuple #[.pointer none, .bool false]), (fun v _ => v = .tuple #[.pointer none, .bool false]), (fun v _ => v = .pointer none), (fun v _ => v = .bool false), (fun v _ => v = .pointer none), (fun v _ => v = .bool false)] from ⟨fun _ _ _ _ h => h, fun _ _ _ _ h => h, fun _ _ _ _ h => h, fun _ _ _ _ h => h, fun _ _ _ _ h => h, fun _ _ _ _ h => h, fun _ _ _ _ h => h, fun _ _ _ _ h => h, fun _ _ _ _ h => h, fun _ _ _ _ h => h, fun _ _ _ _ h => h, fun _ _ _ _ h => h, trivial⟩)
      refine wp_region_rel _ (by kernel_rfl) (by kernel_rfl) (relMono _ Hmn.out) ⟨?_, ?_, ?_, ?_, ?_, ?_, ?_, ?_, ?_, ?_, ?_, ?_, trivial⟩ ?_
      · refine relStep_plain rfl ?_
        intro Ac w5 hp
        have hb := hp.bel
        have a5 : Ac.eval (.tmp 5) = .pointer (some ⟨tb, 0, none⟩) := hp.out 5 (by rfl)
        have hc := evalC Ac; have hf := evalF Ac; have hgl := evalG Ac
        obtain ⟨ρ, hρ⟩ : ∃ ρ, Ac.eval = ρ := ⟨_, rfl⟩
        rw [hρ] at a5 hc hf hgl
        exact relPure hρ (.pointer (some ⟨tb, 0, none⟩)) (by simp [go_sem, hc, hf, hgl, ↓IntWalk.iteOmega, a5, *]) rfl
      · refine relStep_plain rfl ?_
        intro Ac w5 hp
        have hb := hp.bel
        have a23 : Ac.eval (.tmp 23) = .pointer (some ⟨tb, 0, none⟩) := hp.dep 0 (by kernel_rfl)
        have hc := evalC Ac; have hf := evalF Ac; have hgl := evalG Ac
        obtain ⟨ρ, hρ⟩ : ∃ ρ, Ac.eval = ρ := ⟨_, rfl⟩
        rw [hρ] at a23 hc hf hgl
        exact relPure hρ (.pointer (some ⟨tb, 0, none⟩)) (by simp [go_sem, hc, hf, hgl, ↓IntWalk.iteOmega, a23, *]) rfl
      · refine relStep_plain rfl ?_
        intro Ac w5 hp
        have hb := hp.bel
        have a24 : Ac.eval (.tmp 24) = .pointer (some ⟨tb, 0, none⟩) := hp.dep 1 (by kernel_rfl)
        have hc := evalC Ac; have hf := evalF Ac; have hgl := evalG Ac
        obtain ⟨ρ, hρ⟩ : ∃ ρ, Ac.eval = ρ := ⟨_, rfl⟩
        rw [hρ] at a24 hc hf hgl
        exact relPure hρ (.pointer (some ⟨tb, 4, none⟩)) (by simp [go_sem, hc, hf, hgl, ↓IntWalk.iteOmega, a24, *]) rfl
      · refine relStep_plain rfl ?_
        intro Ac w5 hp
        have hb := hp.bel
        have a25 : Ac.eval (.tmp 25) = .pointer (some ⟨tb, 4, none⟩) := hp.dep 2 (by kernel_rfl)
        have ht5 := HT6.out.below hb HT6.out.lt
        have t1 : w5.cell? ⟨tb, 4, none⟩ = some (.pointer (some ⟨gE, 0, none⟩)) := ht5.cell 4
        have hc := evalC Ac; have hf := evalF Ac; have hgl := evalG Ac
        obtain ⟨ρ, hρ⟩ : ∃ ρ, Ac.eval = ρ := ⟨_, rfl⟩
        rw [hρ] at a25 hc hf hgl
        exact relPure hρ (.pointer (some ⟨gE, 0, none⟩)) (by simp [go_sem, hc, hf, hgl, ↓IntWalk.iteOmega, a25, *]) rfl
      · refine relStep_plain rfl ?_
        intro Ac w5 hp
        have hb := hp.bel
        have a7 : Ac.eval (.tmp 7) = .pointer (some ⟨RA, 0, none⟩) := hp.out 7 (by rfl)
        have hc := evalC Ac; have hf := evalF Ac; have hgl := evalG Ac
        obtain ⟨ρ, hρ⟩ : ∃ ρ, Ac.eval = ρ := ⟨_, rfl⟩
        rw [hρ] at a7 hc hf hgl
        exact relPure hρ (.pointer (some ⟨RA, 0, none⟩)) (by simp [go_sem, hc, hf, hgl, ↓IntWalk.iteOmega, a7, *]) rfl
      · refine relStep_plain rfl ?_
        intro Ac w5 hp
        have hb := hp.bel
        have a27 : Ac.eval (.tmp 27) = .pointer (some ⟨RA, 0, none⟩) := hp.dep 4 (by kernel_rfl)
        have hx5 := HA6.out.below hb HA6.out.lt
        have x0 : w5.cell? ⟨RA, 0, none⟩ = some (.int .u32 (a : Int)) := hx5.cell 0
        have x1 : w5.cell? ⟨RA, 1, none⟩ = some (.int .i64 (n : Int)) := hx5.cell 1
        have x2 : w5.cell? ⟨RA, 2, none⟩ = some (.bool false) := hx5.cell 2
        have x3 : w5.cell? ⟨RA, 3, none⟩ = some (.bool false) := hx5.cell 3
        have x4 : w5.cell? ⟨RA, 4, none⟩ = some (.string ⟨#[]⟩) := hx5.cell 4
        have x5 : w5.cell? ⟨RA, 5, none⟩ = some (.string ⟨#[]⟩) := hx5.cell 5
        have x6 : w5.cell? ⟨RA, 6, none⟩ = some (.string ⟨#[]⟩) := hx5.cell 6
        have hc := evalC Ac; have hf := evalF Ac; have hgl := evalG Ac
        obtain ⟨ρ, hρ⟩ : ∃ ρ, Ac.eval = ρ := ⟨_, rfl⟩
        rw [hρ] at a27 hc hf hgl
        exact relPure hρ (.agg #[.int .u32 (a : Int), .int .i64 (n : Int)]) (by simp [go_sem, hc, hf, hgl, ↓IntWalk.iteOmega, a27, *]) rfl
      · refine relStep_plain rfl ?_
        intro Ac w5 hp
        have hb := hp.bel
        have a26 : Ac.eval (.tmp 26) = .pointer (some ⟨gE, 0, none⟩) := hp.dep 3 (by kernel_rfl)
        have a28 : Ac.eval (.tmp 28) = .agg #[.int .u32 (a : Int), .int .i64 (n : Int)] := hp.dep 5 (by kernel_rfl)
        have hc := evalC Ac; have hf := evalF Ac; have hgl := evalG Ac
        obtain ⟨ρ, hρ⟩ : ∃ ρ, Ac.eval = ρ := ⟨_, rfl⟩
        rw [hρ] at a26 a28 hc hf hgl
        refine relCall hρ 106 #[.pointer (some ⟨gE, 0, none⟩), .agg #[.int .u32 (a : Int), .int .i64 (n : Int)]] (by simp [go_sem, hc, hf, hgl, ↓IntWalk.iteOmega, a26, a28, *]) ?_
        refine (HGt.out w5 hb).mono ?_
        rintro e w6 ⟨hb6, rfl⟩
        exact ⟨_, rfl, rfl, hb6⟩
      · refine relStep_plain rfl ?_
        intro Ac w5 hp
        have hb := hp.bel
        have a29 : Ac.eval (.tmp 29) = .tuple #[.pointer none, .bool false] := hp.dep 6 (by kernel_rfl)
        have hc := evalC Ac; have hf := evalF Ac; have hgl := evalG Ac
        obtain ⟨ρ, hρ⟩ : ∃ ρ, Ac.eval = ρ := ⟨_, rfl⟩
        rw [hρ] at a29 hc hf hgl
        exact relPure hρ (.tuple #[.pointer none, .bool false]) (by simp [go_sem, hc, hf, hgl, ↓IntWalk.iteOmega, a29, *]) rfl
      · refine relStep_plain rfl ?_
        intro Ac w5 hp
        have hb := hp.bel
        have a22 : Ac.eval (.tmp 22) = .tuple #[.pointer none, .bool false] := hp.dep 7 (by kernel_rfl)
        have hc := evalC Ac; have hf := evalF Ac; have hgl := evalG Ac
        obtain ⟨ρ, hρ⟩ : ∃ ρ, Ac.eval = ρ := ⟨_, rfl⟩
        rw [hρ] at a22 hc hf hgl
        exact relPure hρ (.pointer none) (by simp [go_sem, hc, hf, hgl, ↓IntWalk.iteOmega, a22, *]) rfl
      · refine relStep_plain rfl ?_
        intro Ac w5 hp
        have hb := hp.bel
        have a22 : Ac.eval (.tmp 22) = .tuple #[.pointer none, .bool false] := hp.dep 7 (by kernel_rfl)
        have hc := evalC Ac; have hf := evalF Ac; have hgl := evalG Ac
        obtain ⟨ρ, hρ⟩ : ∃ ρ, Ac.eval = ρ := ⟨_, rfl⟩
        rw [hρ] at a22 hc hf hgl
        exact relPure hρ (.bool false) (by simp [go_sem, hc, hf, hgl, ↓IntWalk.iteOmega, a22, *]) rfl
      · refine relStep_plain rfl ?_
        intro Ac w5 hp
        have hb := hp.bel
        have a30 : Ac.eval (.tmp 30) = .pointer none := hp.dep 8 (by kernel_rfl)
        have hc := evalC Ac; have hf := evalF Ac; have hgl := evalG Ac
        obtain ⟨ρ, hρ⟩ : ∃ ρ, Ac.eval = ρ := ⟨_, rfl⟩
        rw [hρ] at a30 hc hf hgl
        exact relPure hρ (.pointer none) (by simp [go_sem, hc, hf, hgl, ↓IntWalk.iteOmega, a30, *]) rfl
      · refine relStep_plain rfl ?_
        intro Ac w5 hp
        have hb := hp.bel
        have a31 : Ac.eval (.tmp 31) = .bool false := hp.dep 9 (by kernel_rfl)
        have hc := evalC Ac; have hf := evalF Ac; have hgl := evalG Ac
        obtain ⟨ρ, hρ⟩ : ∃ ρ, Ac.eval = ρ := ⟨_, rfl⟩
        rw [hρ] at a31 hc hf hgl
        exact relPure hρ (.bool false) (by simp [go_sem, hc, hf, hgl, ↓IntWalk.iteOmega, a31, *]) rfl
      intro u w7 hb7 hall
      have e9 : u 11 = .bool false := relAll_at hall (i := 11) (by decide +kernel)
      clear hall
      simp only [List.drop_succ_cons, List.drop_zero, List.take_succ_cons, List.take_zero, putAll, Act.put, List.setIfInBounds_toArray, List.set_cons_zero, List.set_cons_succ, Nat.zero_add, Nat.reduceAdd, e9]
      have HB7 := hide (HB6.out.trans (hb7.mono HB6.out.size))
      have HE7 := hide (HE6.out.below hb7 HE6.out.lt)
      have HT7 := hide (HT6.out.below hb7 HT6.out.lt)
      have HA7 := hide (HA6.out.below hb7 HA6.out.lt)
      have HWy7 := hide (HWy6.out.below hb7 HWy6.out.lt)
      clear hb7
      go_upto_region 7 with fail
      have Hmn := hide (show AllMono [(fun v _ => v = .pointer (some ⟨tb, 0, none⟩)), (fun v _ => v = .pointer (some ⟨tb, 0, none⟩)), (fun v _ => v = .pointer (some ⟨tb, 4, none⟩)), (fun v _ => v = .pointer (some ⟨gE, 0, none⟩)), (fun v _ => v = .pointer (some ⟨RA, 0, none⟩)), (fun v _ => v = .agg #[.int .u32 (a : Int), .int .i64 (n : Int)]), (fun v _ => v = .agg #[.int .u32 (a : Int), .int .i64 (n : Int), .bool false, .bool false, .string ⟨#[]⟩, .string ⟨#[]⟩, .string ⟨#[]⟩]), (fun v W => ∃ R, v = .pointer (some ⟨R, 0, none⟩) ∧ Blk W R 192 #[.pointer none] ∧ w7.heap.size ≤ R), (fun v W => ∃ gB, v = .agg #[.int .u32 (a : Int), .int .i64 (n : Int), .bool false, .bool false, .string ⟨#[]⟩, .string ⟨#[]⟩, .string ⟨#[]⟩, .pointer (some ⟨gB, 0, none⟩)] ∧ Blk W gB 192 #[.pointer none] ∧ w7.heap.size ≤ gB), (fun v W => ∃ gB en, v = .pointer (some ⟨en, 0, none⟩) ∧ Blk W en 165 #[.int .u32 (a : Int), .int .i64 (n : Int), .bool false, .bool false, .string ⟨#[]⟩, .string ⟨#[]⟩, .string ⟨#[]⟩, .pointer (some ⟨gB, 0, none⟩)] ∧ Blk W gB 192 #[.pointer none] ∧ w7.heap.size ≤ gB ∧ w7.heap.size ≤ en)] from ⟨fun _ _ _ _ h => h, fun _ _ _ _ h => h, fun _ _ _ _ h => h, fun _ _ _ _ h => h, fun _ _ _ _ h => h, fun _ _ _ _ h => h, fun _ _ _ _ h => h, fun v W1 W2 hb ⟨R, e, h, h2⟩ => ⟨R, e, h.below hb h.lt, h2⟩, fun v W1 W2 hb ⟨R, e, h, h2⟩ => ⟨R, e, h.below hb h.lt, h2⟩, fun v W1 W2 hb ⟨R, R2, e, h1, h2, h3, h4⟩ => ⟨R, R2, e, h1.below hb h1.lt, h2.below hb h2.lt, h3, h4⟩, trivial⟩)
      refine wp_region_relT 10 _ (by kernel_rfl) (by kernel_rfl) (by kernel_rfl) (by kernel_rfl) (by kernel_rfl) (relMono _ Hmn.out) ⟨?_, ?_, ?_, ?_, ?_, ?_, ?_, ?_, ?_, ?_, trivial⟩ ?_
      · refine relStep_plain rfl ?_
        intro Ac w5 hp
        have hb := hp.bel
        have a5 : Ac.eval (.tmp 5) = .pointer (some ⟨tb, 0, none⟩) := hp.out 5 (by rfl)
        have hc := evalC Ac; have hf := evalF Ac; have hgl := evalG Ac
        obtain ⟨ρ, hρ⟩ : ∃ ρ, Ac.eval = ρ := ⟨_, rfl⟩
        rw [hρ] at a5 hc hf hgl
        exact relPure hρ (.pointer (some ⟨tb, 0, none⟩)) (by simp [go_sem, hc, hf, hgl, ↓IntWalk.iteOmega, a5, *]) rfl
      · refine relStep_plain rfl ?_
        intro Ac w5 hp
        have hb := hp.bel
        have a34 : Ac.eval (.tmp 34) = .pointer (some ⟨tb, 0, none⟩) := hp.dep 0 (by kernel_rfl)
        have hc := evalC Ac; have hf := evalF Ac; have hgl := evalG Ac
        obtain ⟨ρ, hρ⟩ : ∃ ρ, Ac.eval = ρ := ⟨_, rfl⟩
        rw [hρ] at a34 hc hf hgl
        exact relPure hρ (.pointer (some ⟨tb, 0, none⟩)) (by simp [go_sem, hc, hf, hgl, ↓IntWalk.iteOmega, a34, *]) rfl
      · refine relStep_plain rfl ?_
        intro Ac w5 hp
        have hb := hp.bel
        have a35 : Ac.eval (.tmp 35) = .pointer (some ⟨tb, 0, none⟩) := hp.dep 1 (by kernel_rfl)
        have hc := evalC Ac; have hf := evalF Ac; have hgl := evalG Ac
        obtain ⟨ρ, hρ⟩ : ∃ ρ, Ac.eval = ρ := ⟨_, rfl⟩
        rw [hρ] at a35 hc hf hgl
        exact relPure hρ (.pointer (some ⟨tb, 4, none⟩)) (by simp [go_sem, hc, hf, hgl, ↓IntWalk.iteOmega, a35, *]) rfl
      · refine relStep_plain rfl ?_
        intro Ac w5 hp
        have hb := hp.bel
        have a36 : Ac.eval (.tmp 36) = .pointer (some ⟨tb, 4, none⟩) := hp.dep 2 (by kernel_rfl)
        have ht5 := HT7.out.below hb HT7.out.lt
        have t1 : w5.cell? ⟨tb, 4, none⟩ = some (.pointer (some ⟨gE, 0, none⟩)) := ht5.cell 4
        have hc := evalC Ac; have hf := evalF Ac; have hgl := evalG Ac
        obtain ⟨ρ, hρ⟩ : ∃ ρ, Ac.eval = ρ := ⟨_, rfl⟩
        rw [hρ] at a36 hc hf hgl
        exact relPure hρ (.pointer (some ⟨gE, 0, none⟩)) (by simp [go_sem, hc, hf, hgl, ↓IntWalk.iteOmega, a36, *]) rfl
      · refine relStep_plain rfl ?_
        intro Ac w5 hp
        have hb := hp.bel
        have a7 : Ac.eval (.tmp 7) = .pointer (some ⟨RA, 0, none⟩) := hp.out 7 (by rfl)
        have hc := evalC Ac; have hf := evalF Ac; have hgl := evalG Ac
        obtain ⟨ρ, hρ⟩ : ∃ ρ, Ac.eval = ρ := ⟨_, rfl⟩
        rw [hρ] at a7 hc hf hgl
        exact relPure hρ (.pointer (some ⟨RA, 0, none⟩)) (by simp [go_sem, hc, hf, hgl, ↓IntWalk.iteOmega, a7, *]) rfl
      · refine relStep_plain rfl ?_
        intro Ac w5 hp
        have hb := hp.bel
        have a38 : Ac.eval (.tmp 38) = .pointer (some ⟨RA, 0, none⟩) := hp.dep 4 (by kernel_rfl)
        have hx5 := HA7.out.below hb HA7.out.lt
        have x0 : w5.cell? ⟨RA, 0, none⟩ = some (.int .u32 (a : Int)) := hx5.cell 0
        have x1 : w5.cell? ⟨RA, 1, none⟩ = some (.int .i64 (n : Int)) := hx5.cell 1
        have x2 : w5.cell? ⟨RA, 2, none⟩ = some (.bool false) := hx5.cell 2
        have x3 : w5.cell? ⟨RA, 3, none⟩ = some (.bool false) := hx5.cell 3
        have x4 : w5.cell? ⟨RA, 4, none⟩ = some (.string ⟨#[]⟩) := hx5.cell 4
        have x5 : w5.cell? ⟨RA, 5, none⟩ = some (.string ⟨#[]⟩) := hx5.cell 5
        have x6 : w5.cell? ⟨RA, 6, none⟩ = some (.string ⟨#[]⟩) := hx5.cell 6
        have hc := evalC Ac; have hf := evalF Ac; have hgl := evalG Ac
        obtain ⟨ρ, hρ⟩ : ∃ ρ, Ac.eval = ρ := ⟨_, rfl⟩
        rw [hρ] at a38 hc hf hgl
        exact relPure hρ (.agg #[.int .u32 (a : Int), .int .i64 (n : Int)]) (by simp [go_sem, hc, hf, hgl, ↓IntWalk.iteOmega, a38, *]) rfl
      · refine relStep_plain rfl ?_
        intro Ac w5 hp
        have hb := hp.bel
        have a7 : Ac.eval (.tmp 7) = .pointer (some ⟨RA, 0, none⟩) := hp.out 7 (by rfl)
        have hx5 := HA7.out.below hb HA7.out.lt
        have x0 : w5.cell? ⟨RA, 0, none⟩ = some (.int .u32 (a : Int)) := hx5.cell 0
        have x1 : w5.cell? ⟨RA, 1, none⟩ = some (.int .i64 (n : Int)) := hx5.cell 1
        have x2 : w5.cell? ⟨RA, 2, none⟩ = some (.bool false) := hx5.cell 2
        have x3 : w5.cell? ⟨RA, 3, none⟩ = some (.bool false) := hx5.cell 3
        have x4 : w5.cell? ⟨RA, 4, none⟩ = some (.string ⟨#[]⟩) := hx5.cell 4
        have x5 : w5.cell? ⟨RA, 5, none⟩ = some (.string ⟨#[]⟩) := hx5.cell 5
        have x6 : w5.cell? ⟨RA, 6, none⟩ = some (.string ⟨#[]⟩) := hx5.cell 6
        have hc := evalC Ac; have hf := evalF Ac; have hgl := evalG Ac
        obtain ⟨ρ, hρ⟩ : ∃ ρ, Ac.eval = ρ := ⟨_, rfl⟩
        rw [hρ] at a7 hc hf hgl
        exact relPure hρ (.agg #[.int .u32 (a : Int), .int .i64 (n : Int), .bool false, .bool false, .string ⟨#[]⟩, .string ⟨#[]⟩, .string ⟨#[]⟩]) (by simp [go_sem, hc, hf, hgl, ↓IntWalk.iteOmega, a7, *]) rfl
      · refine relStep_plain rfl ?_
        intro Ac w5 hp
        have hb := hp.bel
        have hc := evalC Ac; have hf := evalF Ac; have hgl := evalG Ac
        obtain ⟨ρ, hρ⟩ : ∃ ρ, Ac.eval = ρ := ⟨_, rfl⟩
        rw [hρ] at hc hf hgl
        refine relCall hρ 66 #[] (by simp [go_sem, hc, hf, hgl, ↓IntWalk.iteOmega, *]) ?_
        refine (newB_any w5).mono ?_
        rintro e w6 ⟨rfl, hk6, hb6⟩
        exact ⟨_, rfl, ⟨_, rfl, hk6, hb.size⟩, hb6⟩
      · refine relStep_plain rfl ?_
        intro Ac w5 hp
        have hb := hp.bel
        have a40 : Ac.eval (.tmp 40) = .agg #[.int .u32 (a : Int), .int .i64 (n : Int), .bool false, .bool false, .string ⟨#[]⟩, .string ⟨#[]⟩, .string ⟨#[]⟩] := hp.dep 6 (by kernel_rfl)
        obtain ⟨gB, a41, hgB, hgBl⟩ := hp.dep 7 (by kernel_rfl)
        change Ac.eval (.tmp 41) = _ at a41
        have hc := evalC Ac; have hf := evalF Ac; have hgl := evalG Ac
        obtain ⟨ρ, hρ⟩ : ∃ ρ, Ac.eval = ρ := ⟨_, rfl⟩
        rw [hρ] at a40 a41 hc hf hgl
        exact relPure hρ (.agg #[.int .u32 (a : Int), .int .i64 (n : Int), .bool false, .bool false, .string ⟨#[]⟩, .string ⟨#[]⟩, .string ⟨#[]⟩, .pointer (some ⟨gB, 0, none⟩)]) (by simp [go_sem, hc, hf, hgl, ↓IntWalk.iteOmega, a40, a41, *]) ⟨gB, rfl, hgB, hgBl⟩
      · refine relStep_plain rfl ?_
        intro Ac w5 hp
        have hb := hp.bel
        obtain ⟨gB, a42, hgB, hgBl⟩ := hp.dep 8 (by kernel_rfl)
        change Ac.eval (.tmp 42) = _ at a42
        have hc := evalC Ac; have hf := evalF Ac; have hgl := evalG Ac
        obtain ⟨ρ, hρ⟩ : ∃ ρ, Ac.eval = ρ := ⟨_, rfl⟩
        rw [hρ] at a42 hc hf hgl
        exact relVal hρ (.pointer (some ⟨w5.heap.size, 0, none⟩)) (w5.alloc (.cells #[.int .u32 (a : Int), .int .i64 (n : Int), .bool false, .bool false, .string ⟨#[]⟩, .string ⟨#[]⟩, .string ⟨#[]⟩, .pointer (some ⟨gB, 0, none⟩)] 165)) (by simp [go_sem, hc, hf, hgl, ↓IntWalk.iteOmega, a42, *]) ⟨gB, _, rfl, Blk.new w5 _ _, hgB.alloc _, hgBl, hb.size⟩ ((Below.refl _ _).alloc (Nat.le_refl _) _)
      intro u w8 hb7 hall
      have e37 : u 3 = .pointer (some ⟨gE, 0, none⟩) := relAll_at hall (i := 3) (by decide +kernel)
      have e39 : u 5 = .agg #[.int .u32 (a : Int), .int .i64 (n : Int)] := relAll_at hall (i := 5) (by decide +kernel)
      obtain ⟨gB, en, e43, hen, hgB, hgBl, henl⟩ := relAll_at hall (i := 9) (by decide +kernel)
      change u 9 = _ at e43
      clear hall
      simp only [List.drop_succ_cons, List.drop_zero, List.take_succ_cons, List.take_zero, putAll, Act.put, List.setIfInBounds_toArray, List.set_cons_zero, List.set_cons_succ, Nat.zero_add, Nat.reduceAdd, e37, e39, e43]
      have HB8 := hide (HB7.out.trans (hb7.mono HB7.out.size))
      have HE8 := hide (HE7.out.below hb7 HE7.out.lt)
      have HT8 := hide (HT7.out.below hb7 HT7.out.lt)
      have HWy8 := hide (HWy7.out.below hb7 HWy7.out.lt)
      have HN8 := hide hen
      have HGB8 := hide hgB
      have HGl : Hid (w.heap.size ≤ gB) := hide (Nat.le_trans HB7.out.size hgBl)
      clear hb7 hen hgB hgBl henl
      go_wp2_with fail
      refine (puteE_any (F := fun _ => False) (R := RE en) gE a n 0 (some ⟨en, 0, none⟩) w8 HA.out HE8.out (fun _ h => h.elim) (fun _ _ => rfl) (fun h => h)).mono ?_
      rintro e w9 ⟨rfl, nb, hnb, hg9, ht9, hc9⟩
      have hn9 : ∀ {g : Nat} {T : TypeId} {cs : Array Value}, Blk w8 g T cs → T ≠ 219 → ¬ (g = gE) := by
        rintro g T cs hb h1 rfl
        exact hb.ne_ HE8.out h1 rfl
      have HK9 : Hid (TK w9 a n tb gE gW gB nb en .nil .nil) := hide ⟨chg_blk hc9 HT8.out (hn9 HT8.out (by decide)), hg9, ht9, chg_blk hc9 HN8.out (hn9 HN8.out (by decide)), chg_blk hc9 HGB8.out (hn9 HGB8.out (by decide)), TrA.nil_, chg_blk hc9 HWy8.out (hn9 HWy8.out (by decide)), TrA.nil_⟩
      have HB9 : Hid (Below w.heap.size w w9) := hide (HB8.out.trans (chg_to_below hc9 HB8.out.size (fun k hk => by subst hk; exact HgEl.out)))
      clear hg9 ht9 hc9 hnb hn9
      go_wp2
      go_roundw
      case rel => exact .inr ⟨rfl, gB, nb, en, HK9.out, HB9.out, HGl.out⟩
      case measure => simp [intOf]
    · have HK := hide hk
      have HBl := hide hbl
      have HGl := hide hgl
      clear hk hbl hgl
      go_wp2
      go_ret
      exact ⟨tb, gE, gW, gB, nb, en, rfl, HK.out, HBl.out, HgWl.out, HGl.out⟩
end Go.Proofs.YtcinjckajnnhmaaGreat
set_option linter.unusedSimpArgs false
set_option linter.unusedVariables false
namespace Go.Proofs.YtcinjckajnnhmaaGreat
open Go.RowKit Go.WideShapes Go.ChangeShapes
attribute [local go_sem] Oper.semAt_some
theorem px_cells {w : World} {A : Option Addr} {d a n : Nat} (h : LstAt 2 pxR w A 1 d [(a, n)]) : ∃ g o, A = some ⟨g, o, none⟩ ∧ g < w.heap.size ∧ w.cell? ⟨g, o, none⟩ = some (.int .u32 (a : Int)) ∧ w.cell? ⟨g, o + 1, none⟩ = some (.int .i64 (n : Int)) := by
  obtain ⟨g, o, x, vs, rfl, hg, hx, hl, hr, hv⟩ := h.at_ (k := 0) (by omega)
  simp at hx
  subst hx
  have hr' : vs = [.int .u32 (a : Int), .int .i64 (n : Int)] := hr
  subst hr'
  refine ⟨g, o, rfl, hg, ?_, ?_⟩
  · have := hv 0 _ rfl
    simpa using this
  · have := hv 1 _ rfl
    simpa using this
/-- A row of one prefix, in a block of prefixes. -/
def LP (w : World) (A : Option Addr) (d a n : Nat) : Prop := LstAt 2 pxR w A 1 d [(a, n)] ∧ ∃ g cs, A = some ⟨g, 0, none⟩ ∧ Blk w g 24 cs
theorem lp_own {w : World} {B : Nat} {A : Option Addr} {d a n : Nat} (h : w.ownsRow B 24 2 (.slice A 1 d) 1 [.int .u32 (a : Int), .int .i64 (n : Int)]) : LP w A d a n := by
  refine ⟨own_pxs (l := [(a, n)]) h, ?_⟩
  rcases h.2 with ⟨h1, h2⟩ | ⟨g, cap, cur, h1, h2, h3, _⟩
  · omega
  · cases h1
    exact ⟨g, cur, rfl, h3⟩
theorem LP.below {w w' : World} {A : Option Addr} {d a n : Nat} (h : LP w A d a n) (hb : Below w.heap.size w w') : LP w' A d a n := by
  obtain ⟨h1, g, cs, h2, h3⟩ := h
  exact ⟨h1.below pxMono hb, g, cs, h2, h3.below hb h3.lt⟩
theorem LP.chg {w w' : World} {A : Option Addr} {d a n : Nat} {S : Nat → Prop} (h : LP w A d a n) (hc : ChgS S w w') (hs : ∀ g cs, Blk w g 24 cs → ¬ S g) : LP w' A d a n := by
  obtain ⟨h1, g, cs, h2, h3⟩ := h
  have h4 := chg_blk hc h3 (hs g cs h3)
  refine ⟨h1.keepW (fun _ _ h => h) hc.size (fun ad i hA => ?_), g, cs, h2, h4⟩
  rw [h2] at hA
  cases hA
  rw [h4.cell, h3.cell]
def at0 : AT := ⟨0, 0, [], 0, 0, 0, 0, 0, []⟩
set_option maxRecDepth 100000 in
set_option maxHeartbeats 8000000 in
theorem meant_yes (a n c k tb gE gW gB nb en : Nat) (wt bt : Tr Nat) (w : World) (hk : TK w a n tb gE gW gB nb en wt bt) (hC : PG c k) (hwi : (covB a (n : Int) c (k : Int) && !decide (c = a ∧ (k : Int) = (n : Int))) = true) (hbit : bitN c n = 0) (hm : n ≤ 31) :
    Calls Tryz.prog 108 #[.pointer (some ⟨tb, 0, none⟩), .agg #[.int .u32 (c : Int), .int .i64 (k : Int), .int .i64 0, .int .i64 0, .slice none 0 0, .int .u32 0, .int .u32 0, .int .u32 0, .int .u32 0, .int .u32 0, .slice none 0 0, .int .u32 0, .int .u32 0, .int .u32 0, .bool false, .bool false]] w fun e w' => ∃ A' c', e = .returned (.slice A' 1 c') ∧ LP w' A' c' a n ∧ Below w.heap.size w w' := by
  obtain ⟨i0, hi, hz0, hz1, hz2⟩ := info_parts pxInfo
  obtain ⟨w1, hw1⟩ : ∃ w1, w.alloc (.cells #[.int .u32 (c : Int), .int .i64 (k : Int), .int .i64 0, .int .i64 0, .slice none 0 0, .int .u32 0, .int .u32 0, .int .u32 0, .int .u32 0, .int .u32 0, .slice none 0 0, .int .u32 0, .int .u32 0, .int .u32 0, .bool false, .bool false] 30) = w1 := ⟨_, rfl⟩
  have hb1 : Below w.heap.size w w1 := hw1 ▸ blkBelow1 w _
  have HX1 : Hid (Blk w1 w.heap.size 30 #[.int .u32 (c : Int), .int .i64 (k : Int), .int .i64 0, .int .i64 0, .slice none 0 0, .int .u32 0, .int .u32 0, .int .u32 0, .int .u32 0, .int .u32 0, .slice none 0 0, .int .u32 0, .int .u32 0, .int .u32 0, .bool false, .bool false]) := hide (hw1 ▸ Blk.new w _ _)
  have HK1 := hide (hk.below hb1)
  have HAb := hide (fun W (hb : Below w1.heap.size w1 W) => aboveE_yes gE nb a n c k (.pointer (some ⟨en, 0, none⟩)) W hk.pg hC hwi hbit hm (HK1.out.below hb).fe (HK1.out.below hb).nd)
  have HB1 := hide hb1
  have HW1 := hide hw1
  have HC := hide hC
  clear hw1 hb1 hk hC hwi hbit
  go_enter Tryz.func108, Tryz.ntmps108
  go_upto_region 2 with fail
  rw [HW1.out]
  have Hmn := hide (show AllMono [(fun v _ => v = .pointer (some ⟨tb, 0, none⟩)), (fun v _ => v = .pointer (some ⟨tb, 0, none⟩)), (fun v _ => v = .pointer (some ⟨tb, 4, none⟩)), (fun v _ => v = .pointer (some ⟨gE, 0, none⟩)), (fun v _ => v = .pointer (some ⟨w.heap.size, 0, none⟩)), (fun v _ => v = .agg #[.int .u32 (c : Int), .int .i64 (k : Int)]), (fun v W => ∃ A c, v = .slice A 1 c ∧ LstAt 2 pxR W A 1 c [(a, n)]), (fun v _ => v = .int .i64 1), (fun v _ => v = .int .i64 0)] from ⟨fun _ _ _ _ h => h, fun _ _ _ _ h => h, fun _ _ _ _ h => h, fun _ _ _ _ h => h, fun _ _ _ _ h => h, fun _ _ _ _ h => h, fun v W1 W2 hb ⟨A, c, e, h⟩ => ⟨A, c, e, h.below pxMono hb⟩, fun _ _ _ _ h => h, fun _ _ _ _ h => h, trivial⟩)
  refine wp_region_rel _ (by kernel_rfl) (by kernel_rfl) (relMono _ Hmn.out) ⟨?_, ?_, ?_, ?_, ?_, ?_, ?_, ?_, ?_, trivial⟩ ?_
  · refine relStep_plain rfl ?_
    intro Ac w5 hp
    have hb := hp.bel
    have a0 : Ac.eval (.tmp 0) = .pointer (some ⟨tb, 0, none⟩) := hp.out 0 (by rfl)
    have hc := evalC Ac; have hf := evalF Ac; have hgl := evalG Ac
    obtain ⟨ρ, hρ⟩ : ∃ ρ, Ac.eval = ρ := ⟨_, rfl⟩
    rw [hρ] at a0 hc hf hgl
    exact relPure hρ (.pointer (some ⟨tb, 0, none⟩)) (by simp [go_sem, hc, hf, hgl, ↓IntWalk.iteOmega, a0, *]) rfl
  · refine relStep_plain rfl ?_
    intro Ac w5 hp
    have hb := hp.bel
    have a10 : Ac.eval (.tmp 10) = .pointer (some ⟨tb, 0, none⟩) := hp.dep 0 (by kernel_rfl)
    have hc := evalC Ac; have hf := evalF Ac; have hgl := evalG Ac
    obtain ⟨ρ, hρ⟩ : ∃ ρ, Ac.eval = ρ := ⟨_, rfl⟩
    rw [hρ] at a10 hc hf hgl
    exact relPure hρ (.pointer (some ⟨tb, 0, none⟩)) (by simp [go_sem, hc, hf, hgl, ↓IntWalk.iteOmega, a10, *]) rfl
  · refine relStep_plain rfl ?_
    intro Ac w5 hp
    have hb := hp.bel
    have a11 : Ac.eval (.tmp 11) = .pointer (some ⟨tb, 0, none⟩) := hp.dep 1 (by kernel_rfl)
    have hc := evalC Ac; have hf := evalF Ac; have hgl := evalG Ac
    obtain ⟨ρ, hρ⟩ : ∃ ρ, Ac.eval = ρ := ⟨_, rfl⟩
    rw [hρ] at a11 hc hf hgl
    exact relPure hρ (.pointer (some ⟨tb, 4, none⟩)) (by simp [go_sem, hc, hf, hgl, ↓IntWalk.iteOmega, a11, *]) rfl
  · refine relStep_plain rfl ?_
    intro Ac w5 hp
    have hb := hp.bel
    have a12 : Ac.eval (.tmp 12) = .pointer (some ⟨tb, 4, none⟩) := hp.dep 2 (by kernel_rfl)
    have ht5 := (HK1.out.below hb).ft
    have t0 : w5.cell? ⟨tb, 0, none⟩ = some (.slice none 0 0) := ht5.cell 0
    have t1 : w5.cell? ⟨tb, 1, none⟩ = some (.slice none 0 0) := ht5.cell 1
    have t2 : w5.cell? ⟨tb, 2, none⟩ = some (.slice none 0 0) := ht5.cell 2
    have t3 : w5.cell? ⟨tb, 3, none⟩ = some (.slice none 0 0) := ht5.cell 3
    have t4 : w5.cell? ⟨tb, 4, none⟩ = some (.pointer (some ⟨gE, 0, none⟩)) := ht5.cell 4
    have hc := evalC Ac; have hf := evalF Ac; have hgl := evalG Ac
    obtain ⟨ρ, hρ⟩ : ∃ ρ, Ac.eval = ρ := ⟨_, rfl⟩
    rw [hρ] at a12 hc hf hgl
    exact relPure hρ (.pointer (some ⟨gE, 0, none⟩)) (by simp [go_sem, hc, hf, hgl, ↓IntWalk.iteOmega, a12, *]) rfl
  · refine relStep_plain rfl ?_
    intro Ac w5 hp
    have hb := hp.bel
    have a3 : Ac.eval (.tmp 3) = .pointer (some ⟨w.heap.size, 0, none⟩) := hp.out 3 (by rfl)
    have hc := evalC Ac; have hf := evalF Ac; have hgl := evalG Ac
    obtain ⟨ρ, hρ⟩ : ∃ ρ, Ac.eval = ρ := ⟨_, rfl⟩
    rw [hρ] at a3 hc hf hgl
    exact relPure hρ (.pointer (some ⟨w.heap.size, 0, none⟩)) (by simp [go_sem, hc, hf, hgl, ↓IntWalk.iteOmega, a3, *]) rfl
  · refine relStep_plain rfl ?_
    intro Ac w5 hp
    have hb := hp.bel
    have a14 : Ac.eval (.tmp 14) = .pointer (some ⟨w.heap.size, 0, none⟩) := hp.dep 4 (by kernel_rfl)
    have hx5 := HX1.out.below hb HX1.out.lt
    have x0 : w5.cell? ⟨w.heap.size, 0, none⟩ = some (.int .u32 (c : Int)) := hx5.cell 0
    have x1 : w5.cell? ⟨w.heap.size, 1, none⟩ = some (.int .i64 (k : Int)) := hx5.cell 1
    have x2 : w5.cell? ⟨w.heap.size, 2, none⟩ = some (.int .i64 0) := hx5.cell 2
    have x3 : w5.cell? ⟨w.heap.size, 3, none⟩ = some (.int .i64 0) := hx5.cell 3
    have x4 : w5.cell? ⟨w.heap.size, 4, none⟩ = some (.slice none 0 0) := hx5.cell 4
    have x5 : w5.cell? ⟨w.heap.size, 5, none⟩ = some (.int .u32 0) := hx5.cell 5
    have x6 : w5.cell? ⟨w.heap.size, 6, none⟩ = some (.int .u32 0) := hx5.cell 6
    have x7 : w5.cell? ⟨w.heap.size, 7, none⟩ = some (.int .u32 0) := hx5.cell 7
    have x8 : w5.cell? ⟨w.heap.size, 8, none⟩ = some (.int .u32 0) := hx5.cell 8
    have x9 : w5.cell? ⟨w.heap.size, 9, none⟩ = some (.int .u32 0) := hx5.cell 9
    have x10 : w5.cell? ⟨w.heap.size, 10, none⟩ = some (.slice none 0 0) := hx5.cell 10
    have x11 : w5.cell? ⟨w.heap.size, 11, none⟩ = some (.int .u32 0) := hx5.cell 11
    have x12 : w5.cell? ⟨w.heap.size, 12, none⟩ = some (.int .u32 0) := hx5.cell 12
    have x13 : w5.cell? ⟨w.heap.size, 13, none⟩ = some (.int .u32 0) := hx5.cell 13
    have x14 : w5.cell? ⟨w.heap.size, 14, none⟩ = some (.bool false) := hx5.cell 14
    have x15 : w5.cell? ⟨w.heap.size, 15, none⟩ = some (.bool false) := hx5.cell 15
    have hc := evalC Ac; have hf := evalF Ac; have hgl := evalG Ac
    obtain ⟨ρ, hρ⟩ : ∃ ρ, Ac.eval = ρ := ⟨_, rfl⟩
    rw [hρ] at a14 hc hf hgl
    exact relPure hρ (.agg #[.int .u32 (c : Int), .int .i64 (k : Int)]) (by simp [go_sem, hc, hf, hgl, ↓IntWalk.iteOmega, a14, *]) rfl
  · refine relStep_plain rfl ?_
    intro Ac w5 hp
    have hb := hp.bel
    have a13 : Ac.eval (.tmp 13) = .pointer (some ⟨gE, 0, none⟩) := hp.dep 3 (by kernel_rfl)
    have a15 : Ac.eval (.tmp 15) = .agg #[.int .u32 (c : Int), .int .i64 (k : Int)] := hp.dep 5 (by kernel_rfl)
    have hc := evalC Ac; have hf := evalF Ac; have hgl := evalG Ac
    obtain ⟨ρ, hρ⟩ : ∃ ρ, Ac.eval = ρ := ⟨_, rfl⟩
    rw [hρ] at a13 a15 hc hf hgl
    refine relCall hρ 163 #[.pointer (some ⟨gE, 0, none⟩), .agg #[.int .u32 (c : Int), .int .i64 (k : Int)]] (by simp [go_sem, hc, hf, hgl, ↓IntWalk.iteOmega, a13, a15, *]) ?_
    refine (HAb.out w5 hb).mono ?_
    rintro e w6 ⟨A6, c6, rfl, hl6, hb6⟩
    exact ⟨_, rfl, ⟨A6, c6, rfl, hl6⟩, hb6⟩
  · refine relStep_plain rfl ?_
    intro Ac w5 hp
    have hb := hp.bel
    obtain ⟨A2, c2, a16, hl2⟩ := hp.dep 6 (by kernel_rfl)
    change Ac.eval (.tmp 16) = _ at a16
    have hc := evalC Ac; have hf := evalF Ac; have hgl := evalG Ac
    obtain ⟨ρ, hρ⟩ : ∃ ρ, Ac.eval = ρ := ⟨_, rfl⟩
    rw [hρ] at a16 hc hf hgl
    exact relPure hρ (.int .i64 1) (by simp [go_sem, hc, hf, hgl, ↓IntWalk.iteOmega, a16, *]) rfl
  · refine relStep_plain rfl ?_
    intro Ac w5 hp
    have hb := hp.bel
    have hc := evalC Ac; have hf := evalF Ac; have hgl := evalG Ac
    obtain ⟨ρ, hρ⟩ : ∃ ρ, Ac.eval = ρ := ⟨_, rfl⟩
    rw [hρ] at hc hf hgl
    exact relPure hρ (.int .i64 0) (by simp [go_sem, hc, hf, hgl, ↓IntWalk.iteOmega, *]) rfl
  intro u w2 hb7 hall
  obtain ⟨A2, c2, e16, hl2⟩ := relAll_at hall (i := 6) (by decide +kernel)
  change u 6 = _ at e16
  have e17 : u 7 = .int .i64 1 := relAll_at hall (i := 7) (by decide +kernel)
  have e18 : u 8 = .int .i64 0 := relAll_at hall (i := 8) (by decide +kernel)
  clear hall
  simp only [List.drop_succ_cons, List.drop_zero, List.take_succ_cons, List.take_zero, putAll, Act.put, List.setIfInBounds_toArray, List.set_cons_zero, List.set_cons_succ, Nat.zero_add, Nat.reduceAdd, e16, e17, e18]
  have HB2 := hide (HB1.out.trans (hb7.mono HB1.out.size))
  have HK2 := hide (HK1.out.below hb7)
  have HX2 := hide (HX1.out.below hb7 HX1.out.lt)
  have HL2 := hide hl2
  obtain ⟨g, o, rfl, hgl, y0, y1⟩ := px_cells hl2
  clear hb7 hl2
  go_wp2
  go_loopw [5, 18] (fun ov iv wr => (ov = .slice none 0 0 ∧ iv = .int .i64 0 ∧ wr = w2) ∨ (iv = .int .i64 1 ∧ ∃ A' c', ov = .slice A' 1 c' ∧ LP wr A' c' a n ∧ Below w.heap.size w wr)) (fun _ iv _ => 1 - (intOf iv).toNat)
  case atStart => exact .inl ⟨rfl, rfl, rfl⟩
  case round =>
    rcases hrel with ⟨rfl, rfl, hwr⟩ | ⟨rfl, A', c', rfl, hl, hbl⟩
    · have hwr' := hwr.symm
      subst hwr'
      clear hwr
      go_upto_region 5 with fail
      obtain ⟨w4, hw4⟩ : ∃ w4, w2.alloc (.cells #[.int .u32 (a : Int), .int .i64 (n : Int)] 24) = w4 := ⟨_, rfl⟩
      rw [hw4]
      have hb4 : Below w2.heap.size w2 w4 := hw4 ▸ blkBelow1 w2 _
      obtain ⟨RA, hRA⟩ : ∃ g, w2.heap.size = g := ⟨_, rfl⟩
      have HA4 : Hid (Blk w4 RA 24 #[.int .u32 (a : Int), .int .i64 (n : Int)]) := hide (hRA ▸ hw4 ▸ Blk.new w2 _ _)
      have HB4 := hide (HB2.out.trans (hb4.mono HB2.out.size))
      have HK4 := hide (HK2.out.below hb4)
      have HX4 := hide (HX2.out.below hb4 HX2.out.lt)
      rw [hRA]
      have HGt : Hid (∀ W, Below w4.heap.size w4 W → Calls Tryz.prog 106 #[.pointer (some ⟨gE, 0, none⟩), .agg #[.int .u32 (a : Int), .int .i64 (n : Int)]] W fun e w' => Below W.heap.size W w' ∧ e = .returned (.tuple #[.pointer (some ⟨en, 0, none⟩), .bool true])) := hide (fun W hb => by
        have hK := HK4.out.below hb
        have hg : trGet a n (.nd nb a n (some 0) .nil .nil) = some 0 := by
          have hcv : CvN a n a n := ⟨Nat.le_refl _, hK.pg.2.2⟩
          simp [trGet, hcv]
        have h := getE_any (F := fun _ => False) (R := RE en) gE a n (.nd nb a n (some 0) .nil .nil) W hK.pg hK.fe hK.fk.mem hK.fk.wf
        refine h.mono ?_
        rintro e w' ⟨hb', hm⟩
        rw [hg] at hm
        obtain ⟨v0, rfl, hf⟩ := hm
        have h1 : [v0] = [.pointer (some ⟨en, 0, none⟩)] := frs_here hf
        obtain rfl := List.head_eq_of_cons_eq h1
        exact ⟨hb', rfl⟩)
      clear hb4 hw4 hRA y0 y1
      have Hmn := hide (show AllMono [(fun v _ => v = .pointer (some ⟨tb, 0, none⟩)), (fun v _ => v = .pointer (some ⟨tb, 0, none⟩)), (fun v _ => v = .pointer (some ⟨tb, 4, none⟩)), (fun v _ => v = .pointer (some ⟨gE, 0, none⟩)), (fun v _ => v = .agg #[.int .u32 (a : Int), .int .i64 (n : Int)]), (fun v _ => v = .tuple #[.pointer (some ⟨en, 0, none⟩), .bool true]), (fun v _ => v = .tuple #[.pointer (some ⟨en, 0, none⟩), .bool true]), (fun v _ => v = .pointer (some ⟨en, 0, none⟩)), (fun v _ => v = .bool true), (fun v _ => v = .pointer (some ⟨en, 0, none⟩)), (fun v _ => v = .bool true)] from ⟨fun _ _ _ _ h => h, fun _ _ _ _ h => h, fun _ _ _ _ h => h, fun _ _ _ _ h => h, fun _ _ _ _ h => h, fun _ _ _ _ h => h, fun _ _ _ _ h => h, fun _ _ _ _ h => h, fun _ _ _ _ h => h, fun _ _ _ _ h => h, fun _ _ _ _ h => h, trivial⟩)
      refine wp_region_rel _ (by kernel_rfl) (by kernel_rfl) (relMono _ Hmn.out) ⟨?_, ?_, ?_, ?_, ?_, ?_, ?_, ?_, ?_, ?_, ?_, trivial⟩ ?_
      · refine relStep_plain rfl ?_
        intro Ac w5 hp
        have hb := hp.bel
        have a0 : Ac.eval (.tmp 0) = .pointer (some ⟨tb, 0, none⟩) := hp.out 0 (by rfl)
        have hc := evalC Ac; have hf := evalF Ac; have hgl := evalG Ac
        obtain ⟨ρ, hρ⟩ : ∃ ρ, Ac.eval = ρ := ⟨_, rfl⟩
        rw [hρ] at a0 hc hf hgl
        exact relPure hρ (.pointer (some ⟨tb, 0, none⟩)) (by simp [go_sem, hc, hf, hgl, ↓IntWalk.iteOmega, a0, *]) rfl
      · refine relStep_plain rfl ?_
        intro Ac w5 hp
        have hb := hp.bel
        have a23 : Ac.eval (.tmp 23) = .pointer (some ⟨tb, 0, none⟩) := hp.dep 0 (by kernel_rfl)
        have hc := evalC Ac; have hf := evalF Ac; have hgl := evalG Ac
        obtain ⟨ρ, hρ⟩ : ∃ ρ, Ac.eval = ρ := ⟨_, rfl⟩
        rw [hρ] at a23 hc hf hgl
        exact relPure hρ (.pointer (some ⟨tb, 0, none⟩)) (by simp [go_sem, hc, hf, hgl, ↓IntWalk.iteOmega, a23, *]) rfl
      · refine relStep_plain rfl ?_
        intro Ac w5 hp
        have hb := hp.bel
        have a24 : Ac.eval (.tmp 24) = .pointer (some ⟨tb, 0, none⟩) := hp.dep 1 (by kernel_rfl)
        have hc := evalC Ac; have hf := evalF Ac; have hgl := evalG Ac
        obtain ⟨ρ, hρ⟩ : ∃ ρ, Ac.eval = ρ := ⟨_, rfl⟩
        rw [hρ] at a24 hc hf hgl
        exact relPure hρ (.pointer (some ⟨tb, 4, none⟩)) (by simp [go_sem, hc, hf, hgl, ↓IntWalk.iteOmega, a24, *]) rfl
      · refine relStep_plain rfl ?_
        intro Ac w5 hp
        have hb := hp.bel
        have a25 : Ac.eval (.tmp 25) = .pointer (some ⟨tb, 4, none⟩) := hp.dep 2 (by kernel_rfl)
        have ht5 := (HK4.out.below hb).ft
        have t0 : w5.cell? ⟨tb, 0, none⟩ = some (.slice none 0 0) := ht5.cell 0
        have t1 : w5.cell? ⟨tb, 1, none⟩ = some (.slice none 0 0) := ht5.cell 1
        have t2 : w5.cell? ⟨tb, 2, none⟩ = some (.slice none 0 0) := ht5.cell 2
        have t3 : w5.cell? ⟨tb, 3, none⟩ = some (.slice none 0 0) := ht5.cell 3
        have t4 : w5.cell? ⟨tb, 4, none⟩ = some (.pointer (some ⟨gE, 0, none⟩)) := ht5.cell 4
        have hc := evalC Ac; have hf := evalF Ac; have hgl := evalG Ac
        obtain ⟨ρ, hρ⟩ : ∃ ρ, Ac.eval = ρ := ⟨_, rfl⟩
        rw [hρ] at a25 hc hf hgl
        exact relPure hρ (.pointer (some ⟨gE, 0, none⟩)) (by simp [go_sem, hc, hf, hgl, ↓IntWalk.iteOmega, a25, *]) rfl
      · refine relStep_plain rfl ?_
        intro Ac w5 hp
        have hb := hp.bel
        have a7 : Ac.eval (.tmp 7) = .pointer (some ⟨RA, 0, none⟩) := hp.out 7 (by rfl)
        have ha5 := HA4.out.below hb HA4.out.lt
        have y0 : w5.cell? ⟨RA, 0, none⟩ = some (.int .u32 (a : Int)) := ha5.cell 0
        have y1 : w5.cell? ⟨RA, 1, none⟩ = some (.int .i64 (n : Int)) := ha5.cell 1
        have hc := evalC Ac; have hf := evalF Ac; have hgl := evalG Ac
        obtain ⟨ρ, hρ⟩ : ∃ ρ, Ac.eval = ρ := ⟨_, rfl⟩
        rw [hρ] at a7 hc hf hgl
        exact relPure hρ (.agg #[.int .u32 (a : Int), .int .i64 (n : Int)]) (by simp [go_sem, hc, hf, hgl, ↓IntWalk.iteOmega, a7, *]) rfl
      · refine relStep_plain rfl ?_
        intro Ac w5 hp
        have hb := hp.bel
        have a26 : Ac.eval (.tmp 26) = .pointer (some ⟨gE, 0, none⟩) := hp.dep 3 (by kernel_rfl)
        have a27 : Ac.eval (.tmp 27) = .agg #[.int .u32 (a : Int), .int .i64 (n : Int)] := hp.dep 4 (by kernel_rfl)
        have hc := evalC Ac; have hf := evalF Ac; have hgl := evalG Ac
        obtain ⟨ρ, hρ⟩ : ∃ ρ, Ac.eval = ρ := ⟨_, rfl⟩
        rw [hρ] at a26 a27 hc hf hgl
        refine relCall hρ 106 #[.pointer (some ⟨gE, 0, none⟩), .agg #[.int .u32 (a : Int), .int .i64 (n : Int)]] (by simp [go_sem, hc, hf, hgl, ↓IntWalk.iteOmega, a26, a27, *]) ?_
        refine (HGt.out w5 hb).mono ?_
        rintro e w6 ⟨hb6, rfl⟩
        exact ⟨_, rfl, rfl, hb6⟩
      · refine relStep_plain rfl ?_
        intro Ac w5 hp
        have hb := hp.bel
        have a28 : Ac.eval (.tmp 28) = .tuple #[.pointer (some ⟨en, 0, none⟩), .bool true] := hp.dep 5 (by kernel_rfl)
        have hc := evalC Ac; have hf := evalF Ac; have hgl := evalG Ac
        obtain ⟨ρ, hρ⟩ : ∃ ρ, Ac.eval = ρ := ⟨_, rfl⟩
        rw [hρ] at a28 hc hf hgl
        exact relPure hρ (.tuple #[.pointer (some ⟨en, 0, none⟩), .bool true]) (by simp [go_sem, hc, hf, hgl, ↓IntWalk.iteOmega, a28, *]) rfl
      · refine relStep_plain rfl ?_
        intro Ac w5 hp
        have hb := hp.bel
        have a22 : Ac.eval (.tmp 22) = .tuple #[.pointer (some ⟨en, 0, none⟩), .bool true] := hp.dep 6 (by kernel_rfl)
        have hc := evalC Ac; have hf := evalF Ac; have hgl := evalG Ac
        obtain ⟨ρ, hρ⟩ : ∃ ρ, Ac.eval = ρ := ⟨_, rfl⟩
        rw [hρ] at a22 hc hf hgl
        exact relPure hρ (.pointer (some ⟨en, 0, none⟩)) (by simp [go_sem, hc, hf, hgl, ↓IntWalk.iteOmega, a22, *]) rfl
      · refine relStep_plain rfl ?_
        intro Ac w5 hp
        have hb := hp.bel
        have a22 : Ac.eval (.tmp 22) = .tuple #[.pointer (some ⟨en, 0, none⟩), .bool true] := hp.dep 6 (by kernel_rfl)
        have hc := evalC Ac; have hf := evalF Ac; have hgl := evalG Ac
        obtain ⟨ρ, hρ⟩ : ∃ ρ, Ac.eval = ρ := ⟨_, rfl⟩
        rw [hρ] at a22 hc hf hgl
        exact relPure hρ (.bool true) (by simp [go_sem, hc, hf, hgl, ↓IntWalk.iteOmega, a22, *]) rfl
      · refine relStep_plain rfl ?_
        intro Ac w5 hp
        have hb := hp.bel
        have a29 : Ac.eval (.tmp 29) = .pointer (some ⟨en, 0, none⟩) := hp.dep 7 (by kernel_rfl)
        have hc := evalC Ac; have hf := evalF Ac; have hgl := evalG Ac
        obtain ⟨ρ, hρ⟩ : ∃ ρ, Ac.eval = ρ := ⟨_, rfl⟩
        rw [hρ] at a29 hc hf hgl
        exact relPure hρ (.pointer (some ⟨en, 0, none⟩)) (by simp [go_sem, hc, hf, hgl, ↓IntWalk.iteOmega, a29, *]) rfl
      · refine relStep_plain rfl ?_
        intro Ac w5 hp
        have hb := hp.bel
        have a30 : Ac.eval (.tmp 30) = .bool true := hp.dep 8 (by kernel_rfl)
        have hc := evalC Ac; have hf := evalF Ac; have hgl := evalG Ac
        obtain ⟨ρ, hρ⟩ : ∃ ρ, Ac.eval = ρ := ⟨_, rfl⟩
        rw [hρ] at a30 hc hf hgl
        exact relPure hρ (.bool true) (by simp [go_sem, hc, hf, hgl, ↓IntWalk.iteOmega, a30, *]) rfl
      intro u w5 hb7 hall
      have e8 : u 9 = .pointer (some ⟨en, 0, none⟩) := relAll_at hall (i := 9) (by decide +kernel)
      clear hall
      simp only [List.drop_succ_cons, List.drop_zero, List.take_succ_cons, List.take_zero, putAll, Act.put, List.setIfInBounds_toArray, List.set_cons_zero, List.set_cons_succ, Nat.zero_add, Nat.reduceAdd, e8]
      have HB5 := hide (HB4.out.trans (hb7.mono HB4.out.size))
      have HK5 := hide (HK4.out.below hb7)
      have HX5 := hide (HX4.out.below hb7 HX4.out.lt)
      have HA5 := hide (HA4.out.below hb7 HA4.out.lt)
      clear hb7
      have HPm : Hid (∀ W, Calls Tryz.prog 71 #[.agg #[.slice none 0 0, .slice none 0 0, .slice none 0 0, .slice none 0 0], .string ⟨#[]⟩, .agg #[.int .u32 (c : Int), .int .i64 (k : Int)], .agg #[.int .i64 0, .int .i64 0, .slice none 0 0, .int .u32 0, .int .u32 0, .int .u32 0, .int .u32 0, .int .u32 0, .slice none 0 0]] W fun e w' => e = .returned (.bool true) ∧ Below W.heap.size W w') := hide (fun W => permits_nil (none, 0, 0) (none, 0, 0) (none, 0, 0) (none, 0, 0) (c : Int) (k : Int) at0 rfl rfl _ W ⟨none, 0, 0, none, 0, 0, rfl, LstAt.none_, ⟨rfl, Nat.le_refl _, Nat.zero_le _, by simp [at0], fun h => absurd h (by omega)⟩⟩)
      go_upto_region 6 with fail
      have Hmn := hide (show AllMono [(fun v _ => v = .pointer (some ⟨tb, 0, none⟩)), (fun v _ => v = .pointer (some ⟨tb, 0, none⟩)), (fun v _ => v = .pointer (some ⟨tb, 0, none⟩)), (fun v _ => v = .agg #[.slice none 0 0, .slice none 0 0, .slice none 0 0, .slice none 0 0]), (fun v _ => v = .pointer (some ⟨en, 0, none⟩)), (fun v _ => v = .pointer (some ⟨en, 0, none⟩)), (fun v _ => v = .pointer (some ⟨en, 0, none⟩)), (fun v _ => v = .pointer (some ⟨en, 6, none⟩)), (fun v _ => v = .string ⟨#[]⟩), (fun v _ => v = .pointer (some ⟨w.heap.size, 0, none⟩)), (fun v _ => v = .agg #[.int .u32 (c : Int), .int .i64 (k : Int)]), (fun v _ => v = .pointer (some ⟨w.heap.size, 2, none⟩)), (fun v _ => v = .agg #[.int .i64 0, .int .i64 0, .slice none 0 0, .int .u32 0, .int .u32 0, .int .u32 0, .int .u32 0, .int .u32 0, .slice none 0 0]), (fun v _ => v = .bool true)] from ⟨fun _ _ _ _ h => h, fun _ _ _ _ h => h, fun _ _ _ _ h => h, fun _ _ _ _ h => h, fun _ _ _ _ h => h, fun _ _ _ _ h => h, fun _ _ _ _ h => h, fun _ _ _ _ h => h, fun _ _ _ _ h => h, fun _ _ _ _ h => h, fun _ _ _ _ h => h, fun _ _ _ _ h => h, fun _ _ _ _ h => h, fun _ _ _ _ h => h, trivial⟩)
      refine wp_region_rel _ (by kernel_rfl) (by kernel_rfl) (relMono _ Hmn.out) ⟨?_, ?_, ?_, ?_, ?_, ?_, ?_, ?_, ?_, ?_, ?_, ?_, ?_, ?_, trivial⟩ ?_
      · refine relStep_plain rfl ?_
        intro Ac w5 hp
        have hb := hp.bel
        have a0 : Ac.eval (.tmp 0) = .pointer (some ⟨tb, 0, none⟩) := hp.out 0 (by rfl)
        have hc := evalC Ac; have hf := evalF Ac; have hgl := evalG Ac
        obtain ⟨ρ, hρ⟩ : ∃ ρ, Ac.eval = ρ := ⟨_, rfl⟩
        rw [hρ] at a0 hc hf hgl
        exact relPure hρ (.pointer (some ⟨tb, 0, none⟩)) (by simp [go_sem, hc, hf, hgl, ↓IntWalk.iteOmega, a0, *]) rfl
      · refine relStep_plain rfl ?_
        intro Ac w5 hp
        have hb := hp.bel
        have a31 : Ac.eval (.tmp 31) = .pointer (some ⟨tb, 0, none⟩) := hp.dep 0 (by kernel_rfl)
        have hc := evalC Ac; have hf := evalF Ac; have hgl := evalG Ac
        obtain ⟨ρ, hρ⟩ : ∃ ρ, Ac.eval = ρ := ⟨_, rfl⟩
        rw [hρ] at a31 hc hf hgl
        exact relPure hρ (.pointer (some ⟨tb, 0, none⟩)) (by simp [go_sem, hc, hf, hgl, ↓IntWalk.iteOmega, a31, *]) rfl
      · refine relStep_plain rfl ?_
        intro Ac w5 hp
        have hb := hp.bel
        have a32 : Ac.eval (.tmp 32) = .pointer (some ⟨tb, 0, none⟩) := hp.dep 1 (by kernel_rfl)
        have hc := evalC Ac; have hf := evalF Ac; have hgl := evalG Ac
        obtain ⟨ρ, hρ⟩ : ∃ ρ, Ac.eval = ρ := ⟨_, rfl⟩
        rw [hρ] at a32 hc hf hgl
        exact relPure hρ (.pointer (some ⟨tb, 0, none⟩)) (by simp [go_sem, hc, hf, hgl, ↓IntWalk.iteOmega, a32, *]) rfl
      · refine relStep_plain rfl ?_
        intro Ac w5 hp
        have hb := hp.bel
        have a33 : Ac.eval (.tmp 33) = .pointer (some ⟨tb, 0, none⟩) := hp.dep 2 (by kernel_rfl)
        have ht5 := (HK5.out.below hb).ft
        have t0 : w5.cell? ⟨tb, 0, none⟩ = some (.slice none 0 0) := ht5.cell 0
        have t1 : w5.cell? ⟨tb, 1, none⟩ = some (.slice none 0 0) := ht5.cell 1
        have t2 : w5.cell? ⟨tb, 2, none⟩ = some (.slice none 0 0) := ht5.cell 2
        have t3 : w5.cell? ⟨tb, 3, none⟩ = some (.slice none 0 0) := ht5.cell 3
        have t4 : w5.cell? ⟨tb, 4, none⟩ = some (.pointer (some ⟨gE, 0, none⟩)) := ht5.cell 4
        have hc := evalC Ac; have hf := evalF Ac; have hgl := evalG Ac
        obtain ⟨ρ, hρ⟩ : ∃ ρ, Ac.eval = ρ := ⟨_, rfl⟩
        rw [hρ] at a33 hc hf hgl
        exact relPure hρ (.agg #[.slice none 0 0, .slice none 0 0, .slice none 0 0, .slice none 0 0]) (by simp [go_sem, hc, hf, hgl, ↓IntWalk.iteOmega, a33, *]) rfl
      · refine relStep_plain rfl ?_
        intro Ac w5 hp
        have hb := hp.bel
        have a8 : Ac.eval (.tmp 8) = .pointer (some ⟨en, 0, none⟩) := hp.out 8 (by rfl)
        have hc := evalC Ac; have hf := evalF Ac; have hgl := evalG Ac
        obtain ⟨ρ, hρ⟩ : ∃ ρ, Ac.eval = ρ := ⟨_, rfl⟩
        rw [hρ] at a8 hc hf hgl
        exact relPure hρ (.pointer (some ⟨en, 0, none⟩)) (by simp [go_sem, hc, hf, hgl, ↓IntWalk.iteOmega, a8, *]) rfl
      · refine relStep_plain rfl ?_
        intro Ac w5 hp
        have hb := hp.bel
        have a35 : Ac.eval (.tmp 35) = .pointer (some ⟨en, 0, none⟩) := hp.dep 4 (by kernel_rfl)
        have hc := evalC Ac; have hf := evalF Ac; have hgl := evalG Ac
        obtain ⟨ρ, hρ⟩ : ∃ ρ, Ac.eval = ρ := ⟨_, rfl⟩
        rw [hρ] at a35 hc hf hgl
        exact relPure hρ (.pointer (some ⟨en, 0, none⟩)) (by simp [go_sem, hc, hf, hgl, ↓IntWalk.iteOmega, a35, *]) rfl
      · refine relStep_plain rfl ?_
        intro Ac w5 hp
        have hb := hp.bel
        have a36 : Ac.eval (.tmp 36) = .pointer (some ⟨en, 0, none⟩) := hp.dep 5 (by kernel_rfl)
        have hc := evalC Ac; have hf := evalF Ac; have hgl := evalG Ac
        obtain ⟨ρ, hρ⟩ : ∃ ρ, Ac.eval = ρ := ⟨_, rfl⟩
        rw [hρ] at a36 hc hf hgl
        exact relPure hρ (.pointer (some ⟨en, 0, none⟩)) (by simp [go_sem, hc, hf, hgl, ↓IntWalk.iteOmega, a36, *]) rfl
      · refine relStep_plain rfl ?_
        intro Ac w5 hp
        have hb := hp.bel
        have a37 : Ac.eval (.tmp 37) = .pointer (some ⟨en, 0, none⟩) := hp.dep 6 (by kernel_rfl)
        have hc := evalC Ac; have hf := evalF Ac; have hgl := evalG Ac
        obtain ⟨ρ, hρ⟩ : ∃ ρ, Ac.eval = ρ := ⟨_, rfl⟩
        rw [hρ] at a37 hc hf hgl
        exact relPure hρ (.pointer (some ⟨en, 6, none⟩)) (by simp [go_sem, hc, hf, hgl, ↓IntWalk.iteOmega, a37, *]) rfl
      · refine relStep_plain rfl ?_
        intro Ac w5 hp
        have hb := hp.bel
        have a38 : Ac.eval (.tmp 38) = .pointer (some ⟨en, 6, none⟩) := hp.dep 7 (by kernel_rfl)
        have hn5 := (HK5.out.below hb).fn
        have n6 : w5.cell? ⟨en, 6, none⟩ = some (.string ⟨#[]⟩) := hn5.cell 6
        have hc := evalC Ac; have hf := evalF Ac; have hgl := evalG Ac
        obtain ⟨ρ, hρ⟩ : ∃ ρ, Ac.eval = ρ := ⟨_, rfl⟩
        rw [hρ] at a38 hc hf hgl
        exact relPure hρ (.string ⟨#[]⟩) (by simp [go_sem, hc, hf, hgl, ↓IntWalk.iteOmega, a38, *]) rfl
      · refine relStep_plain rfl ?_
        intro Ac w5 hp
        have hb := hp.bel
        have a3 : Ac.eval (.tmp 3) = .pointer (some ⟨w.heap.size, 0, none⟩) := hp.out 3 (by rfl)
        have hc := evalC Ac; have hf := evalF Ac; have hgl := evalG Ac
        obtain ⟨ρ, hρ⟩ : ∃ ρ, Ac.eval = ρ := ⟨_, rfl⟩
        rw [hρ] at a3 hc hf hgl
        exact relPure hρ (.pointer (some ⟨w.heap.size, 0, none⟩)) (by simp [go_sem, hc, hf, hgl, ↓IntWalk.iteOmega, a3, *]) rfl
      · refine relStep_plain rfl ?_
        intro Ac w5 hp
        have hb := hp.bel
        have a40 : Ac.eval (.tmp 40) = .pointer (some ⟨w.heap.size, 0, none⟩) := hp.dep 9 (by kernel_rfl)
        have hx5 := HX5.out.below hb HX5.out.lt
        have x0 : w5.cell? ⟨w.heap.size, 0, none⟩ = some (.int .u32 (c : Int)) := hx5.cell 0
        have x1 : w5.cell? ⟨w.heap.size, 1, none⟩ = some (.int .i64 (k : Int)) := hx5.cell 1
        have x2 : w5.cell? ⟨w.heap.size, 2, none⟩ = some (.int .i64 0) := hx5.cell 2
        have x3 : w5.cell? ⟨w.heap.size, 3, none⟩ = some (.int .i64 0) := hx5.cell 3
        have x4 : w5.cell? ⟨w.heap.size, 4, none⟩ = some (.slice none 0 0) := hx5.cell 4
        have x5 : w5.cell? ⟨w.heap.size, 5, none⟩ = some (.int .u32 0) := hx5.cell 5
        have x6 : w5.cell? ⟨w.heap.size, 6, none⟩ = some (.int .u32 0) := hx5.cell 6
        have x7 : w5.cell? ⟨w.heap.size, 7, none⟩ = some (.int .u32 0) := hx5.cell 7
        have x8 : w5.cell? ⟨w.heap.size, 8, none⟩ = some (.int .u32 0) := hx5.cell 8
        have x9 : w5.cell? ⟨w.heap.size, 9, none⟩ = some (.int .u32 0) := hx5.cell 9
        have x10 : w5.cell? ⟨w.heap.size, 10, none⟩ = some (.slice none 0 0) := hx5.cell 10
        have x11 : w5.cell? ⟨w.heap.size, 11, none⟩ = some (.int .u32 0) := hx5.cell 11
        have x12 : w5.cell? ⟨w.heap.size, 12, none⟩ = some (.int .u32 0) := hx5.cell 12
        have x13 : w5.cell? ⟨w.heap.size, 13, none⟩ = some (.int .u32 0) := hx5.cell 13
        have x14 : w5.cell? ⟨w.heap.size, 14, none⟩ = some (.bool false) := hx5.cell 14
        have x15 : w5.cell? ⟨w.heap.size, 15, none⟩ = some (.bool false) := hx5.cell 15
        have hc := evalC Ac; have hf := evalF Ac; have hgl := evalG Ac
        obtain ⟨ρ, hρ⟩ : ∃ ρ, Ac.eval = ρ := ⟨_, rfl⟩
        rw [hρ] at a40 hc hf hgl
        exact relPure hρ (.agg #[.int .u32 (c : Int), .int .i64 (k : Int)]) (by simp [go_sem, hc, hf, hgl, ↓IntWalk.iteOmega, a40, *]) rfl
      · refine relStep_plain rfl ?_
        intro Ac w5 hp
        have hb := hp.bel
        have a3 : Ac.eval (.tmp 3) = .pointer (some ⟨w.heap.size, 0, none⟩) := hp.out 3 (by rfl)
        have hc := evalC Ac; have hf := evalF Ac; have hgl := evalG Ac
        obtain ⟨ρ, hρ⟩ : ∃ ρ, Ac.eval = ρ := ⟨_, rfl⟩
        rw [hρ] at a3 hc hf hgl
        exact relPure hρ (.pointer (some ⟨w.heap.size, 2, none⟩)) (by simp [go_sem, hc, hf, hgl, ↓IntWalk.iteOmega, a3, *]) rfl
      · refine relStep_plain rfl ?_
        intro Ac w5 hp
        have hb := hp.bel
        have a42 : Ac.eval (.tmp 42) = .pointer (some ⟨w.heap.size, 2, none⟩) := hp.dep 11 (by kernel_rfl)
        have hx5 := HX5.out.below hb HX5.out.lt
        have x0 : w5.cell? ⟨w.heap.size, 0, none⟩ = some (.int .u32 (c : Int)) := hx5.cell 0
        have x1 : w5.cell? ⟨w.heap.size, 1, none⟩ = some (.int .i64 (k : Int)) := hx5.cell 1
        have x2 : w5.cell? ⟨w.heap.size, 2, none⟩ = some (.int .i64 0) := hx5.cell 2
        have x3 : w5.cell? ⟨w.heap.size, 3, none⟩ = some (.int .i64 0) := hx5.cell 3
        have x4 : w5.cell? ⟨w.heap.size, 4, none⟩ = some (.slice none 0 0) := hx5.cell 4
        have x5 : w5.cell? ⟨w.heap.size, 5, none⟩ = some (.int .u32 0) := hx5.cell 5
        have x6 : w5.cell? ⟨w.heap.size, 6, none⟩ = some (.int .u32 0) := hx5.cell 6
        have x7 : w5.cell? ⟨w.heap.size, 7, none⟩ = some (.int .u32 0) := hx5.cell 7
        have x8 : w5.cell? ⟨w.heap.size, 8, none⟩ = some (.int .u32 0) := hx5.cell 8
        have x9 : w5.cell? ⟨w.heap.size, 9, none⟩ = some (.int .u32 0) := hx5.cell 9
        have x10 : w5.cell? ⟨w.heap.size, 10, none⟩ = some (.slice none 0 0) := hx5.cell 10
        have x11 : w5.cell? ⟨w.heap.size, 11, none⟩ = some (.int .u32 0) := hx5.cell 11
        have x12 : w5.cell? ⟨w.heap.size, 12, none⟩ = some (.int .u32 0) := hx5.cell 12
        have x13 : w5.cell? ⟨w.heap.size, 13, none⟩ = some (.int .u32 0) := hx5.cell 13
        have x14 : w5.cell? ⟨w.heap.size, 14, none⟩ = some (.bool false) := hx5.cell 14
        have x15 : w5.cell? ⟨w.heap.size, 15, none⟩ = some (.bool false) := hx5.cell 15
        have hc := evalC Ac; have hf := evalF Ac; have hgl := evalG Ac
        obtain ⟨ρ, hρ⟩ : ∃ ρ, Ac.eval = ρ := ⟨_, rfl⟩
        rw [hρ] at a42 hc hf hgl
        exact relPure hρ (.agg #[.int .i64 0, .int .i64 0, .slice none 0 0, .int .u32 0, .int .u32 0, .int .u32 0, .int .u32 0, .int .u32 0, .slice none 0 0]) (by simp [go_sem, hc, hf, hgl, ↓IntWalk.iteOmega, a42, *]) rfl
      · refine relStep_plain rfl ?_
        intro Ac w5 hp
        have hb := hp.bel
        have a34 : Ac.eval (.tmp 34) = .agg #[.slice none 0 0, .slice none 0 0, .slice none 0 0, .slice none 0 0] := hp.dep 3 (by kernel_rfl)
        have a39 : Ac.eval (.tmp 39) = .string ⟨#[]⟩ := hp.dep 8 (by kernel_rfl)
        have a41 : Ac.eval (.tmp 41) = .agg #[.int .u32 (c : Int), .int .i64 (k : Int)] := hp.dep 10 (by kernel_rfl)
        have a43 : Ac.eval (.tmp 43) = .agg #[.int .i64 0, .int .i64 0, .slice none 0 0, .int .u32 0, .int .u32 0, .int .u32 0, .int .u32 0, .int .u32 0, .slice none 0 0] := hp.dep 12 (by kernel_rfl)
        have hc := evalC Ac; have hf := evalF Ac; have hgl := evalG Ac
        obtain ⟨ρ, hρ⟩ : ∃ ρ, Ac.eval = ρ := ⟨_, rfl⟩
        rw [hρ] at a34 a39 a41 a43 hc hf hgl
        refine relCall hρ 71 #[.agg #[.slice none 0 0, .slice none 0 0, .slice none 0 0, .slice none 0 0], .string ⟨#[]⟩, .agg #[.int .u32 (c : Int), .int .i64 (k : Int)], .agg #[.int .i64 0, .int .i64 0, .slice none 0 0, .int .u32 0, .int .u32 0, .int .u32 0, .int .u32 0, .int .u32 0, .slice none 0 0]] (by simp [go_sem, hc, hf, hgl, ↓IntWalk.iteOmega, a34, a39, a41, a43, *]) ?_
        refine (HPm.out w5).mono ?_
        rintro e w6 ⟨rfl, hb6⟩
        exact ⟨_, rfl, rfl, hb6⟩
      intro u w6 hb7 hall
      have e44 : u 13 = .bool true := relAll_at hall (i := 13) (by decide +kernel)
      clear hall
      simp only [List.drop_succ_cons, List.drop_zero, List.take_succ_cons, List.take_zero, putAll, Act.put, List.setIfInBounds_toArray, List.set_cons_zero, List.set_cons_succ, Nat.zero_add, Nat.reduceAdd, e44]
      have HB6 := hide (HB5.out.trans (hb7.mono HB5.out.size))
      have HA6 := hide (HA5.out.below hb7 HA5.out.lt)
      have y0 : w6.cell? ⟨RA, 0, none⟩ = some (.int .u32 (a : Int)) := HA6.out.cell 0
      have y1 : w6.cell? ⟨RA, 1, none⟩ = some (.int .i64 (n : Int)) := HA6.out.cell 1
      clear hb7
      go_wp2_with (at_builtin; refine wpList_append_any _ rfl (.tmp 45) (.tmp 47) 45 rfl w6.heap.size 24 i0 _ 2 16 Tryz.underlying45 hi hz0 hz1 hz2 rfl (by decide) (.slice none 0 0) 0 [] rfl (World.ownsRow_nil _ _ _ _) (w6.heap.size + 1) (some ⟨w6.heap.size, 0, none⟩) 1 1 [.int .u32 (a : Int), .int .i64 (n : Int)] rfl (reads_blkN (Blk.new _ _ _) (by simp) rfl rfl) (by simp [Value.oneCell']) (by unfold maxLen; omega) (by omega) (by simp) ?_; intro v' w7 h5 h6 h7; rw [Nat.zero_add, List.nil_append] at h5; obtain ⟨A', c', rfl⟩ := own_slice h5; have hb8 : Below w6.heap.size w6 w7 := ((Below.refl _ _).alloc (Nat.le_refl _) _).grown h6 (by simp) (fun k hk => by simp [Value.ownBlock] at hk); have HL7 := hide (lp_own h5); have HB7 := hide (HB6.out.trans (hb8.mono HB6.out.size)); clear h5 h6 h7 hb8)
      go_roundw
      case rel => exact .inr ⟨rfl, A', c', rfl, HL7.out, HB7.out⟩
      case measure => simp [intOf]
    · have HL := hide hl
      have HB := hide hbl
      clear hl hbl y0 y1
      go_wp2
      go_ret
      exact ⟨A', c', rfl, HL.out, HB.out⟩
set_option maxRecDepth 100000 in
set_option maxHeartbeats 8000000 in
theorem meant_no (a n c k tb gE gW gB nb en : Nat) (wt bt : Tr Nat) (w : World) (hk : TK w a n tb gE gW gB nb en wt bt) (hC : PG c k) (hwi : (covB a (n : Int) c (k : Int) && !decide (c = a ∧ (k : Int) = (n : Int))) = false) (hbit : bitN c n = 0) (hm : n ≤ 31) :
    Calls Tryz.prog 108 #[.pointer (some ⟨tb, 0, none⟩), .agg #[.int .u32 (c : Int), .int .i64 (k : Int), .int .i64 0, .int .i64 0, .slice none 0 0, .int .u32 0, .int .u32 0, .int .u32 0, .int .u32 0, .int .u32 0, .slice none 0 0, .int .u32 0, .int .u32 0, .int .u32 0, .bool false, .bool false]] w fun e w' => e = .returned (.slice none 0 0) ∧ Below w.heap.size w w' := by
  obtain ⟨i0, hi, hz0, hz1, hz2⟩ := info_parts pxInfo
  obtain ⟨w1, hw1⟩ : ∃ w1, w.alloc (.cells #[.int .u32 (c : Int), .int .i64 (k : Int), .int .i64 0, .int .i64 0, .slice none 0 0, .int .u32 0, .int .u32 0, .int .u32 0, .int .u32 0, .int .u32 0, .slice none 0 0, .int .u32 0, .int .u32 0, .int .u32 0, .bool false, .bool false] 30) = w1 := ⟨_, rfl⟩
  have hb1 : Below w.heap.size w w1 := hw1 ▸ blkBelow1 w _
  have HX1 : Hid (Blk w1 w.heap.size 30 #[.int .u32 (c : Int), .int .i64 (k : Int), .int .i64 0, .int .i64 0, .slice none 0 0, .int .u32 0, .int .u32 0, .int .u32 0, .int .u32 0, .int .u32 0, .slice none 0 0, .int .u32 0, .int .u32 0, .int .u32 0, .bool false, .bool false]) := hide (hw1 ▸ Blk.new w _ _)
  have HK1 := hide (hk.below hb1)
  have HAb := hide (fun W (hb : Below w1.heap.size w1 W) => aboveE_no gE nb a n c k (.pointer (some ⟨en, 0, none⟩)) W hk.pg hC hwi hbit hm (HK1.out.below hb).fe (HK1.out.below hb).nd)
  have HB1 := hide hb1
  have HW1 := hide hw1
  have HC := hide hC
  clear hw1 hb1 hk hC hwi hbit
  go_enter Tryz.func108, Tryz.ntmps108
  go_upto_region 2 with fail
  rw [HW1.out]
  have Hmn := hide (show AllMono [(fun v _ => v = .pointer (some ⟨tb, 0, none⟩)), (fun v _ => v = .pointer (some ⟨tb, 0, none⟩)), (fun v _ => v = .pointer (some ⟨tb, 4, none⟩)), (fun v _ => v = .pointer (some ⟨gE, 0, none⟩)), (fun v _ => v = .pointer (some ⟨w.heap.size, 0, none⟩)), (fun v _ => v = .agg #[.int .u32 (c : Int), .int .i64 (k : Int)]), (fun v _ => v = .slice none 0 0), (fun v _ => v = .int .i64 0), (fun v _ => v = .int .i64 0)] from ⟨fun _ _ _ _ h => h, fun _ _ _ _ h => h, fun _ _ _ _ h => h, fun _ _ _ _ h => h, fun _ _ _ _ h => h, fun _ _ _ _ h => h, fun _ _ _ _ h => h, fun _ _ _ _ h => h, fun _ _ _ _ h => h, trivial⟩)
  refine wp_region_rel _ (by kernel_rfl) (by kernel_rfl) (relMono _ Hmn.out) ⟨?_, ?_, ?_, ?_, ?_, ?_, ?_, ?_, ?_, trivial⟩ ?_
  · refine relStep_plain rfl ?_
    intro Ac w5 hp
    have hb := hp.bel
    have a0 : Ac.eval (.tmp 0) = .pointer (some ⟨tb, 0, none⟩) := hp.out 0 (by rfl)
    have hc := evalC Ac; have hf := evalF Ac; have hgl := evalG Ac
    obtain ⟨ρ, hρ⟩ : ∃ ρ, Ac.eval = ρ := ⟨_, rfl⟩
    rw [hρ] at a0 hc hf hgl
    exact relPure hρ (.pointer (some ⟨tb, 0, none⟩)) (by simp [go_sem, hc, hf, hgl, ↓IntWalk.iteOmega, a0, *]) rfl
  · refine relStep_plain rfl ?_
    intro Ac w5 hp
    have hb := hp.bel
    have a10 : Ac.eval (.tmp 10) = .pointer (some ⟨tb, 0, none⟩) := hp.dep 0 (by kernel_rfl)
    have hc := evalC Ac; have hf := evalF Ac; have hgl := evalG Ac
    obtain ⟨ρ, hρ⟩ : ∃ ρ, Ac.eval = ρ := ⟨_, rfl⟩
    rw [hρ] at a10 hc hf hgl
    exact relPure hρ (.pointer (some ⟨tb, 0, none⟩)) (by simp [go_sem, hc, hf, hgl, ↓IntWalk.iteOmega, a10, *]) rfl
  · refine relStep_plain rfl ?_
    intro Ac w5 hp
    have hb := hp.bel
    have a11 : Ac.eval (.tmp 11) = .pointer (some ⟨tb, 0, none⟩) := hp.dep 1 (by kernel_rfl)
    have hc := evalC Ac; have hf := evalF Ac; have hgl := evalG Ac
    obtain ⟨ρ, hρ⟩ : ∃ ρ, Ac.eval = ρ := ⟨_, rfl⟩
    rw [hρ] at a11 hc hf hgl
    exact relPure hρ (.pointer (some ⟨tb, 4, none⟩)) (by simp [go_sem, hc, hf, hgl, ↓IntWalk.iteOmega, a11, *]) rfl
  · refine relStep_plain rfl ?_
    intro Ac w5 hp
    have hb := hp.bel
    have a12 : Ac.eval (.tmp 12) = .pointer (some ⟨tb, 4, none⟩) := hp.dep 2 (by kernel_rfl)
    have ht5 := (HK1.out.below hb).ft
    have t0 : w5.cell? ⟨tb, 0, none⟩ = some (.slice none 0 0) := ht5.cell 0
    have t1 : w5.cell? ⟨tb, 1, none⟩ = some (.slice none 0 0) := ht5.cell 1
    have t2 : w5.cell? ⟨tb, 2, none⟩ = some (.slice none 0 0) := ht5.cell 2
    have t3 : w5.cell? ⟨tb, 3, none⟩ = some (.slice none 0 0) := ht5.cell 3
    have t4 : w5.cell? ⟨tb, 4, none⟩ = some (.pointer (some ⟨gE, 0, none⟩)) := ht5.cell 4
    have hc := evalC Ac; have hf := evalF Ac; have hgl := evalG Ac
    obtain ⟨ρ, hρ⟩ : ∃ ρ, Ac.eval = ρ := ⟨_, rfl⟩
    rw [hρ] at a12 hc hf hgl
    exact relPure hρ (.pointer (some ⟨gE, 0, none⟩)) (by simp [go_sem, hc, hf, hgl, ↓IntWalk.iteOmega, a12, *]) rfl
  · refine relStep_plain rfl ?_
    intro Ac w5 hp
    have hb := hp.bel
    have a3 : Ac.eval (.tmp 3) = .pointer (some ⟨w.heap.size, 0, none⟩) := hp.out 3 (by rfl)
    have hc := evalC Ac; have hf := evalF Ac; have hgl := evalG Ac
    obtain ⟨ρ, hρ⟩ : ∃ ρ, Ac.eval = ρ := ⟨_, rfl⟩
    rw [hρ] at a3 hc hf hgl
    exact relPure hρ (.pointer (some ⟨w.heap.size, 0, none⟩)) (by simp [go_sem, hc, hf, hgl, ↓IntWalk.iteOmega, a3, *]) rfl
  · refine relStep_plain rfl ?_
    intro Ac w5 hp
    have hb := hp.bel
    have a14 : Ac.eval (.tmp 14) = .pointer (some ⟨w.heap.size, 0, none⟩) := hp.dep 4 (by kernel_rfl)
    have hx5 := HX1.out.below hb HX1.out.lt
    have x0 : w5.cell? ⟨w.heap.size, 0, none⟩ = some (.int .u32 (c : Int)) := hx5.cell 0
    have x1 : w5.cell? ⟨w.heap.size, 1, none⟩ = some (.int .i64 (k : Int)) := hx5.cell 1
    have x2 : w5.cell? ⟨w.heap.size, 2, none⟩ = some (.int .i64 0) := hx5.cell 2
    have x3 : w5.cell? ⟨w.heap.size, 3, none⟩ = some (.int .i64 0) := hx5.cell 3
    have x4 : w5.cell? ⟨w.heap.size, 4, none⟩ = some (.slice none 0 0) := hx5.cell 4
    have x5 : w5.cell? ⟨w.heap.size, 5, none⟩ = some (.int .u32 0) := hx5.cell 5
    have x6 : w5.cell? ⟨w.heap.size, 6, none⟩ = some (.int .u32 0) := hx5.cell 6
    have x7 : w5.cell? ⟨w.heap.size, 7, none⟩ = some (.int .u32 0) := hx5.cell 7
    have x8 : w5.cell? ⟨w.heap.size, 8, none⟩ = some (.int .u32 0) := hx5.cell 8
    have x9 : w5.cell? ⟨w.heap.size, 9, none⟩ = some (.int .u32 0) := hx5.cell 9
    have x10 : w5.cell? ⟨w.heap.size, 10, none⟩ = some (.slice none 0 0) := hx5.cell 10
    have x11 : w5.cell? ⟨w.heap.size, 11, none⟩ = some (.int .u32 0) := hx5.cell 11
    have x12 : w5.cell? ⟨w.heap.size, 12, none⟩ = some (.int .u32 0) := hx5.cell 12
    have x13 : w5.cell? ⟨w.heap.size, 13, none⟩ = some (.int .u32 0) := hx5.cell 13
    have x14 : w5.cell? ⟨w.heap.size, 14, none⟩ = some (.bool false) := hx5.cell 14
    have x15 : w5.cell? ⟨w.heap.size, 15, none⟩ = some (.bool false) := hx5.cell 15
    have hc := evalC Ac; have hf := evalF Ac; have hgl := evalG Ac
    obtain ⟨ρ, hρ⟩ : ∃ ρ, Ac.eval = ρ := ⟨_, rfl⟩
    rw [hρ] at a14 hc hf hgl
    exact relPure hρ (.agg #[.int .u32 (c : Int), .int .i64 (k : Int)]) (by simp [go_sem, hc, hf, hgl, ↓IntWalk.iteOmega, a14, *]) rfl
  · refine relStep_plain rfl ?_
    intro Ac w5 hp
    have hb := hp.bel
    have a13 : Ac.eval (.tmp 13) = .pointer (some ⟨gE, 0, none⟩) := hp.dep 3 (by kernel_rfl)
    have a15 : Ac.eval (.tmp 15) = .agg #[.int .u32 (c : Int), .int .i64 (k : Int)] := hp.dep 5 (by kernel_rfl)
    have hc := evalC Ac; have hf := evalF Ac; have hgl := evalG Ac
    obtain ⟨ρ, hρ⟩ : ∃ ρ, Ac.eval = ρ := ⟨_, rfl⟩
    rw [hρ] at a13 a15 hc hf hgl
    refine relCall hρ 163 #[.pointer (some ⟨gE, 0, none⟩), .agg #[.int .u32 (c : Int), .int .i64 (k : Int)]] (by simp [go_sem, hc, hf, hgl, ↓IntWalk.iteOmega, a13, a15, *]) ?_
    refine (HAb.out w5 hb).mono ?_
    rintro e w6 ⟨rfl, hb6⟩
    exact ⟨_, rfl, rfl, hb6⟩
  · refine relStep_plain rfl ?_
    intro Ac w5 hp
    have hb := hp.bel
    have a16 : Ac.eval (.tmp 16) = .slice none 0 0 := hp.dep 6 (by kernel_rfl)
    have hc := evalC Ac; have hf := evalF Ac; have hgl := evalG Ac
    obtain ⟨ρ, hρ⟩ : ∃ ρ, Ac.eval = ρ := ⟨_, rfl⟩
    rw [hρ] at a16 hc hf hgl
    exact relPure hρ (.int .i64 0) (by simp [go_sem, hc, hf, hgl, ↓IntWalk.iteOmega, a16, *]) rfl
  · refine relStep_plain rfl ?_
    intro Ac w5 hp
    have hb := hp.bel
    have hc := evalC Ac; have hf := evalF Ac; have hgl := evalG Ac
    obtain ⟨ρ, hρ⟩ : ∃ ρ, Ac.eval = ρ := ⟨_, rfl⟩
    rw [hρ] at hc hf hgl
    exact relPure hρ (.int .i64 0) (by simp [go_sem, hc, hf, hgl, ↓IntWalk.iteOmega, *]) rfl
  intro u w2 hb7 hall
  have e16 : u 6 = .slice none 0 0 := relAll_at hall (i := 6) (by decide +kernel)
  have e17 : u 7 = .int .i64 0 := relAll_at hall (i := 7) (by decide +kernel)
  have e18 : u 8 = .int .i64 0 := relAll_at hall (i := 8) (by decide +kernel)
  clear hall
  simp only [List.drop_succ_cons, List.drop_zero, List.take_succ_cons, List.take_zero, putAll, Act.put, List.setIfInBounds_toArray, List.set_cons_zero, List.set_cons_succ, Nat.zero_add, Nat.reduceAdd, e16, e17, e18]
  have HB2 := hide (HB1.out.trans (hb7.mono HB1.out.size))
  have HK2 := hide (HK1.out.below hb7)
  have HX2 := hide (HX1.out.below hb7 HX1.out.lt)
  clear hb7
  go_wp2
  go_loopw [5, 18] (fun ov iv wr => ov = .slice none 0 0 ∧ iv = .int .i64 0 ∧ wr = w2) (fun _ _ _ => 0)
  case atStart => exact ⟨rfl, rfl, rfl⟩
  case round =>
    obtain ⟨rfl, rfl, hwr⟩ := hrel
    have hwr' := hwr.symm
    subst hwr'
    clear hwr
    go_wp2
    go_ret
    exact ⟨rfl, HB2.out⟩
end Go.Proofs.YtcinjckajnnhmaaGreat
set_option linter.unusedSimpArgs false
set_option linter.unusedVariables false
namespace Go.Proofs.YtcinjckajnnhmaaGreat
open Go.RowKit Go.WideShapes Go.ChangeShapes
attribute [local go_sem] Oper.semAt_some
theorem getE_tk {a n tb gE gW gB nb en : Nat} {wt bt : Tr Nat} {w : World} (hk : TK w a n tb gE gW gB nb en wt bt) : ∀ W, Below w.heap.size w W → Calls Tryz.prog 106 #[.pointer (some ⟨gE, 0, none⟩), .agg #[.int .u32 (a : Int), .int .i64 (n : Int)]] W fun e w' => Below W.heap.size W w' ∧ e = .returned (.tuple #[.pointer (some ⟨en, 0, none⟩), .bool true]) := fun W hb => by
  have hK := hk.below hb
  have hg : trGet a n (.nd nb a n (some 0) .nil .nil) = some 0 := by
    have hcv : CvN a n a n := ⟨Nat.le_refl _, hK.pg.2.2⟩
    simp [trGet, hcv]
  have h := getE_any (F := fun _ => False) (R := RE en) gE a n (.nd nb a n (some 0) .nil .nil) W hK.pg hK.fe hK.fk.mem hK.fk.wf
  refine h.mono ?_
  rintro e w' ⟨hb', hm⟩
  rw [hg] at hm
  obtain ⟨v0, rfl, hf⟩ := hm
  have h1 : [v0] = [.pointer (some ⟨en, 0, none⟩)] := frs_here hf
  obtain rfl := List.head_eq_of_cons_eq h1
  exact ⟨hb', rfl⟩
theorem sortP_nil : sortP [] = [] := by
  have h : setOf ([] : List Nat) = [] := List.eq_nil_iff_forall_not_mem.2 (fun x hx => by rw [setOf_mem] at hx; simp at hx)
  simp [sortP, h]
theorem sortP_one {a n : Nat} (h : PG a n) : sortP [(a, n)] = [(a, n)] := by
  have h1 : setOf [pK (a, n)] = [pK (a, n)] := rise_ext (setOf_rise _) (by simp [Rise]) (fun x => by rw [setOf_mem])
  have h2 : (a, n) ∈ sortP [(a, n)] := (sortP_mem (by simpa using h) _).2 (by simp)
  have h3 : sortP [(a, n)] = [unK (pK (a, n))] := by simp [sortP, h1]
  rw [h3] at h2
  rw [h3]
  exact congrArg (fun x => [x]) (List.mem_singleton.1 h2).symm
set_option maxRecDepth 100000 in
set_option maxHeartbeats 8000000 in
theorem lay_no (a n c k tb gE gW gB nb en : Nat) (wt bt : Tr Nat) (w : World) (hk : TK w a n tb gE gW gB nb en wt bt) (hC : PG c k) :
    Calls Tryz.prog 110 #[.pointer (some ⟨tb, 0, none⟩), .agg #[.int .u32 (c : Int), .int .i64 (k : Int)], .slice none 0 0, .slice none 0 0] w fun e w' => ∃ A' c', e = .returned (.slice A' 0 c') ∧ TK w' a n tb gE gW gB nb en wt bt ∧ Below w.heap.size w w' := by
  obtain ⟨w1, hw1⟩ : ∃ w1, w.alloc (.cells #[.int .u32 (c : Int), .int .i64 (k : Int)] 24) = w1 := ⟨_, rfl⟩
  have hb1 : Below w.heap.size w w1 := hw1 ▸ blkBelow1 w _
  have HX1 : Hid (Blk w1 w.heap.size 24 #[.int .u32 (c : Int), .int .i64 (k : Int)]) := hide (hw1 ▸ Blk.new w _ _)
  have HK1 := hide (hk.below hb1)
  have HB1 := hide hb1
  have HW1 := hide hw1
  have HC := hide hC
  clear hw1 hk hC hb1
  go_enter Tryz.func110, Tryz.ntmps110
  go_upto_region 1 with fail
  rw [HW1.out]
  go_wp2
  go_loopw [19] (fun iv wr => iv = .int .i64 0 ∧ wr = w1) (fun _ _ => 0)
  case atStart => exact ⟨rfl, rfl⟩
  case round =>
  obtain ⟨rfl, hwr⟩ := hrel
  have hwr' := hwr.symm
  subst hwr'
  clear hwr
  go_wp2
  go_loopw [41] (fun iv wr => iv = .int .i64 0 ∧ wr = w1) (fun _ _ => 0)
  case atStart => exact ⟨rfl, rfl⟩
  case round =>
  obtain ⟨rfl, hwr⟩ := hrel
  have hwr' := hwr.symm
  subst hwr'
  clear hwr
  go_wp2_with fail
  refine (pconcat2_any none none 0 0 0 0 _ [] [] _ (blk_new' _ _ rfl) LstAt.none_ LstAt.none_ (by omega) (by omega)).mono ?_
  rintro e w8 ⟨A8, n8, c8, xs8, rfl, hlo8, hb8⟩
  have hl8 := hlo8.lst (by decide)
  have HB8 := hide (HB1.out.trans ((((Below.refl _ _).alloc (Nat.le_refl _) _).trans (hb8.mono (by simp))).mono HB1.out.size))
  have HK8 := hide ((HK1.out.below ((Below.refl _ _).alloc (Nat.le_refl _) _)).below hb8)
  have hn8 : n8 = 0 := by have := hl8.1; simpa using this.symm
  subst hn8
  have HL8 := hide hl8
  clear hl8 hlo8 hb8
  go_wp2_with fail
  refine (nSort_any A8 0 c8 [] w8 HL8.out (by simp) (by omega)).mono ?_
  rintro e w9 ⟨A9, c9, rfl, hown, hb9⟩
  rw [sortP_nil]
  have HB9 := hide (HB8.out.trans (hb9.mono HB8.out.size))
  have HK9 := hide (HK8.out.below hb9)
  clear hown hb9
  go_wp2
  go_ret
  exact ⟨A9, c9, rfl, HK9.out, HB9.out⟩
set_option maxRecDepth 100000 in
set_option maxHeartbeats 8000000 in
theorem lay_yes (a n c k tb gE gW gB nb en : Nat) (wt : Tr Nat) (w : World) (hk : TK w a n tb gE gW gB nb en wt .nil) (hC : PG c k) (A : Option Addr) (d : Nat) (hl : LP w A d a n) :
    Calls Tryz.prog 110 #[.pointer (some ⟨tb, 0, none⟩), .agg #[.int .u32 (c : Int), .int .i64 (k : Int)], .slice none 0 0, .slice A 1 d] w fun e w' => ∃ A' c' bb, e = .returned (.slice A' 1 c') ∧ LP w' A' c' a n ∧ TK w' a n tb gE gW gB nb en wt (.nd bb c k (some 0) .nil .nil) ∧ ChgS (fun k => k = gB) w w' := by
  obtain ⟨w1, hw1⟩ : ∃ w1, w.alloc (.cells #[.int .u32 (c : Int), .int .i64 (k : Int)] 24) = w1 := ⟨_, rfl⟩
  have hb1 : Below w.heap.size w w1 := hw1 ▸ blkBelow1 w _
  have HX1 : Hid (Blk w1 w.heap.size 24 #[.int .u32 (c : Int), .int .i64 (k : Int)]) := hide (hw1 ▸ Blk.new w _ _)
  have HK1 := hide (hk.below hb1)
  have HB1 := hide hb1
  have HW1 := hide hw1
  have HC := hide hC
  have HL1 := hide (hl.below hb1)
  clear hl
  clear hw1 hk hC hb1
  go_enter Tryz.func110, Tryz.ntmps110
  go_upto_region 1 with fail
  rw [HW1.out]
  go_wp2
  go_loopw [19] (fun iv wr => iv = .int .i64 0 ∧ wr = w1) (fun _ _ => 0)
  case atStart => exact ⟨rfl, rfl⟩
  case round =>
  obtain ⟨rfl, hwr⟩ := hrel
  have hwr' := hwr.symm
  subst hwr'
  clear hwr
  go_wp2
  obtain ⟨g, o, rfl, hgl, y0, y1⟩ := px_cells HL1.out.1
  go_loopw [41] (fun iv wr => (iv = .int .i64 0 ∧ wr = w1) ∨ (iv = .int .i64 1 ∧ ∃ bb, TK wr a n tb gE gW gB nb en wt (.nd bb c k (some 0) .nil .nil) ∧ LP wr (some ⟨g, o, none⟩) d a n ∧ ChgS (fun k => k = gB) w wr)) (fun iv _ => 1 - (intOf iv).toNat)
  case atStart => exact .inl ⟨rfl, rfl⟩
  case round =>
    rcases hrel with ⟨rfl, hwr⟩ | ⟨rfl, bb, hk, hl, hc⟩
    · have hwr' := hwr.symm
      subst hwr'
      clear hwr
      go_upto_region 10 with fail
      obtain ⟨w4, hw4⟩ : ∃ w4, w1.alloc (.cells #[.int .u32 (a : Int), .int .i64 (n : Int)] 24) = w4 := ⟨_, rfl⟩
      rw [hw4]
      have hb4 : Below w1.heap.size w1 w4 := hw4 ▸ blkBelow1 w1 _
      obtain ⟨RA, hRA⟩ : ∃ g, w1.heap.size = g := ⟨_, rfl⟩
      have HA4 : Hid (Blk w4 RA 24 #[.int .u32 (a : Int), .int .i64 (n : Int)]) := hide (hRA ▸ hw4 ▸ Blk.new w1 _ _)
      have HB4 := hide (HB1.out.trans (hb4.mono HB1.out.size))
      have HK4 := hide (HK1.out.below hb4)
      have HX4 := hide (HX1.out.below hb4 HX1.out.lt)
      have HL4 := hide (HL1.out.below hb4)
      rw [hRA]
      have HGt := hide (getE_tk HK4.out)
      clear hb4 hw4 hRA y0 y1
      have Hmn := hide (show AllMono [(fun v _ => v = .pointer (some ⟨tb, 0, none⟩)), (fun v _ => v = .pointer (some ⟨tb, 0, none⟩)), (fun v _ => v = .pointer (some ⟨tb, 4, none⟩)), (fun v _ => v = .pointer (some ⟨gE, 0, none⟩)), (fun v _ => v = .agg #[.int .u32 (a : Int), .int .i64 (n : Int)]), (fun v _ => v = .tuple #[.pointer (some ⟨en, 0, none⟩), .bool true]), (fun v _ => v = .tuple #[.pointer (some ⟨en, 0, none⟩), .bool true]), (fun v _ => v = .pointer (some ⟨en, 0, none⟩)), (fun v _ => v = .bool true), (fun v _ => v = .pointer (some ⟨en, 0, none⟩)), (fun v _ => v = .bool true)] from ⟨fun _ _ _ _ h => h, fun _ _ _ _ h => h, fun _ _ _ _ h => h, fun _ _ _ _ h => h, fun _ _ _ _ h => h, fun _ _ _ _ h => h, fun _ _ _ _ h => h, fun _ _ _ _ h => h, fun _ _ _ _ h => h, fun _ _ _ _ h => h, fun _ _ _ _ h => h, trivial⟩)
      refine wp_region_rel _ (by kernel_rfl) (by kernel_rfl) (relMono _ Hmn.out) ⟨?_, ?_, ?_, ?_, ?_, ?_, ?_, ?_, ?_, ?_, ?_, trivial⟩ ?_
      · refine relStep_plain rfl ?_
        intro Ac w5 hp
        have hb := hp.bel
        have a0 : Ac.eval (.tmp 0) = .pointer (some ⟨tb, 0, none⟩) := hp.out 0 (by rfl)
        have hc := evalC Ac; have hf := evalF Ac; have hgl := evalG Ac
        obtain ⟨ρ, hρ⟩ : ∃ ρ, Ac.eval = ρ := ⟨_, rfl⟩
        rw [hρ] at a0 hc hf hgl
        exact relPure hρ (.pointer (some ⟨tb, 0, none⟩)) (by simp [go_sem, hc, hf, hgl, ↓IntWalk.iteOmega, a0, *]) rfl
      · refine relStep_plain rfl ?_
        intro Ac w5 hp
        have hb := hp.bel
        have a46 : Ac.eval (.tmp 46) = .pointer (some ⟨tb, 0, none⟩) := hp.dep 0 (by kernel_rfl)
        have hc := evalC Ac; have hf := evalF Ac; have hgl := evalG Ac
        obtain ⟨ρ, hρ⟩ : ∃ ρ, Ac.eval = ρ := ⟨_, rfl⟩
        rw [hρ] at a46 hc hf hgl
        exact relPure hρ (.pointer (some ⟨tb, 0, none⟩)) (by simp [go_sem, hc, hf, hgl, ↓IntWalk.iteOmega, a46, *]) rfl
      · refine relStep_plain rfl ?_
        intro Ac w5 hp
        have hb := hp.bel
        have a47 : Ac.eval (.tmp 47) = .pointer (some ⟨tb, 0, none⟩) := hp.dep 1 (by kernel_rfl)
        have hc := evalC Ac; have hf := evalF Ac; have hgl := evalG Ac
        obtain ⟨ρ, hρ⟩ : ∃ ρ, Ac.eval = ρ := ⟨_, rfl⟩
        rw [hρ] at a47 hc hf hgl
        exact relPure hρ (.pointer (some ⟨tb, 4, none⟩)) (by simp [go_sem, hc, hf, hgl, ↓IntWalk.iteOmega, a47, *]) rfl
      · refine relStep_plain rfl ?_
        intro Ac w5 hp
        have hb := hp.bel
        have a48 : Ac.eval (.tmp 48) = .pointer (some ⟨tb, 4, none⟩) := hp.dep 2 (by kernel_rfl)
        have ht5 := (HK4.out.below hb).ft
        have t4 : w5.cell? ⟨tb, 4, none⟩ = some (.pointer (some ⟨gE, 0, none⟩)) := ht5.cell 4
        have hc := evalC Ac; have hf := evalF Ac; have hgl := evalG Ac
        obtain ⟨ρ, hρ⟩ : ∃ ρ, Ac.eval = ρ := ⟨_, rfl⟩
        rw [hρ] at a48 hc hf hgl
        exact relPure hρ (.pointer (some ⟨gE, 0, none⟩)) (by simp [go_sem, hc, hf, hgl, ↓IntWalk.iteOmega, a48, *]) rfl
      · refine relStep_plain rfl ?_
        intro Ac w5 hp
        have hb := hp.bel
        have a14 : Ac.eval (.tmp 14) = .pointer (some ⟨RA, 0, none⟩) := hp.out 14 (by rfl)
        have ha5 := HA4.out.below hb HA4.out.lt
        have y0 : w5.cell? ⟨RA, 0, none⟩ = some (.int .u32 (a : Int)) := ha5.cell 0
        have y1 : w5.cell? ⟨RA, 1, none⟩ = some (.int .i64 (n : Int)) := ha5.cell 1
        have hc := evalC Ac; have hf := evalF Ac; have hgl := evalG Ac
        obtain ⟨ρ, hρ⟩ : ∃ ρ, Ac.eval = ρ := ⟨_, rfl⟩
        rw [hρ] at a14 hc hf hgl
        exact relPure hρ (.agg #[.int .u32 (a : Int), .int .i64 (n : Int)]) (by simp [go_sem, hc, hf, hgl, ↓IntWalk.iteOmega, a14, *]) rfl
      · refine relStep_plain rfl ?_
        intro Ac w5 hp
        have hb := hp.bel
        have a49 : Ac.eval (.tmp 49) = .pointer (some ⟨gE, 0, none⟩) := hp.dep 3 (by kernel_rfl)
        have a50 : Ac.eval (.tmp 50) = .agg #[.int .u32 (a : Int), .int .i64 (n : Int)] := hp.dep 4 (by kernel_rfl)
        have hc := evalC Ac; have hf := evalF Ac; have hgl := evalG Ac
        obtain ⟨ρ, hρ⟩ : ∃ ρ, Ac.eval = ρ := ⟨_, rfl⟩
        rw [hρ] at a49 a50 hc hf hgl
        refine relCall hρ 106 #[.pointer (some ⟨gE, 0, none⟩), .agg #[.int .u32 (a : Int), .int .i64 (n : Int)]] (by simp [go_sem, hc, hf, hgl, ↓IntWalk.iteOmega, a49, a50, *]) ?_
        refine (HGt.out w5 hb).mono ?_
        rintro e w6 ⟨hb6, rfl⟩
        exact ⟨_, rfl, rfl, hb6⟩
      · refine relStep_plain rfl ?_
        intro Ac w5 hp
        have hb := hp.bel
        have a51 : Ac.eval (.tmp 51) = .tuple #[.pointer (some ⟨en, 0, none⟩), .bool true] := hp.dep 5 (by kernel_rfl)
        have hc := evalC Ac; have hf := evalF Ac; have hgl := evalG Ac
        obtain ⟨ρ, hρ⟩ : ∃ ρ, Ac.eval = ρ := ⟨_, rfl⟩
        rw [hρ] at a51 hc hf hgl
        exact relPure hρ (.tuple #[.pointer (some ⟨en, 0, none⟩), .bool true]) (by simp [go_sem, hc, hf, hgl, ↓IntWalk.iteOmega, a51, *]) rfl
      · refine relStep_plain rfl ?_
        intro Ac w5 hp
        have hb := hp.bel
        have a45 : Ac.eval (.tmp 45) = .tuple #[.pointer (some ⟨en, 0, none⟩), .bool true] := hp.dep 6 (by kernel_rfl)
        have hc := evalC Ac; have hf := evalF Ac; have hgl := evalG Ac
        obtain ⟨ρ, hρ⟩ : ∃ ρ, Ac.eval = ρ := ⟨_, rfl⟩
        rw [hρ] at a45 hc hf hgl
        exact relPure hρ (.pointer (some ⟨en, 0, none⟩)) (by simp [go_sem, hc, hf, hgl, ↓IntWalk.iteOmega, a45, *]) rfl
      · refine relStep_plain rfl ?_
        intro Ac w5 hp
        have hb := hp.bel
        have a45 : Ac.eval (.tmp 45) = .tuple #[.pointer (some ⟨en, 0, none⟩), .bool true] := hp.dep 6 (by kernel_rfl)
        have hc := evalC Ac; have hf := evalF Ac; have hgl := evalG Ac
        obtain ⟨ρ, hρ⟩ : ∃ ρ, Ac.eval = ρ := ⟨_, rfl⟩
        rw [hρ] at a45 hc hf hgl
        exact relPure hρ (.bool true) (by simp [go_sem, hc, hf, hgl, ↓IntWalk.iteOmega, a45, *]) rfl
      · refine relStep_plain rfl ?_
        intro Ac w5 hp
        have hb := hp.bel
        have a52 : Ac.eval (.tmp 52) = .pointer (some ⟨en, 0, none⟩) := hp.dep 7 (by kernel_rfl)
        have hc := evalC Ac; have hf := evalF Ac; have hgl := evalG Ac
        obtain ⟨ρ, hρ⟩ : ∃ ρ, Ac.eval = ρ := ⟨_, rfl⟩
        rw [hρ] at a52 hc hf hgl
        exact relPure hρ (.pointer (some ⟨en, 0, none⟩)) (by simp [go_sem, hc, hf, hgl, ↓IntWalk.iteOmega, a52, *]) rfl
      · refine relStep_plain rfl ?_
        intro Ac w5 hp
        have hb := hp.bel
        have a53 : Ac.eval (.tmp 53) = .bool true := hp.dep 8 (by kernel_rfl)
        have hc := evalC Ac; have hf := evalF Ac; have hgl := evalG Ac
        obtain ⟨ρ, hρ⟩ : ∃ ρ, Ac.eval = ρ := ⟨_, rfl⟩
        rw [hρ] at a53 hc hf hgl
        exact relPure hρ (.bool true) (by simp [go_sem, hc, hf, hgl, ↓IntWalk.iteOmega, a53, *]) rfl
      intro u w5 hb7 hall
      have e15 : u 9 = .pointer (some ⟨en, 0, none⟩) := relAll_at hall (i := 9) (by decide +kernel)
      clear hall
      simp only [List.drop_succ_cons, List.drop_zero, List.take_succ_cons, List.take_zero, putAll, Act.put, List.setIfInBounds_toArray, List.set_cons_zero, List.set_cons_succ, Nat.zero_add, Nat.reduceAdd, e15]
      have HB5 := hide (HB4.out.trans (hb7.mono HB4.out.size))
      have HK5 := hide (HK4.out.below hb7)
      have HX5 := hide (HX4.out.below hb7 HX4.out.lt)
      have HL5 := hide (HL4.out.below hb7)
      clear hb7
      go_upto_region 11 with fail
      have Hmn := hide (show AllMono [(fun v _ => v = .pointer (some ⟨en, 0, none⟩)), (fun v _ => v = .pointer (some ⟨en, 0, none⟩)), (fun v _ => v = .pointer (some ⟨en, 7, none⟩)), (fun v _ => v = .pointer (some ⟨gB, 0, none⟩)), (fun v _ => v = .agg #[.int .u32 (c : Int), .int .i64 (k : Int)])] from ⟨fun _ _ _ _ h => h, fun _ _ _ _ h => h, fun _ _ _ _ h => h, fun _ _ _ _ h => h, fun _ _ _ _ h => h, trivial⟩)
      refine wp_region_relT 5 _ (by kernel_rfl) (by kernel_rfl) (by kernel_rfl) (by kernel_rfl) (by kernel_rfl) (relMono _ Hmn.out) ⟨?_, ?_, ?_, ?_, ?_, trivial⟩ ?_
      · refine relStep_plain rfl ?_
        intro Ac w5 hp
        have hb := hp.bel
        have a15 : Ac.eval (.tmp 15) = .pointer (some ⟨en, 0, none⟩) := hp.out 15 (by rfl)
        have hc := evalC Ac; have hf := evalF Ac; have hgl := evalG Ac
        obtain ⟨ρ, hρ⟩ : ∃ ρ, Ac.eval = ρ := ⟨_, rfl⟩
        rw [hρ] at a15 hc hf hgl
        exact relPure hρ (.pointer (some ⟨en, 0, none⟩)) (by simp [go_sem, hc, hf, hgl, ↓IntWalk.iteOmega, a15, *]) rfl
      · refine relStep_plain rfl ?_
        intro Ac w5 hp
        have hb := hp.bel
        have a54 : Ac.eval (.tmp 54) = .pointer (some ⟨en, 0, none⟩) := hp.dep 0 (by kernel_rfl)
        have hc := evalC Ac; have hf := evalF Ac; have hgl := evalG Ac
        obtain ⟨ρ, hρ⟩ : ∃ ρ, Ac.eval = ρ := ⟨_, rfl⟩
        rw [hρ] at a54 hc hf hgl
        exact relPure hρ (.pointer (some ⟨en, 0, none⟩)) (by simp [go_sem, hc, hf, hgl, ↓IntWalk.iteOmega, a54, *]) rfl
      · refine relStep_plain rfl ?_
        intro Ac w5 hp
        have hb := hp.bel
        have a55 : Ac.eval (.tmp 55) = .pointer (some ⟨en, 0, none⟩) := hp.dep 1 (by kernel_rfl)
        have hc := evalC Ac; have hf := evalF Ac; have hgl := evalG Ac
        obtain ⟨ρ, hρ⟩ : ∃ ρ, Ac.eval = ρ := ⟨_, rfl⟩
        rw [hρ] at a55 hc hf hgl
        exact relPure hρ (.pointer (some ⟨en, 7, none⟩)) (by simp [go_sem, hc, hf, hgl, ↓IntWalk.iteOmega, a55, *]) rfl
      · refine relStep_plain rfl ?_
        intro Ac w5 hp
        have hb := hp.bel
        have a56 : Ac.eval (.tmp 56) = .pointer (some ⟨en, 7, none⟩) := hp.dep 2 (by kernel_rfl)
        have hn5 := (HK5.out.below hb).fn
        have n7 : w5.cell? ⟨en, 7, none⟩ = some (.pointer (some ⟨gB, 0, none⟩)) := hn5.cell 7
        have hc := evalC Ac; have hf := evalF Ac; have hgl := evalG Ac
        obtain ⟨ρ, hρ⟩ : ∃ ρ, Ac.eval = ρ := ⟨_, rfl⟩
        rw [hρ] at a56 hc hf hgl
        exact relPure hρ (.pointer (some ⟨gB, 0, none⟩)) (by simp [go_sem, hc, hf, hgl, ↓IntWalk.iteOmega, a56, *]) rfl
      · refine relStep_plain rfl ?_
        intro Ac w5 hp
        have hb := hp.bel
        have a5 : Ac.eval (.tmp 5) = .pointer (some ⟨w.heap.size, 0, none⟩) := hp.out 5 (by rfl)
        have hx5 := HX5.out.below hb HX5.out.lt
        have x0 : w5.cell? ⟨w.heap.size, 0, none⟩ = some (.int .u32 (c : Int)) := hx5.cell 0
        have x1 : w5.cell? ⟨w.heap.size, 1, none⟩ = some (.int .i64 (k : Int)) := hx5.cell 1
        have hc := evalC Ac; have hf := evalF Ac; have hgl := evalG Ac
        obtain ⟨ρ, hρ⟩ : ∃ ρ, Ac.eval = ρ := ⟨_, rfl⟩
        rw [hρ] at a5 hc hf hgl
        exact relPure hρ (.agg #[.int .u32 (c : Int), .int .i64 (k : Int)]) (by simp [go_sem, hc, hf, hgl, ↓IntWalk.iteOmega, a5, *]) rfl
      intro u w6 hb7 hall
      have e57 : u 3 = .pointer (some ⟨gB, 0, none⟩) := relAll_at hall (i := 3) (by decide +kernel)
      have e58 : u 4 = .agg #[.int .u32 (c : Int), .int .i64 (k : Int)] := relAll_at hall (i := 4) (by decide +kernel)
      clear hall
      simp only [List.drop_succ_cons, List.drop_zero, List.take_succ_cons, List.take_zero, putAll, Act.put, List.setIfInBounds_toArray, List.set_cons_zero, List.set_cons_succ, Nat.zero_add, Nat.reduceAdd, e57, e58]
      have HB6 := hide (HB5.out.trans (hb7.mono HB5.out.size))
      have HK6 := hide (HK5.out.below hb7)
      have HL6 := hide (HL5.out.below hb7)
      clear hb7
      go_wp2_with fail
      refine (puteB_any (F := fun _ => False) (R := RU) gB c k 0 true w6 HC.out HK6.out.fb (fun _ h => h.elim) ru_frs (fun h => h)).mono ?_
      rintro e w9 ⟨rfl, bb, hnb, hg9, ht9, hc9⟩
      have HK9 := hide (HK6.out.of (t2 := .nd bb c k (some 0) .nil .nil) hc9 hg9 ht9)
      have HL9 := hide (HL6.out.chg hc9 (fun g2 cs hb2 h => by subst h; exact hb2.ne_ HK6.out.fb (by decide) rfl))
      have HC9 : Hid (ChgS (fun k => k = gB) w w9) := hide (chg_trans (chg_below (S := fun k => k = gB) HB6.out) hc9 (fun k h => .inl h))
      clear hg9 ht9 hc9 hnb
      go_wp2
      go_roundw
      case rel => exact .inr ⟨rfl, bb, HK9.out, HL9.out, HC9.out⟩
      case measure => simp [intOf]
    · have HK := hide hk
      have HL := hide hl
      have HCg := hide hc
      clear hl hk hc y0 y1
      go_wp2_with fail
      refine (pconcat2_any none _ 0 0 1 d _ [] [(a, n)] _ (blk_new' _ _ rfl) LstAt.none_ (HL.out.1.below pxMono ((Below.refl _ _).alloc (Nat.le_refl _) _)) (by omega) (by omega)).mono ?_
      rintro e w8 ⟨A8, n8, c8, xs8, rfl, hlo8, hb8⟩
      have hl8 := hlo8.lst (by decide)
      have HK8 := hide ((HK.out.below ((Below.refl _ _).alloc (Nat.le_refl _) _)).below hb8)
      have HC8 : Hid (ChgS (fun k => k = gB) w w8) := hide (chg_trans HCg.out (chg_below (S := fun _ => False) (((Below.refl _ _).alloc (Nat.le_refl _) _).trans (hb8.mono (by simp)))) (fun k h => h.elim))
      have hn8 : n8 = 1 := by have := hl8.1; simpa using this.symm
      subst hn8
      have HL8 := hide hl8
      clear hl8 hlo8 hb8
      go_wp2_with fail
      refine (nSort_any A8 1 c8 [(a, n)] w8 HL8.out (by simpa using HK8.out.pg) (by omega)).mono ?_
      rintro e w9 ⟨A9, c9, rfl, hown, hb9⟩
      rw [sortP_one HK8.out.pg] at hown ⊢
      have HL9 := hide (lp_own hown)
      have HC9 : Hid (ChgS (fun k => k = gB) w w9) := hide (chg_trans HC8.out (chg_below (S := fun _ => False) hb9) (fun k h => h.elim))
      have HK9 := hide (HK8.out.below hb9)
      clear hown hb9
      go_wp2
      go_ret
      exact ⟨A9, c9, bb, rfl, HL9.out, HK9.out, HC9.out⟩
end Go.Proofs.YtcinjckajnnhmaaGreat
set_option linter.unusedSimpArgs false
set_option linter.unusedVariables false
namespace Go.Proofs.YtcinjckajnnhmaaGreat
open Go.RowKit Go.WideShapes Go.ChangeShapes
attribute [local go_sem] Oper.semAt_some
set_option maxRecDepth 100000 in
set_option maxHeartbeats 8000000 in
theorem tput_yes (a n c k tb gE gW gB nb en : Nat) (wt : Tr Nat) (w : World) (hk : TK w a n tb gE gW gB nb en wt .nil) (hC : PG c k) (hwi : (covB a (n : Int) c (k : Int) && !decide (c = a ∧ (k : Int) = (n : Int))) = true) (hbit : bitN c n = 0) (hm : n ≤ 31) (B : Nat) (hB : B ≤ w.heap.size) (hgW : B ≤ gW) (hgB : B ≤ gB) (hlo : ∀ j ∈ trB wt, B ≤ j) (hno : trGet c k wt = none) (hcn : trCnt wt < 1000) :
    Calls Tryz.prog 52 #[.pointer (some ⟨tb, 0, none⟩), .agg #[.int .u32 (c : Int), .int .i64 (k : Int), .int .i64 0, .int .i64 0, .slice none 0 0, .int .u32 0, .int .u32 0, .int .u32 0, .int .u32 0, .int .u32 0, .slice none 0 0, .int .u32 0, .int .u32 0, .int .u32 0, .bool false, .bool false]] w fun e w' => ∃ A' c' t2 bb, e = .returned (.slice A' 1 c') ∧ LP w' A' c' a n ∧ TK w' a n tb gE gW gB nb en t2 (.nd bb c k (some 0) .nil .nil) ∧ PutR c k 0 wt t2 ∧ Below B w w' ∧ (∀ j ∈ trB t2, B ≤ j) := by
  obtain ⟨w0, hw0⟩ : ∃ w0, w.alloc (.cells #[.int .u32 (c : Int), .int .i64 (k : Int), .int .i64 0, .int .i64 0, .slice none 0 0, .int .u32 0, .int .u32 0, .int .u32 0, .int .u32 0, .int .u32 0, .slice none 0 0, .int .u32 0, .int .u32 0, .int .u32 0, .bool false, .bool false] 30) = w0 := ⟨_, rfl⟩
  have hb0 : Below w.heap.size w w0 := hw0 ▸ blkBelow1 w _
  have HX0 : Hid (Blk w0 w.heap.size 30 #[.int .u32 (c : Int), .int .i64 (k : Int), .int .i64 0, .int .i64 0, .slice none 0 0, .int .u32 0, .int .u32 0, .int .u32 0, .int .u32 0, .int .u32 0, .slice none 0 0, .int .u32 0, .int .u32 0, .int .u32 0, .bool false, .bool false]) := hide (hw0 ▸ Blk.new w _ _)
  have HK0 := hide (hk.below hb0)
  have HB0 := hide hb0
  have HW0 := hide hw0
  have HC := hide hC
  have HGd := hide (Good_any c (k : Int) hC.1 (by omega) (by have := hC.2.1; omega))
  rw [good_pg hC] at HGd
  unfold pfx at HGd
  have HMt := hide (fun W (hb : Below w0.heap.size w0 W) => meant_yes a n c k tb gE gW gB nb en wt .nil W (HK0.out.below hb) hC hwi hbit hm)
  have HBq := hide hB
  have HgW := hide hgW
  have HgB := hide hgB
  have Hlo := hide hlo
  have Hno := hide hno
  have Hcn := hide hcn
  clear hw0 hb0 hk hC hwi hbit hB hgW hgB hlo hno hcn
  have x0 : w0.cell? ⟨w.heap.size, 0, none⟩ = some (.int .u32 (c : Int)) := HX0.out.cell 0
  have x1 : w0.cell? ⟨w.heap.size, 1, none⟩ = some (.int .i64 (k : Int)) := HX0.out.cell 1
  have x2 : w0.cell? ⟨w.heap.size, 2, none⟩ = some (.int .i64 0) := HX0.out.cell 2
  have x3 : w0.cell? ⟨w.heap.size, 3, none⟩ = some (.int .i64 0) := HX0.out.cell 3
  have x4 : w0.cell? ⟨w.heap.size, 4, none⟩ = some (.slice none 0 0) := HX0.out.cell 4
  have x5 : w0.cell? ⟨w.heap.size, 5, none⟩ = some (.int .u32 0) := HX0.out.cell 5
  have x6 : w0.cell? ⟨w.heap.size, 6, none⟩ = some (.int .u32 0) := HX0.out.cell 6
  have x7 : w0.cell? ⟨w.heap.size, 7, none⟩ = some (.int .u32 0) := HX0.out.cell 7
  have x8 : w0.cell? ⟨w.heap.size, 8, none⟩ = some (.int .u32 0) := HX0.out.cell 8
  have x9 : w0.cell? ⟨w.heap.size, 9, none⟩ = some (.int .u32 0) := HX0.out.cell 9
  have x10 : w0.cell? ⟨w.heap.size, 10, none⟩ = some (.slice none 0 0) := HX0.out.cell 10
  have x11 : w0.cell? ⟨w.heap.size, 11, none⟩ = some (.int .u32 0) := HX0.out.cell 11
  have x12 : w0.cell? ⟨w.heap.size, 12, none⟩ = some (.int .u32 0) := HX0.out.cell 12
  have x13 : w0.cell? ⟨w.heap.size, 13, none⟩ = some (.int .u32 0) := HX0.out.cell 13
  have x14 : w0.cell? ⟨w.heap.size, 14, none⟩ = some (.bool false) := HX0.out.cell 14
  have x15 : w0.cell? ⟨w.heap.size, 15, none⟩ = some (.bool false) := HX0.out.cell 15
  go_enter Tryz.func52, Tryz.ntmps52
  go_wp2_with fail
  rw [HW0.out]
  refine (HGd.out _).mono ?_
  rintro e w1 ⟨rfl, hb1⟩
  have HB1 := hide (HB0.out.trans (hb1.mono HB0.out.size))
  have HX1 := hide (HX0.out.below hb1 HX0.out.lt)
  have HK1 := hide (HK0.out.below hb1)
  clear x0 x1 x2 x3 x4 x5 x6 x7 x8 x9 x10 x11 x12 x13 x14 x15
  have x0 : w1.cell? ⟨w.heap.size, 0, none⟩ = some (.int .u32 (c : Int)) := HX1.out.cell 0
  have x1 : w1.cell? ⟨w.heap.size, 1, none⟩ = some (.int .i64 (k : Int)) := HX1.out.cell 1
  have x2 : w1.cell? ⟨w.heap.size, 2, none⟩ = some (.int .i64 0) := HX1.out.cell 2
  have x3 : w1.cell? ⟨w.heap.size, 3, none⟩ = some (.int .i64 0) := HX1.out.cell 3
  have x4 : w1.cell? ⟨w.heap.size, 4, none⟩ = some (.slice none 0 0) := HX1.out.cell 4
  have x5 : w1.cell? ⟨w.heap.size, 5, none⟩ = some (.int .u32 0) := HX1.out.cell 5
  have x6 : w1.cell? ⟨w.heap.size, 6, none⟩ = some (.int .u32 0) := HX1.out.cell 6
  have x7 : w1.cell? ⟨w.heap.size, 7, none⟩ = some (.int .u32 0) := HX1.out.cell 7
  have x8 : w1.cell? ⟨w.heap.size, 8, none⟩ = some (.int .u32 0) := HX1.out.cell 8
  have x9 : w1.cell? ⟨w.heap.size, 9, none⟩ = some (.int .u32 0) := HX1.out.cell 9
  have x10 : w1.cell? ⟨w.heap.size, 10, none⟩ = some (.slice none 0 0) := HX1.out.cell 10
  have x11 : w1.cell? ⟨w.heap.size, 11, none⟩ = some (.int .u32 0) := HX1.out.cell 11
  have x12 : w1.cell? ⟨w.heap.size, 12, none⟩ = some (.int .u32 0) := HX1.out.cell 12
  have x13 : w1.cell? ⟨w.heap.size, 13, none⟩ = some (.int .u32 0) := HX1.out.cell 13
  have x14 : w1.cell? ⟨w.heap.size, 14, none⟩ = some (.bool false) := HX1.out.cell 14
  have x15 : w1.cell? ⟨w.heap.size, 15, none⟩ = some (.bool false) := HX1.out.cell 15
  go_wp2_with fail
  refine (HMt.out w1 hb1).mono ?_
  rintro e w2 ⟨A5, d5, rfl, hlp, hb2⟩
  have HB2 := hide (HB1.out.trans (hb2.mono HB1.out.size))
  have HX2 := hide (HX1.out.below hb2 HX1.out.lt)
  have HK2 := hide (HK1.out.below hb2)
  have HLp := hide hlp
  clear hlp
  have HPt : Hid (∀ W, Below w2.heap.size w2 W → _) := hide (fun W (hb : Below w2.heap.size w2 W) => putnP_any (F := fun _ => False) (R := RU) gW c k wt 0 A5 1 d5 W HC.out (HK2.out.below hb).fw (HK2.out.below hb).fwt (fun _ h => h.elim) ru_frs (fun h => h) (fun hg => by obtain ⟨cs2, hb2⟩ := trw_blk HK2.out.fwt.mem gW hg; exact HK2.out.fw.ne_ hb2 (by decide) rfl) (by have := Hcn.out; omega) Hno.out)
  clear hb1 hb2 x0 x1 x2 x3 x4 x5 x6 x7 x8 x9 x10 x11 x12 x13 x14 x15
  go_upto_region 4 with fail
  refine wp_region_relH 13 0 (Nat.zero_le _) [(fun v _ => v = .pointer (some ⟨tb, 0, none⟩)), (fun v _ => v = .pointer (some ⟨tb, 0, none⟩)), (fun v _ => v = .pointer (some ⟨tb, 5, none⟩)), (fun v _ => v = .pointer (some ⟨gW, 0, none⟩)), (fun v _ => v = .pointer (some ⟨w.heap.size, 0, none⟩)), (fun v _ => v = .agg #[.int .u32 (c : Int), .int .i64 (k : Int)]), (fun v _ => v = .slice A5 1 d5), (fun v W => ∃ t2, v = .tuple #[.slice none 0 0, .bool false] ∧ PutR c k 0 wt t2 ∧ Blk W gW 222 #[trPtr t2] ∧ TrA 1 231 (fun _ => False) RU W t2 ∧ (∀ j ∈ trB t2, j ∈ trB wt ∨ w2.heap.size ≤ j) ∧ ChgS (fun k => k = gW ∨ k ∈ trB wt) w2 W), (fun v _ => v = .tuple #[.slice none 0 0, .bool false]), (fun v _ => v = .slice none 0 0), (fun v _ => v = .bool false), (fun v _ => v = .slice none 0 0), (fun v _ => v = .bool false)] (fun i W => (1 ≤ i ∧ i ≤ 7) → Below w2.heap.size w2 W) (fun i Wa Wb => if i = 7 then Below 0 Wa Wb else Below Wa.heap.size Wa Wb) (by kernel_rfl) (by kernel_rfl) (by kernel_rfl) (by kernel_rfl) (by kernel_rfl) ?hE ?hR ?hP ?h0 ⟨?_, ?_, ?_, ?_, ?_, ?_, ?_, ?_, ?_, ?_, ?_, ?_, ?_, trivial⟩ ?_
  case hE =>
    intro i2 wa wb hB he
    split at he
    · exact he
    · exact he.mono (Nat.zero_le _)
  case hR =>
    intro i2 j2 v2 wa wb hij hB he h
    split at he
    · rename_i hj2
      subst hj2
      refine keepAll_at (E := fun wa wb => Below 0 wa wb) (x := 7) (k := 0) ?_ (by omega) he h
      exact ⟨fun _ v wa wb he h => h, fun _ v wa wb he h => h, fun _ v wa wb he h => h, fun _ v wa wb he h => h, fun _ v wa wb he h => h, fun _ v wa wb he h => h, fun _ v wa wb he h => h, fun hn => absurd rfl hn, fun _ v wa wb he h => h, fun _ v wa wb he h => h, fun _ v wa wb he h => h, fun _ v wa wb he h => h, fun _ v wa wb he h => h, trivial⟩
    · refine relMono _ ?_ i2 v2 wa wb he h
      exact ⟨fun _ _ _ _ h => h, fun _ _ _ _ h => h, fun _ _ _ _ h => h, fun _ _ _ _ h => h, fun _ _ _ _ h => h, fun _ _ _ _ h => h, fun _ _ _ _ h => h, fun v wa wb hb ⟨t2, e, h1, h2, h3, h5, h4⟩ => ⟨t2, e, h1, h2.below hb h2.lt, tra_below h3 hb, h5, chg_trans h4 (chg_below (S := fun _ => False) hb) (fun k h => h.elim)⟩, fun _ _ _ _ h => h, fun _ _ _ _ h => h, fun _ _ _ _ h => h, fun _ _ _ _ h => h, fun _ _ _ _ h => h, trivial⟩
  case hP =>
    intro i2 j2 wa wb hij hnb hB he h hi
    split at he
    · rename_i hj2
      subst hj2
      have hi3 : i2 = 1 ∨ i2 = 2 ∨ i2 = 3 ∨ i2 = 4 ∨ i2 = 5 ∨ i2 = 6 ∨ i2 = 7 := by omega
      rcases hi3 with rfl | rfl | rfl | rfl | rfl | rfl | rfl
      all_goals first | exact absurd rfl hij | exact absurd hnb (by decide +kernel)
    · exact (h hi).trans (he.mono (h hi).size)
  case h0 =>
    intro j2 hj2 _
    exact (Below.refl _ _).drew
  · refine relG_plain rfl rfl (fun _ _ h => h) ?_
    intro Ac w5 hp
    have hb := hp.bel
    have a0 : Ac.eval (.tmp 0) = .pointer (some ⟨tb, 0, none⟩) := hp.out 0 (by rfl)
    have hc := evalC Ac; have hf := evalF Ac; have hgl := evalG Ac
    obtain ⟨ρ, hρ⟩ : ∃ ρ, Ac.eval = ρ := ⟨_, rfl⟩
    rw [hρ] at a0 hc hf hgl
    exact relPure hρ (.pointer (some ⟨tb, 0, none⟩)) (by simp [go_sem, hc, hf, hgl, ↓IntWalk.iteOmega, a0, *]) rfl
  · refine relG_plain rfl rfl (fun _ _ h => h) ?_
    intro Ac w5 hp
    have hb := hp.bel
    have a20 : Ac.eval (.tmp 20) = .pointer (some ⟨tb, 0, none⟩) := hp.dep 0 (by kernel_rfl)
    have hc := evalC Ac; have hf := evalF Ac; have hgl := evalG Ac
    obtain ⟨ρ, hρ⟩ : ∃ ρ, Ac.eval = ρ := ⟨_, rfl⟩
    rw [hρ] at a20 hc hf hgl
    exact relPure hρ (.pointer (some ⟨tb, 0, none⟩)) (by simp [go_sem, hc, hf, hgl, ↓IntWalk.iteOmega, a20, *]) rfl
  · refine relG_plain rfl rfl (fun _ _ h => h) ?_
    intro Ac w5 hp
    have hb := hp.bel
    have a21 : Ac.eval (.tmp 21) = .pointer (some ⟨tb, 0, none⟩) := hp.dep 1 (by kernel_rfl)
    have hc := evalC Ac; have hf := evalF Ac; have hgl := evalG Ac
    obtain ⟨ρ, hρ⟩ : ∃ ρ, Ac.eval = ρ := ⟨_, rfl⟩
    rw [hρ] at a21 hc hf hgl
    exact relPure hρ (.pointer (some ⟨tb, 5, none⟩)) (by simp [go_sem, hc, hf, hgl, ↓IntWalk.iteOmega, a21, *]) rfl
  · refine relG_plain rfl rfl (fun _ _ h => h) ?_
    intro Ac w5 hp
    have hb := hp.bel
    have a22 : Ac.eval (.tmp 22) = .pointer (some ⟨tb, 5, none⟩) := hp.dep 2 (by kernel_rfl)
    have hb := hp.pre ⟨by decide, by decide⟩
    have ht5 := (HK2.out.below hb).ft
    have t5 : w5.cell? ⟨tb, 5, none⟩ = some (.pointer (some ⟨gW, 0, none⟩)) := ht5.cell 5
    have hc := evalC Ac; have hf := evalF Ac; have hgl := evalG Ac
    obtain ⟨ρ, hρ⟩ : ∃ ρ, Ac.eval = ρ := ⟨_, rfl⟩
    rw [hρ] at a22 hc hf hgl
    exact relPure hρ (.pointer (some ⟨gW, 0, none⟩)) (by simp [go_sem, hc, hf, hgl, ↓IntWalk.iteOmega, a22, *]) rfl
  · refine relG_plain rfl rfl (fun _ _ h => h) ?_
    intro Ac w5 hp
    have hb := hp.bel
    have a3 : Ac.eval (.tmp 3) = .pointer (some ⟨w.heap.size, 0, none⟩) := hp.out 3 (by rfl)
    have hc := evalC Ac; have hf := evalF Ac; have hgl := evalG Ac
    obtain ⟨ρ, hρ⟩ : ∃ ρ, Ac.eval = ρ := ⟨_, rfl⟩
    rw [hρ] at a3 hc hf hgl
    exact relPure hρ (.pointer (some ⟨w.heap.size, 0, none⟩)) (by simp [go_sem, hc, hf, hgl, ↓IntWalk.iteOmega, a3, *]) rfl
  · refine relG_plain rfl rfl (fun _ _ h => h) ?_
    intro Ac w5 hp
    have hb := hp.bel
    have a24 : Ac.eval (.tmp 24) = .pointer (some ⟨w.heap.size, 0, none⟩) := hp.dep 4 (by kernel_rfl)
    have hb := hp.pre ⟨by decide, by decide⟩
    have hx5 := HX2.out.below hb HX2.out.lt
    have x0 : w5.cell? ⟨w.heap.size, 0, none⟩ = some (.int .u32 (c : Int)) := hx5.cell 0
    have x1 : w5.cell? ⟨w.heap.size, 1, none⟩ = some (.int .i64 (k : Int)) := hx5.cell 1
    have x2 : w5.cell? ⟨w.heap.size, 2, none⟩ = some (.int .i64 0) := hx5.cell 2
    have x3 : w5.cell? ⟨w.heap.size, 3, none⟩ = some (.int .i64 0) := hx5.cell 3
    have x4 : w5.cell? ⟨w.heap.size, 4, none⟩ = some (.slice none 0 0) := hx5.cell 4
    have x5 : w5.cell? ⟨w.heap.size, 5, none⟩ = some (.int .u32 0) := hx5.cell 5
    have x6 : w5.cell? ⟨w.heap.size, 6, none⟩ = some (.int .u32 0) := hx5.cell 6
    have x7 : w5.cell? ⟨w.heap.size, 7, none⟩ = some (.int .u32 0) := hx5.cell 7
    have x8 : w5.cell? ⟨w.heap.size, 8, none⟩ = some (.int .u32 0) := hx5.cell 8
    have x9 : w5.cell? ⟨w.heap.size, 9, none⟩ = some (.int .u32 0) := hx5.cell 9
    have x10 : w5.cell? ⟨w.heap.size, 10, none⟩ = some (.slice none 0 0) := hx5.cell 10
    have x11 : w5.cell? ⟨w.heap.size, 11, none⟩ = some (.int .u32 0) := hx5.cell 11
    have x12 : w5.cell? ⟨w.heap.size, 12, none⟩ = some (.int .u32 0) := hx5.cell 12
    have x13 : w5.cell? ⟨w.heap.size, 13, none⟩ = some (.int .u32 0) := hx5.cell 13
    have x14 : w5.cell? ⟨w.heap.size, 14, none⟩ = some (.bool false) := hx5.cell 14
    have x15 : w5.cell? ⟨w.heap.size, 15, none⟩ = some (.bool false) := hx5.cell 15
    have hc := evalC Ac; have hf := evalF Ac; have hgl := evalG Ac
    obtain ⟨ρ, hρ⟩ : ∃ ρ, Ac.eval = ρ := ⟨_, rfl⟩
    rw [hρ] at a24 hc hf hgl
    exact relPure hρ (.agg #[.int .u32 (c : Int), .int .i64 (k : Int)]) (by simp [go_sem, hc, hf, hgl, ↓IntWalk.iteOmega, a24, *]) rfl
  · refine relG_plain rfl rfl (fun _ _ h => h) ?_
    intro Ac w5 hp
    have hb := hp.bel
    have a5 : Ac.eval (.tmp 5) = .slice A5 1 d5 := hp.out 5 (by rfl)
    have hc := evalC Ac; have hf := evalF Ac; have hgl := evalG Ac
    obtain ⟨ρ, hρ⟩ : ∃ ρ, Ac.eval = ρ := ⟨_, rfl⟩
    rw [hρ] at a5 hc hf hgl
    exact relPure hρ (.slice A5 1 d5) (by simp [go_sem, hc, hf, hgl, ↓IntWalk.iteOmega, a5, *]) rfl
  · refine relG_enter rfl rfl ?_
    intro Ac w5 hp
    have hb := hp.bel
    have a23 : Ac.eval (.tmp 23) = .pointer (some ⟨gW, 0, none⟩) := hp.dep 3 (by kernel_rfl)
    have a25 : Ac.eval (.tmp 25) = .agg #[.int .u32 (c : Int), .int .i64 (k : Int)] := hp.dep 5 (by kernel_rfl)
    have a26 : Ac.eval (.tmp 26) = .slice A5 1 d5 := hp.dep 6 (by kernel_rfl)
    have hc := evalC Ac; have hf := evalF Ac; have hgl := evalG Ac
    obtain ⟨ρ, hρ⟩ : ∃ ρ, Ac.eval = ρ := ⟨_, rfl⟩
    rw [hρ] at a23 a25 a26 hc hf hgl
    refine ⟨109, #[.pointer (some ⟨gW, 0, none⟩), .agg #[.int .u32 (c : Int), .int .i64 (k : Int)], .slice A5 1 d5], by rw [hρ]; simp [go_sem, hc, hf, hgl, ↓IntWalk.iteOmega, a23, a25, a26, *], ?_⟩
    have hb := hp.pre ⟨by decide, by decide⟩
    refine (HPt.out w5 hb).mono ?_
    rintro e w6 ⟨rfl, t2, h1, h2, h3, h5, h4⟩
    refine ⟨_, rfl, ⟨t2, rfl, h1, h2, h3, fun j hj => (h5 j hj).imp id (Nat.le_trans hb.size), chg_trans (chg_below hb) h4 (fun k h => .inl h)⟩, by show Below 0 w5 w6; exact ⟨h4.os, h4.tape, h4.output, h4.size, fun k hk => absurd hk (Nat.not_lt_zero k)⟩⟩
  · refine relG_plain rfl rfl (fun _ _ h => h) ?_
    intro Ac w5 hp
    have hb := hp.bel
    obtain ⟨t2, a27, hpr, hgw, htw, hlw, hcw⟩ := hp.dep 7 (by kernel_rfl)
    change Ac.eval (.tmp 27) = _ at a27
    have hc := evalC Ac; have hf := evalF Ac; have hgl := evalG Ac
    obtain ⟨ρ, hρ⟩ : ∃ ρ, Ac.eval = ρ := ⟨_, rfl⟩
    rw [hρ] at a27 hc hf hgl
    exact relPure hρ (.tuple #[.slice none 0 0, .bool false]) (by simp [go_sem, hc, hf, hgl, ↓IntWalk.iteOmega, a27, *]) rfl
  · refine relG_plain rfl rfl (fun _ _ h => h) ?_
    intro Ac w5 hp
    have hb := hp.bel
    have a19 : Ac.eval (.tmp 19) = .tuple #[.slice none 0 0, .bool false] := hp.dep 8 (by kernel_rfl)
    have hc := evalC Ac; have hf := evalF Ac; have hgl := evalG Ac
    obtain ⟨ρ, hρ⟩ : ∃ ρ, Ac.eval = ρ := ⟨_, rfl⟩
    rw [hρ] at a19 hc hf hgl
    exact relPure hρ (.slice none 0 0) (by simp [go_sem, hc, hf, hgl, ↓IntWalk.iteOmega, a19, *]) rfl
  · refine relG_plain rfl rfl (fun _ _ h => h) ?_
    intro Ac w5 hp
    have hb := hp.bel
    have a19 : Ac.eval (.tmp 19) = .tuple #[.slice none 0 0, .bool false] := hp.dep 8 (by kernel_rfl)
    have hc := evalC Ac; have hf := evalF Ac; have hgl := evalG Ac
    obtain ⟨ρ, hρ⟩ : ∃ ρ, Ac.eval = ρ := ⟨_, rfl⟩
    rw [hρ] at a19 hc hf hgl
    exact relPure hρ (.bool false) (by simp [go_sem, hc, hf, hgl, ↓IntWalk.iteOmega, a19, *]) rfl
  · refine relG_plain rfl rfl (fun _ _ h => h) ?_
    intro Ac w5 hp
    have hb := hp.bel
    have a28 : Ac.eval (.tmp 28) = .slice none 0 0 := hp.dep 9 (by kernel_rfl)
    have hc := evalC Ac; have hf := evalF Ac; have hgl := evalG Ac
    obtain ⟨ρ, hρ⟩ : ∃ ρ, Ac.eval = ρ := ⟨_, rfl⟩
    rw [hρ] at a28 hc hf hgl
    exact relPure hρ (.slice none 0 0) (by simp [go_sem, hc, hf, hgl, ↓IntWalk.iteOmega, a28, *]) rfl
  · refine relG_plain rfl rfl (fun _ _ h => h) ?_
    intro Ac w5 hp
    have hb := hp.bel
    have a29 : Ac.eval (.tmp 29) = .bool false := hp.dep 10 (by kernel_rfl)
    have hc := evalC Ac; have hf := evalF Ac; have hgl := evalG Ac
    obtain ⟨ρ, hρ⟩ : ∃ ρ, Ac.eval = ρ := ⟨_, rfl⟩
    rw [hρ] at a29 hc hf hgl
    exact relPure hρ (.bool false) (by simp [go_sem, hc, hf, hgl, ↓IntWalk.iteOmega, a29, *]) rfl
  intro u w9 hb7 hall
  obtain ⟨t2, e27, hpr, hgw, htw, hlw, hcw⟩ := relAll_at hall (i := 7) (by decide +kernel)
  change u 7 = _ at e27
  have e6 : u 11 = .slice none 0 0 := relAll_at hall (i := 11) (by decide +kernel)
  have e7 : u 12 = .bool false := relAll_at hall (i := 12) (by decide +kernel)
  clear hall
  simp only [List.drop_succ_cons, List.drop_zero, List.take_succ_cons, List.take_zero, putAll, Act.put, List.setIfInBounds_toArray, List.set_cons_zero, List.set_cons_succ, Nat.zero_add, Nat.reduceAdd, e27, e6, e7]
  have HKw := hide (HK2.out.ways hcw hgw htw)
  have HB9 : Hid (Below B w w9) := hide ((HB2.out.mono HBq.out).trans (chg_to_below hcw (Nat.le_trans HBq.out HB2.out.size) (fun j hj => hj.elim (fun e => e ▸ HgW.out) (fun h => Hlo.out j h))))
  have HPr := hide hpr
  have HX9 := hide (chg_blk hcw HX2.out (fun hj => hj.elim (fun e => by subst e; exact HX2.out.ne_ HK2.out.fw (by decide) rfl) (fun h => by obtain ⟨cs2, hb2⟩ := trw_blk HK2.out.fwt.mem _ h; exact HX2.out.ne_ hb2 (by decide) rfl)))
  have x0 : w9.cell? ⟨w.heap.size, 0, none⟩ = some (.int .u32 (c : Int)) := HX9.out.cell 0
  have x1 : w9.cell? ⟨w.heap.size, 1, none⟩ = some (.int .i64 (k : Int)) := HX9.out.cell 1
  have x2 : w9.cell? ⟨w.heap.size, 2, none⟩ = some (.int .i64 0) := HX9.out.cell 2
  have x3 : w9.cell? ⟨w.heap.size, 3, none⟩ = some (.int .i64 0) := HX9.out.cell 3
  have x4 : w9.cell? ⟨w.heap.size, 4, none⟩ = some (.slice none 0 0) := HX9.out.cell 4
  have x5 : w9.cell? ⟨w.heap.size, 5, none⟩ = some (.int .u32 0) := HX9.out.cell 5
  have x6 : w9.cell? ⟨w.heap.size, 6, none⟩ = some (.int .u32 0) := HX9.out.cell 6
  have x7 : w9.cell? ⟨w.heap.size, 7, none⟩ = some (.int .u32 0) := HX9.out.cell 7
  have x8 : w9.cell? ⟨w.heap.size, 8, none⟩ = some (.int .u32 0) := HX9.out.cell 8
  have x9 : w9.cell? ⟨w.heap.size, 9, none⟩ = some (.int .u32 0) := HX9.out.cell 9
  have x10 : w9.cell? ⟨w.heap.size, 10, none⟩ = some (.slice none 0 0) := HX9.out.cell 10
  have x11 : w9.cell? ⟨w.heap.size, 11, none⟩ = some (.int .u32 0) := HX9.out.cell 11
  have x12 : w9.cell? ⟨w.heap.size, 12, none⟩ = some (.int .u32 0) := HX9.out.cell 12
  have x13 : w9.cell? ⟨w.heap.size, 13, none⟩ = some (.int .u32 0) := HX9.out.cell 13
  have x14 : w9.cell? ⟨w.heap.size, 14, none⟩ = some (.bool false) := HX9.out.cell 14
  have x15 : w9.cell? ⟨w.heap.size, 15, none⟩ = some (.bool false) := HX9.out.cell 15
  have HLo2 : Hid (∀ j ∈ trB t2, B ≤ j) := hide (fun j hj => (hlw j hj).elim (fun h => Hlo.out j h) (fun h => Nat.le_trans HBq.out (Nat.le_trans HB2.out.size h)))
  have hs9 : B ≤ w9.heap.size := Nat.le_trans HBq.out HB9.out.size
  have HLp9 := hide (HLp.out.chg hcw (fun g2 cs hbk hj => hj.elim (fun e => by subst e; exact hbk.ne_ HK2.out.fw (by decide) rfl) (fun h => by obtain ⟨cs2, hb2⟩ := trw_blk HK2.out.fwt.mem _ h; exact hbk.ne_ hb2 (by decide) rfl)))
  clear hpr hgw htw hlw hcw hb7
  go_wp2_with fail
  refine (lay_yes a n c k tb gE gW gB nb en t2 w9 HKw.out HC.out A5 d5 HLp9.out).mono ?_
  rintro e w10 ⟨A7, c7, bb, rfl, hl10, hk10, hc10⟩
  have HL10 := hide hl10
  have HK10 := hide hk10
  have HB10 : Hid (Below B w w10) := hide (HB9.out.trans (chg_to_below hc10 hs9 (fun j hj => by subst hj; exact HgB.out)))
  clear hl10 hk10 hc10 x0 x1 x2 x3 x4 x5 x6 x7 x8 x9 x10 x11 x12 x13 x14 x15
  go_wp2
  go_ret
  exact ⟨A7, c7, t2, bb, rfl, HL10.out, HK10.out, HPr.out, HB10.out, HLo2.out⟩
set_option maxRecDepth 100000 in
set_option maxHeartbeats 8000000 in
theorem tput_no (a n c k tb gE gW gB nb en : Nat) (wt bt : Tr Nat) (w : World) (hk : TK w a n tb gE gW gB nb en wt bt) (hC : PG c k) (hwi : (covB a (n : Int) c (k : Int) && !decide (c = a ∧ (k : Int) = (n : Int))) = false) (hbit : bitN c n = 0) (hm : n ≤ 31) (B : Nat) (hB : B ≤ w.heap.size) (hgW : B ≤ gW) (hgB : B ≤ gB) (hlo : ∀ j ∈ trB wt, B ≤ j) (hno : trGet c k wt = none) (hcn : trCnt wt < 1000) :
    Calls Tryz.prog 52 #[.pointer (some ⟨tb, 0, none⟩), .agg #[.int .u32 (c : Int), .int .i64 (k : Int), .int .i64 0, .int .i64 0, .slice none 0 0, .int .u32 0, .int .u32 0, .int .u32 0, .int .u32 0, .int .u32 0, .slice none 0 0, .int .u32 0, .int .u32 0, .int .u32 0, .bool false, .bool false]] w fun e w' => ∃ A' c' t2, e = .returned (.slice A' 0 c') ∧ TK w' a n tb gE gW gB nb en t2 bt ∧ PutR c k 0 wt t2 ∧ Below B w w' ∧ (∀ j ∈ trB t2, B ≤ j) ∧ ∀ g cs, Blk w g 24 cs → Blk w' g 24 cs := by
  obtain ⟨w0, hw0⟩ : ∃ w0, w.alloc (.cells #[.int .u32 (c : Int), .int .i64 (k : Int), .int .i64 0, .int .i64 0, .slice none 0 0, .int .u32 0, .int .u32 0, .int .u32 0, .int .u32 0, .int .u32 0, .slice none 0 0, .int .u32 0, .int .u32 0, .int .u32 0, .bool false, .bool false] 30) = w0 := ⟨_, rfl⟩
  have hb0 : Below w.heap.size w w0 := hw0 ▸ blkBelow1 w _
  have HX0 : Hid (Blk w0 w.heap.size 30 #[.int .u32 (c : Int), .int .i64 (k : Int), .int .i64 0, .int .i64 0, .slice none 0 0, .int .u32 0, .int .u32 0, .int .u32 0, .int .u32 0, .int .u32 0, .slice none 0 0, .int .u32 0, .int .u32 0, .int .u32 0, .bool false, .bool false]) := hide (hw0 ▸ Blk.new w _ _)
  have HK0 := hide (hk.below hb0)
  have HB0 := hide hb0
  have HW0 := hide hw0
  have HC := hide hC
  have HGd := hide (Good_any c (k : Int) hC.1 (by omega) (by have := hC.2.1; omega))
  rw [good_pg hC] at HGd
  unfold pfx at HGd
  have HMt := hide (fun W (hb : Below w0.heap.size w0 W) => meant_no a n c k tb gE gW gB nb en wt bt W (HK0.out.below hb) hC hwi hbit hm)
  have HBq := hide hB
  have HgW := hide hgW
  have HgB := hide hgB
  have Hlo := hide hlo
  have Hno := hide hno
  have Hcn := hide hcn
  clear hw0 hb0 hk hC hwi hbit hB hgW hgB hlo hno hcn
  have x0 : w0.cell? ⟨w.heap.size, 0, none⟩ = some (.int .u32 (c : Int)) := HX0.out.cell 0
  have x1 : w0.cell? ⟨w.heap.size, 1, none⟩ = some (.int .i64 (k : Int)) := HX0.out.cell 1
  have x2 : w0.cell? ⟨w.heap.size, 2, none⟩ = some (.int .i64 0) := HX0.out.cell 2
  have x3 : w0.cell? ⟨w.heap.size, 3, none⟩ = some (.int .i64 0) := HX0.out.cell 3
  have x4 : w0.cell? ⟨w.heap.size, 4, none⟩ = some (.slice none 0 0) := HX0.out.cell 4
  have x5 : w0.cell? ⟨w.heap.size, 5, none⟩ = some (.int .u32 0) := HX0.out.cell 5
  have x6 : w0.cell? ⟨w.heap.size, 6, none⟩ = some (.int .u32 0) := HX0.out.cell 6
  have x7 : w0.cell? ⟨w.heap.size, 7, none⟩ = some (.int .u32 0) := HX0.out.cell 7
  have x8 : w0.cell? ⟨w.heap.size, 8, none⟩ = some (.int .u32 0) := HX0.out.cell 8
  have x9 : w0.cell? ⟨w.heap.size, 9, none⟩ = some (.int .u32 0) := HX0.out.cell 9
  have x10 : w0.cell? ⟨w.heap.size, 10, none⟩ = some (.slice none 0 0) := HX0.out.cell 10
  have x11 : w0.cell? ⟨w.heap.size, 11, none⟩ = some (.int .u32 0) := HX0.out.cell 11
  have x12 : w0.cell? ⟨w.heap.size, 12, none⟩ = some (.int .u32 0) := HX0.out.cell 12
  have x13 : w0.cell? ⟨w.heap.size, 13, none⟩ = some (.int .u32 0) := HX0.out.cell 13
  have x14 : w0.cell? ⟨w.heap.size, 14, none⟩ = some (.bool false) := HX0.out.cell 14
  have x15 : w0.cell? ⟨w.heap.size, 15, none⟩ = some (.bool false) := HX0.out.cell 15
  go_enter Tryz.func52, Tryz.ntmps52
  go_wp2_with fail
  rw [HW0.out]
  refine (HGd.out _).mono ?_
  rintro e w1 ⟨rfl, hb1⟩
  have HB1 := hide (HB0.out.trans (hb1.mono HB0.out.size))
  have HX1 := hide (HX0.out.below hb1 HX0.out.lt)
  have HK1 := hide (HK0.out.below hb1)
  clear x0 x1 x2 x3 x4 x5 x6 x7 x8 x9 x10 x11 x12 x13 x14 x15
  have x0 : w1.cell? ⟨w.heap.size, 0, none⟩ = some (.int .u32 (c : Int)) := HX1.out.cell 0
  have x1 : w1.cell? ⟨w.heap.size, 1, none⟩ = some (.int .i64 (k : Int)) := HX1.out.cell 1
  have x2 : w1.cell? ⟨w.heap.size, 2, none⟩ = some (.int .i64 0) := HX1.out.cell 2
  have x3 : w1.cell? ⟨w.heap.size, 3, none⟩ = some (.int .i64 0) := HX1.out.cell 3
  have x4 : w1.cell? ⟨w.heap.size, 4, none⟩ = some (.slice none 0 0) := HX1.out.cell 4
  have x5 : w1.cell? ⟨w.heap.size, 5, none⟩ = some (.int .u32 0) := HX1.out.cell 5
  have x6 : w1.cell? ⟨w.heap.size, 6, none⟩ = some (.int .u32 0) := HX1.out.cell 6
  have x7 : w1.cell? ⟨w.heap.size, 7, none⟩ = some (.int .u32 0) := HX1.out.cell 7
  have x8 : w1.cell? ⟨w.heap.size, 8, none⟩ = some (.int .u32 0) := HX1.out.cell 8
  have x9 : w1.cell? ⟨w.heap.size, 9, none⟩ = some (.int .u32 0) := HX1.out.cell 9
  have x10 : w1.cell? ⟨w.heap.size, 10, none⟩ = some (.slice none 0 0) := HX1.out.cell 10
  have x11 : w1.cell? ⟨w.heap.size, 11, none⟩ = some (.int .u32 0) := HX1.out.cell 11
  have x12 : w1.cell? ⟨w.heap.size, 12, none⟩ = some (.int .u32 0) := HX1.out.cell 12
  have x13 : w1.cell? ⟨w.heap.size, 13, none⟩ = some (.int .u32 0) := HX1.out.cell 13
  have x14 : w1.cell? ⟨w.heap.size, 14, none⟩ = some (.bool false) := HX1.out.cell 14
  have x15 : w1.cell? ⟨w.heap.size, 15, none⟩ = some (.bool false) := HX1.out.cell 15
  go_wp2_with fail
  refine (HMt.out w1 hb1).mono ?_
  rintro e w2 ⟨rfl, hb2⟩
  have HB2 := hide (HB1.out.trans (hb2.mono HB1.out.size))
  have HX2 := hide (HX1.out.below hb2 HX1.out.lt)
  have HK2 := hide (HK1.out.below hb2)
  have HPt : Hid (∀ W, Below w2.heap.size w2 W → _) := hide (fun W (hb : Below w2.heap.size w2 W) => putnP_any (F := fun _ => False) (R := RU) gW c k wt 0 none 0 0 W HC.out (HK2.out.below hb).fw (HK2.out.below hb).fwt (fun _ h => h.elim) ru_frs (fun h => h) (fun hg => by obtain ⟨cs2, hb2⟩ := trw_blk HK2.out.fwt.mem gW hg; exact HK2.out.fw.ne_ hb2 (by decide) rfl) (by have := Hcn.out; omega) Hno.out)
  clear hb1 hb2 x0 x1 x2 x3 x4 x5 x6 x7 x8 x9 x10 x11 x12 x13 x14 x15
  go_upto_region 4 with fail
  refine wp_region_relH 13 0 (Nat.zero_le _) [(fun v _ => v = .pointer (some ⟨tb, 0, none⟩)), (fun v _ => v = .pointer (some ⟨tb, 0, none⟩)), (fun v _ => v = .pointer (some ⟨tb, 5, none⟩)), (fun v _ => v = .pointer (some ⟨gW, 0, none⟩)), (fun v _ => v = .pointer (some ⟨w.heap.size, 0, none⟩)), (fun v _ => v = .agg #[.int .u32 (c : Int), .int .i64 (k : Int)]), (fun v _ => v = .slice none 0 0), (fun v W => ∃ t2, v = .tuple #[.slice none 0 0, .bool false] ∧ PutR c k 0 wt t2 ∧ Blk W gW 222 #[trPtr t2] ∧ TrA 1 231 (fun _ => False) RU W t2 ∧ (∀ j ∈ trB t2, j ∈ trB wt ∨ w2.heap.size ≤ j) ∧ ChgS (fun k => k = gW ∨ k ∈ trB wt) w2 W), (fun v _ => v = .tuple #[.slice none 0 0, .bool false]), (fun v _ => v = .slice none 0 0), (fun v _ => v = .bool false), (fun v _ => v = .slice none 0 0), (fun v _ => v = .bool false)] (fun i W => (1 ≤ i ∧ i ≤ 7) → Below w2.heap.size w2 W) (fun i Wa Wb => if i = 7 then Below 0 Wa Wb else Below Wa.heap.size Wa Wb) (by kernel_rfl) (by kernel_rfl) (by kernel_rfl) (by kernel_rfl) (by kernel_rfl) ?hE ?hR ?hP ?h0 ⟨?_, ?_, ?_, ?_, ?_, ?_, ?_, ?_, ?_, ?_, ?_, ?_, ?_, trivial⟩ ?_
  case hE =>
    intro i2 wa wb hB he
    split at he
    · exact he
    · exact he.mono (Nat.zero_le _)
  case hR =>
    intro i2 j2 v2 wa wb hij hB he h
    split at he
    · rename_i hj2
      subst hj2
      refine keepAll_at (E := fun wa wb => Below 0 wa wb) (x := 7) (k := 0) ?_ (by omega) he h
      exact ⟨fun _ v wa wb he h => h, fun _ v wa wb he h => h, fun _ v wa wb he h => h, fun _ v wa wb he h => h, fun _ v wa wb he h => h, fun _ v wa wb he h => h, fun _ v wa wb he h => h, fun hn => absurd rfl hn, fun _ v wa wb he h => h, fun _ v wa wb he h => h, fun _ v wa wb he h => h, fun _ v wa wb he h => h, fun _ v wa wb he h => h, trivial⟩
    · refine relMono _ ?_ i2 v2 wa wb he h
      exact ⟨fun _ _ _ _ h => h, fun _ _ _ _ h => h, fun _ _ _ _ h => h, fun _ _ _ _ h => h, fun _ _ _ _ h => h, fun _ _ _ _ h => h, fun _ _ _ _ h => h, fun v wa wb hb ⟨t2, e, h1, h2, h3, h5, h4⟩ => ⟨t2, e, h1, h2.below hb h2.lt, tra_below h3 hb, h5, chg_trans h4 (chg_below (S := fun _ => False) hb) (fun k h => h.elim)⟩, fun _ _ _ _ h => h, fun _ _ _ _ h => h, fun _ _ _ _ h => h, fun _ _ _ _ h => h, fun _ _ _ _ h => h, trivial⟩
  case hP =>
    intro i2 j2 wa wb hij hnb hB he h hi
    split at he
    · rename_i hj2
      subst hj2
      have hi3 : i2 = 1 ∨ i2 = 2 ∨ i2 = 3 ∨ i2 = 4 ∨ i2 = 5 ∨ i2 = 6 ∨ i2 = 7 := by omega
      rcases hi3 with rfl | rfl | rfl | rfl | rfl | rfl | rfl
      all_goals first | exact absurd rfl hij | exact absurd hnb (by decide +kernel)
    · exact (h hi).trans (he.mono (h hi).size)
  case h0 =>
    intro j2 hj2 _
    exact (Below.refl _ _).drew
  · refine relG_plain rfl rfl (fun _ _ h => h) ?_
    intro Ac w5 hp
    have hb := hp.bel
    have a0 : Ac.eval (.tmp 0) = .pointer (some ⟨tb, 0, none⟩) := hp.out 0 (by rfl)
    have hc := evalC Ac; have hf := evalF Ac; have hgl := evalG Ac
    obtain ⟨ρ, hρ⟩ : ∃ ρ, Ac.eval = ρ := ⟨_, rfl⟩
    rw [hρ] at a0 hc hf hgl
    exact relPure hρ (.pointer (some ⟨tb, 0, none⟩)) (by simp [go_sem, hc, hf, hgl, ↓IntWalk.iteOmega, a0, *]) rfl
  · refine relG_plain rfl rfl (fun _ _ h => h) ?_
    intro Ac w5 hp
    have hb := hp.bel
    have a20 : Ac.eval (.tmp 20) = .pointer (some ⟨tb, 0, none⟩) := hp.dep 0 (by kernel_rfl)
    have hc := evalC Ac; have hf := evalF Ac; have hgl := evalG Ac
    obtain ⟨ρ, hρ⟩ : ∃ ρ, Ac.eval = ρ := ⟨_, rfl⟩
    rw [hρ] at a20 hc hf hgl
    exact relPure hρ (.pointer (some ⟨tb, 0, none⟩)) (by simp [go_sem, hc, hf, hgl, ↓IntWalk.iteOmega, a20, *]) rfl
  · refine relG_plain rfl rfl (fun _ _ h => h) ?_
    intro Ac w5 hp
    have hb := hp.bel
    have a21 : Ac.eval (.tmp 21) = .pointer (some ⟨tb, 0, none⟩) := hp.dep 1 (by kernel_rfl)
    have hc := evalC Ac; have hf := evalF Ac; have hgl := evalG Ac
    obtain ⟨ρ, hρ⟩ : ∃ ρ, Ac.eval = ρ := ⟨_, rfl⟩
    rw [hρ] at a21 hc hf hgl
    exact relPure hρ (.pointer (some ⟨tb, 5, none⟩)) (by simp [go_sem, hc, hf, hgl, ↓IntWalk.iteOmega, a21, *]) rfl
  · refine relG_plain rfl rfl (fun _ _ h => h) ?_
    intro Ac w5 hp
    have hb := hp.bel
    have a22 : Ac.eval (.tmp 22) = .pointer (some ⟨tb, 5, none⟩) := hp.dep 2 (by kernel_rfl)
    have hb := hp.pre ⟨by decide, by decide⟩
    have ht5 := (HK2.out.below hb).ft
    have t5 : w5.cell? ⟨tb, 5, none⟩ = some (.pointer (some ⟨gW, 0, none⟩)) := ht5.cell 5
    have hc := evalC Ac; have hf := evalF Ac; have hgl := evalG Ac
    obtain ⟨ρ, hρ⟩ : ∃ ρ, Ac.eval = ρ := ⟨_, rfl⟩
    rw [hρ] at a22 hc hf hgl
    exact relPure hρ (.pointer (some ⟨gW, 0, none⟩)) (by simp [go_sem, hc, hf, hgl, ↓IntWalk.iteOmega, a22, *]) rfl
  · refine relG_plain rfl rfl (fun _ _ h => h) ?_
    intro Ac w5 hp
    have hb := hp.bel
    have a3 : Ac.eval (.tmp 3) = .pointer (some ⟨w.heap.size, 0, none⟩) := hp.out 3 (by rfl)
    have hc := evalC Ac; have hf := evalF Ac; have hgl := evalG Ac
    obtain ⟨ρ, hρ⟩ : ∃ ρ, Ac.eval = ρ := ⟨_, rfl⟩
    rw [hρ] at a3 hc hf hgl
    exact relPure hρ (.pointer (some ⟨w.heap.size, 0, none⟩)) (by simp [go_sem, hc, hf, hgl, ↓IntWalk.iteOmega, a3, *]) rfl
  · refine relG_plain rfl rfl (fun _ _ h => h) ?_
    intro Ac w5 hp
    have hb := hp.bel
    have a24 : Ac.eval (.tmp 24) = .pointer (some ⟨w.heap.size, 0, none⟩) := hp.dep 4 (by kernel_rfl)
    have hb := hp.pre ⟨by decide, by decide⟩
    have hx5 := HX2.out.below hb HX2.out.lt
    have x0 : w5.cell? ⟨w.heap.size, 0, none⟩ = some (.int .u32 (c : Int)) := hx5.cell 0
    have x1 : w5.cell? ⟨w.heap.size, 1, none⟩ = some (.int .i64 (k : Int)) := hx5.cell 1
    have x2 : w5.cell? ⟨w.heap.size, 2, none⟩ = some (.int .i64 0) := hx5.cell 2
    have x3 : w5.cell? ⟨w.heap.size, 3, none⟩ = some (.int .i64 0) := hx5.cell 3
    have x4 : w5.cell? ⟨w.heap.size, 4, none⟩ = some (.slice none 0 0) := hx5.cell 4
    have x5 : w5.cell? ⟨w.heap.size, 5, none⟩ = some (.int .u32 0) := hx5.cell 5
    have x6 : w5.cell? ⟨w.heap.size, 6, none⟩ = some (.int .u32 0) := hx5.cell 6
    have x7 : w5.cell? ⟨w.heap.size, 7, none⟩ = some (.int .u32 0) := hx5.cell 7
    have x8 : w5.cell? ⟨w.heap.size, 8, none⟩ = some (.int .u32 0) := hx5.cell 8
    have x9 : w5.cell? ⟨w.heap.size, 9, none⟩ = some (.int .u32 0) := hx5.cell 9
    have x10 : w5.cell? ⟨w.heap.size, 10, none⟩ = some (.slice none 0 0) := hx5.cell 10
    have x11 : w5.cell? ⟨w.heap.size, 11, none⟩ = some (.int .u32 0) := hx5.cell 11
    have x12 : w5.cell? ⟨w.heap.size, 12, none⟩ = some (.int .u32 0) := hx5.cell 12
    have x13 : w5.cell? ⟨w.heap.size, 13, none⟩ = some (.int .u32 0) := hx5.cell 13
    have x14 : w5.cell? ⟨w.heap.size, 14, none⟩ = some (.bool false) := hx5.cell 14
    have x15 : w5.cell? ⟨w.heap.size, 15, none⟩ = some (.bool false) := hx5.cell 15
    have hc := evalC Ac; have hf := evalF Ac; have hgl := evalG Ac
    obtain ⟨ρ, hρ⟩ : ∃ ρ, Ac.eval = ρ := ⟨_, rfl⟩
    rw [hρ] at a24 hc hf hgl
    exact relPure hρ (.agg #[.int .u32 (c : Int), .int .i64 (k : Int)]) (by simp [go_sem, hc, hf, hgl, ↓IntWalk.iteOmega, a24, *]) rfl
  · refine relG_plain rfl rfl (fun _ _ h => h) ?_
    intro Ac w5 hp
    have hb := hp.bel
    have a5 : Ac.eval (.tmp 5) = .slice none 0 0 := hp.out 5 (by rfl)
    have hc := evalC Ac; have hf := evalF Ac; have hgl := evalG Ac
    obtain ⟨ρ, hρ⟩ : ∃ ρ, Ac.eval = ρ := ⟨_, rfl⟩
    rw [hρ] at a5 hc hf hgl
    exact relPure hρ (.slice none 0 0) (by simp [go_sem, hc, hf, hgl, ↓IntWalk.iteOmega, a5, *]) rfl
  · refine relG_enter rfl rfl ?_
    intro Ac w5 hp
    have hb := hp.bel
    have a23 : Ac.eval (.tmp 23) = .pointer (some ⟨gW, 0, none⟩) := hp.dep 3 (by kernel_rfl)
    have a25 : Ac.eval (.tmp 25) = .agg #[.int .u32 (c : Int), .int .i64 (k : Int)] := hp.dep 5 (by kernel_rfl)
    have a26 : Ac.eval (.tmp 26) = .slice none 0 0 := hp.dep 6 (by kernel_rfl)
    have hc := evalC Ac; have hf := evalF Ac; have hgl := evalG Ac
    obtain ⟨ρ, hρ⟩ : ∃ ρ, Ac.eval = ρ := ⟨_, rfl⟩
    rw [hρ] at a23 a25 a26 hc hf hgl
    refine ⟨109, #[.pointer (some ⟨gW, 0, none⟩), .agg #[.int .u32 (c : Int), .int .i64 (k : Int)], .slice none 0 0], by rw [hρ]; simp [go_sem, hc, hf, hgl, ↓IntWalk.iteOmega, a23, a25, a26, *], ?_⟩
    have hb := hp.pre ⟨by decide, by decide⟩
    refine (HPt.out w5 hb).mono ?_
    rintro e w6 ⟨rfl, t2, h1, h2, h3, h5, h4⟩
    refine ⟨_, rfl, ⟨t2, rfl, h1, h2, h3, fun j hj => (h5 j hj).imp id (Nat.le_trans hb.size), chg_trans (chg_below hb) h4 (fun k h => .inl h)⟩, by show Below 0 w5 w6; exact ⟨h4.os, h4.tape, h4.output, h4.size, fun k hk => absurd hk (Nat.not_lt_zero k)⟩⟩
  · refine relG_plain rfl rfl (fun _ _ h => h) ?_
    intro Ac w5 hp
    have hb := hp.bel
    obtain ⟨t2, a27, hpr, hgw, htw, hlw, hcw⟩ := hp.dep 7 (by kernel_rfl)
    change Ac.eval (.tmp 27) = _ at a27
    have hc := evalC Ac; have hf := evalF Ac; have hgl := evalG Ac
    obtain ⟨ρ, hρ⟩ : ∃ ρ, Ac.eval = ρ := ⟨_, rfl⟩
    rw [hρ] at a27 hc hf hgl
    exact relPure hρ (.tuple #[.slice none 0 0, .bool false]) (by simp [go_sem, hc, hf, hgl, ↓IntWalk.iteOmega, a27, *]) rfl
  · refine relG_plain rfl rfl (fun _ _ h => h) ?_
    intro Ac w5 hp
    have hb := hp.bel
    have a19 : Ac.eval (.tmp 19) = .tuple #[.slice none 0 0, .bool false] := hp.dep 8 (by kernel_rfl)
    have hc := evalC Ac; have hf := evalF Ac; have hgl := evalG Ac
    obtain ⟨ρ, hρ⟩ : ∃ ρ, Ac.eval = ρ := ⟨_, rfl⟩
    rw [hρ] at a19 hc hf hgl
    exact relPure hρ (.slice none 0 0) (by simp [go_sem, hc, hf, hgl, ↓IntWalk.iteOmega, a19, *]) rfl
  · refine relG_plain rfl rfl (fun _ _ h => h) ?_
    intro Ac w5 hp
    have hb := hp.bel
    have a19 : Ac.eval (.tmp 19) = .tuple #[.slice none 0 0, .bool false] := hp.dep 8 (by kernel_rfl)
    have hc := evalC Ac; have hf := evalF Ac; have hgl := evalG Ac
    obtain ⟨ρ, hρ⟩ : ∃ ρ, Ac.eval = ρ := ⟨_, rfl⟩
    rw [hρ] at a19 hc hf hgl
    exact relPure hρ (.bool false) (by simp [go_sem, hc, hf, hgl, ↓IntWalk.iteOmega, a19, *]) rfl
  · refine relG_plain rfl rfl (fun _ _ h => h) ?_
    intro Ac w5 hp
    have hb := hp.bel
    have a28 : Ac.eval (.tmp 28) = .slice none 0 0 := hp.dep 9 (by kernel_rfl)
    have hc := evalC Ac; have hf := evalF Ac; have hgl := evalG Ac
    obtain ⟨ρ, hρ⟩ : ∃ ρ, Ac.eval = ρ := ⟨_, rfl⟩
    rw [hρ] at a28 hc hf hgl
    exact relPure hρ (.slice none 0 0) (by simp [go_sem, hc, hf, hgl, ↓IntWalk.iteOmega, a28, *]) rfl
  · refine relG_plain rfl rfl (fun _ _ h => h) ?_
    intro Ac w5 hp
    have hb := hp.bel
    have a29 : Ac.eval (.tmp 29) = .bool false := hp.dep 10 (by kernel_rfl)
    have hc := evalC Ac; have hf := evalF Ac; have hgl := evalG Ac
    obtain ⟨ρ, hρ⟩ : ∃ ρ, Ac.eval = ρ := ⟨_, rfl⟩
    rw [hρ] at a29 hc hf hgl
    exact relPure hρ (.bool false) (by simp [go_sem, hc, hf, hgl, ↓IntWalk.iteOmega, a29, *]) rfl
  intro u w9 hb7 hall
  obtain ⟨t2, e27, hpr, hgw, htw, hlw, hcw⟩ := relAll_at hall (i := 7) (by decide +kernel)
  change u 7 = _ at e27
  have e6 : u 11 = .slice none 0 0 := relAll_at hall (i := 11) (by decide +kernel)
  have e7 : u 12 = .bool false := relAll_at hall (i := 12) (by decide +kernel)
  clear hall
  simp only [List.drop_succ_cons, List.drop_zero, List.take_succ_cons, List.take_zero, putAll, Act.put, List.setIfInBounds_toArray, List.set_cons_zero, List.set_cons_succ, Nat.zero_add, Nat.reduceAdd, e27, e6, e7]
  have HKw := hide (HK2.out.ways hcw hgw htw)
  have HB9 : Hid (Below B w w9) := hide ((HB2.out.mono HBq.out).trans (chg_to_below hcw (Nat.le_trans HBq.out HB2.out.size) (fun j hj => hj.elim (fun e => e ▸ HgW.out) (fun h => Hlo.out j h))))
  have HPr := hide hpr
  have HX9 := hide (chg_blk hcw HX2.out (fun hj => hj.elim (fun e => by subst e; exact HX2.out.ne_ HK2.out.fw (by decide) rfl) (fun h => by obtain ⟨cs2, hb2⟩ := trw_blk HK2.out.fwt.mem _ h; exact HX2.out.ne_ hb2 (by decide) rfl)))
  have x0 : w9.cell? ⟨w.heap.size, 0, none⟩ = some (.int .u32 (c : Int)) := HX9.out.cell 0
  have x1 : w9.cell? ⟨w.heap.size, 1, none⟩ = some (.int .i64 (k : Int)) := HX9.out.cell 1
  have x2 : w9.cell? ⟨w.heap.size, 2, none⟩ = some (.int .i64 0) := HX9.out.cell 2
  have x3 : w9.cell? ⟨w.heap.size, 3, none⟩ = some (.int .i64 0) := HX9.out.cell 3
  have x4 : w9.cell? ⟨w.heap.size, 4, none⟩ = some (.slice none 0 0) := HX9.out.cell 4
  have x5 : w9.cell? ⟨w.heap.size, 5, none⟩ = some (.int .u32 0) := HX9.out.cell 5
  have x6 : w9.cell? ⟨w.heap.size, 6, none⟩ = some (.int .u32 0) := HX9.out.cell 6
  have x7 : w9.cell? ⟨w.heap.size, 7, none⟩ = some (.int .u32 0) := HX9.out.cell 7
  have x8 : w9.cell? ⟨w.heap.size, 8, none⟩ = some (.int .u32 0) := HX9.out.cell 8
  have x9 : w9.cell? ⟨w.heap.size, 9, none⟩ = some (.int .u32 0) := HX9.out.cell 9
  have x10 : w9.cell? ⟨w.heap.size, 10, none⟩ = some (.slice none 0 0) := HX9.out.cell 10
  have x11 : w9.cell? ⟨w.heap.size, 11, none⟩ = some (.int .u32 0) := HX9.out.cell 11
  have x12 : w9.cell? ⟨w.heap.size, 12, none⟩ = some (.int .u32 0) := HX9.out.cell 12
  have x13 : w9.cell? ⟨w.heap.size, 13, none⟩ = some (.int .u32 0) := HX9.out.cell 13
  have x14 : w9.cell? ⟨w.heap.size, 14, none⟩ = some (.bool false) := HX9.out.cell 14
  have x15 : w9.cell? ⟨w.heap.size, 15, none⟩ = some (.bool false) := HX9.out.cell 15
  have HLo2 : Hid (∀ j ∈ trB t2, B ≤ j) := hide (fun j hj => (hlw j hj).elim (fun h => Hlo.out j h) (fun h => Nat.le_trans HBq.out (Nat.le_trans HB2.out.size h)))
  have hs9 : B ≤ w9.heap.size := Nat.le_trans HBq.out HB9.out.size
  have HPx9 : Hid (∀ g cs, Blk w g 24 cs → Blk w9 g 24 cs) := hide (fun g2 cs hbk => by have hbk := hbk.below HB2.out hbk.lt; exact chg_blk hcw hbk (fun hj => hj.elim (fun e => by subst e; exact hbk.ne_ HK2.out.fw (by decide) rfl) (fun h => by obtain ⟨cs2, hb2⟩ := trw_blk HK2.out.fwt.mem _ h; exact hbk.ne_ hb2 (by decide) rfl)))
  clear hpr hgw htw hlw hcw hb7
  go_wp2_with fail
  refine (lay_no a n c k tb gE gW gB nb en t2 bt w9 HKw.out HC.out).mono ?_
  rintro e w10 ⟨A7, c7, rfl, hk10, hb10⟩
  have HK10 := hide hk10
  have HB10 : Hid (Below B w w10) := hide (HB9.out.trans (hb10.mono hs9))
  have HPX : Hid (∀ g cs, Blk w g 24 cs → Blk w10 g 24 cs) := hide (fun g2 cs hbk => by have h9 := HPx9.out g2 cs hbk; exact h9.below hb10 h9.lt)
  clear hk10 hb10 x0 x1 x2 x3 x4 x5 x6 x7 x8 x9 x10 x11 x12 x13 x14 x15
  go_wp2
  go_ret
  exact ⟨A7, c7, t2, rfl, HK10.out, HPr.out, HB10.out, HLo2.out, HPX.out⟩
end Go.Proofs.YtcinjckajnnhmaaGreat
