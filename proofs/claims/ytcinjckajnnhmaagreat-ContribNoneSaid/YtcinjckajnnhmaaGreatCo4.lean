import Derived.Test.YtcinjckajnnhmaaGreatCo3
import Derived.WalkKit
import Derived.ProofKit
import Derived.OpenShut
import Derived.Below
import Derived.Laws.OwnMore
import Derived.Laws.Rows
import Derived.Laws.MakeOwn
import Derived.Deep.AppendLies
import Derived.Deep.Draws
import Derived.Deep.OwnRows
import Derived.Deep.QuietTactic
import Derived.Maps.AppendAt
import Derived.RegionTactic
import Derived.OwnWalk
import Derived.ChangeSame
import Derived.Outline
import Derived.BigQuiet
import Derived.WalkMore
import Derived.ScopeJumps
import Derived.WalkLawsBesides
import Derived.WalkSpells
import Derived.Laws.BitsLemmas
import Derived.Laws.BitsAllLaws
import Derived.WideKeyArgs
import Derived.Deep.DeepHandedRow
import Derived.Deep.DeepWitnessRowRef
import Derived.Lib.LaidTab
import Derived.Lib.AppendIntMem
import Derived.LaidMore
import Derived.MakeChecks
import Derived.Lib.Itoa
import Derived.Lib.ItoaMem
import Derived.Deep.Quiet
import Derived.Deep.Slices
import Derived.BigRegion
import Derived.Orders
import Derived.OrdersIn
import Derived.RangeFuncCalls
import Derived.Shelf.RegionOpen
import Derived.StillTailTactics
import Derived.Lib.PathFns
import Derived.Lib.IndexBytes
import Derived.RangeFuncWrites
import Derived.RangeFuncNested
import Derived.RangeFuncBound
import Derived.RangeFuncLeaves
import Derived.RangeFuncBox
import Derived.Shelf.Abstract
import Derived.OwnWalkIn
import Derived.TacticsInMore
import Derived.LoopNIn
import Derived.LoopIn
import Derived.Lib.SmallJoins
import Derived.Lib.ParseIntBCases
import Derived.Lib.IndexMore
import Derived.Shelf.Vars
import Derived.Lib.AtoiAllCases
import Derived.SliceStrings
import Derived.Deep.RegionLaw
import Derived.Sort.LotA
import Derived.BigRegionIn
import Derived.Deep.RegionHeld3
import Derived.RangeFuncOwn
import Derived.Sort.WalkA6
import Derived.Sort.WalkB3
import Derived.Sort.WalkC4
import Derived.Sort.WalkA14
import Derived.Sort.Walk11
import Derived.Sort.Walk7
import Derived.Sort.Walk13
import Derived.Sort.Row
import Derived.Lib.Walk
import Derived.Lib.Strings
import Derived.BigGuard
import Derived.BigCall
import Derived.CellFam
import Derived.Deep.LoopGhost
import Derived.Sort.LotC
import Derived.Deep.RegionWith
import Derived.RowKit
import Derived.Sort.LotD3
import Derived.Sort.LotD4
import Derived.Sort.Grow
import Derived.Sort.AtCall
import Derived.Sort.LotD5
import Derived.Laws.Bits64
import Derived.Laws.Bits64b
import Derived.Sort.EncStr
import Derived.Sort.LotD1
import Derived.Sort.LotB
import Derived.Deep.Cut
import Derived.Sort.Walk13a
import Derived.Sort.AssemblyPlain
import Derived.Shelf.Spec.SlicesInsertGrow
import Derived.Deep.MidRow
import Derived.Lib.RowBridge
import Derived.Laws.CopyOwn
import Derived.Lib.AppendZerosOnto
import Derived.Deep.DeepCutAuto
import Derived.Lib.Bytealg
import Derived.Shelf.Strings.SplitShaped
import Derived.Shelf.Strings.Prefix
import Derived.Shelf.Small.Strs
set_option linter.unusedSimpArgs false
set_option linter.unusedVariables false
namespace Go.Proofs.YtcinjckajnnhmaaGreat
open Go.RowKit Go.WideShapes Go.ChangeShapes
attribute [local go_sem] Oper.semAt_some
theorem lenP {l : List Value} (h0 : VOk 1 l) : ∃ v0, l = [v0] := by
  have h := h0.1
  clear h0
  obtain _ | ⟨v0, l⟩ := l
  · simp at h
  obtain _ | ⟨x, l⟩ := l
  · exact ⟨_, rfl⟩
  · simp at h
set_option maxRecDepth 100000 in
theorem countP_any {α : Type} {F : Nat → Prop} {R : World → List Value → α → Prop} (t : Tr α) (w : World) (h : TrW 1 231 F R w t) : Calls Tryz.prog 174 #[trPtr t] w fun e w' => e = .returned (.int .i64 (trCnt t : Int)) ∧ w' = w := by
  cases t with
  | nil =>
    show Calls Tryz.prog 174 #[.pointer none] w _
    go_enter Tryz.func174, Tryz.ntmps174
    go_wp2
    go_ret
    exact ⟨rfl, rfl⟩
  | nd b a n v l r =>
    obtain ⟨⟨vs, hv, hk, _⟩, _, _⟩ := h
    obtain ⟨v0, rfl⟩ := lenP hv
    show Calls Tryz.prog 174 #[.pointer (some ⟨b, 0, none⟩)] w _
    have z : w.cell? ⟨b, 4, none⟩ = some (.int .i64 ((trCnt l + trCnt r + (if v.isSome then 1 else 0) : Nat) : Int)) := hk.cell 4
    have HR : Hid (trCnt (.nd b a n v l r) = trCnt l + trCnt r + (if v.isSome then 1 else 0)) := hide rfl
    obtain ⟨c, hc⟩ : ∃ c, trCnt l + trCnt r + (if v.isSome then 1 else 0) = c := ⟨_, rfl⟩
    rw [hc] at z HR
    clear hk hc
    go_enter Tryz.func174, Tryz.ntmps174
    go_wp2
    go_ret
    exact ⟨by rw [HR.out]; rfl, rfl⟩
set_option maxRecDepth 100000 in
set_option maxHeartbeats 4000000 in
theorem noteP_any {α : Type} {F : Nat → Prop} {R : World → List Value → α → Prop} (b a n : Nat) (vs : List Value) (hvs : VOk 1 vs) (q : Bool) (c0 : Nat) (l r : Tr α) (w : World) (hk : Blk w b 231 (ndC a n vs q c0 (trPtr l) (trPtr r)))
    (hl : TrW 1 231 F R w l) (hr : TrW 1 231 F R w r) (hc : trCnt l + trCnt r < 1000000000) :
    Calls Tryz.prog 208 #[.pointer (some ⟨b, 0, none⟩)] w fun e w' => e = .returned (.pointer (some ⟨b, 0, none⟩)) ∧ Blk w' b 231 (ndC a n vs q (trCnt l + trCnt r + (if q then 1 else 0)) (trPtr l) (trPtr r)) ∧ ChgS (fun k => k = b) w w' := by
  obtain ⟨v0, rfl⟩ := lenP hvs
  have HK := hide hk
  have HL := hide hl
  have HRt := hide hr
  obtain ⟨s, hs⟩ : ∃ s, trCnt l + trCnt r = s := ⟨_, rfl⟩
  have HWr : Hid (IntKind.i64.wrap ((trCnt l : Int) + (trCnt r : Int)) = (s : Int)) := hide (by rw [IntKind.wrap_i64]; omega)
  rw [hs] at hc ⊢
  have HC := hide hc
  clear hk hl hr hc hvs hs
  go_enter Tryz.func208, Tryz.ntmps208
  go_upto_region 1 with fail
  have Hmn := hide (show AllMono [(fun v _ => v = .pointer (some ⟨b, 0, none⟩)), (fun v _ => v = .pointer (some ⟨b, 0, none⟩)), (fun v _ => v = .pointer (some ⟨b, 0, none⟩)), (fun v _ => v = .pointer (some ⟨b, 5, none⟩)), (fun v _ => v = .pointer (some ⟨b, 5, none⟩)), (fun v _ => v = trPtr l), (fun v _ => v = .int .i64 (trCnt l : Int)), (fun v _ => v = .pointer (some ⟨b, 0, none⟩)), (fun v _ => v = .pointer (some ⟨b, 0, none⟩)), (fun v _ => v = .pointer (some ⟨b, 5, none⟩)), (fun v _ => v = .pointer (some ⟨b, 6, none⟩)), (fun v _ => v = trPtr r), (fun v _ => v = .int .i64 (trCnt r : Int)), (fun v _ => v = .int .i64 (s : Int)), (fun v _ => v = .pointer (some ⟨b, 0, none⟩)), (fun v _ => v = .pointer (some ⟨b, 4, none⟩))] from ⟨fun _ _ _ _ h => h, fun _ _ _ _ h => h, fun _ _ _ _ h => h, fun _ _ _ _ h => h, fun _ _ _ _ h => h, fun _ _ _ _ h => h, fun _ _ _ _ h => h, fun _ _ _ _ h => h, fun _ _ _ _ h => h, fun _ _ _ _ h => h, fun _ _ _ _ h => h, fun _ _ _ _ h => h, fun _ _ _ _ h => h, fun _ _ _ _ h => h, fun _ _ _ _ h => h, fun _ _ _ _ h => h, trivial⟩)
  refine wp_region_relT 16 _ (by kernel_rfl) (by kernel_rfl) (by kernel_rfl) (by kernel_rfl) (by kernel_rfl) (relMono _ Hmn.out) ⟨?_, ?_, ?_, ?_, ?_, ?_, ?_, ?_, ?_, ?_, ?_, ?_, ?_, ?_, ?_, ?_, trivial⟩ ?_
  · refine relStep_plain rfl ?_
    intro Ac w5 hp
    have hb := hp.bel
    have a0 : Ac.eval (.tmp 0) = .pointer (some ⟨b, 0, none⟩) := hp.out 0 (by rfl)
    have hc := evalC Ac; have hf := evalF Ac; have hgl := evalG Ac
    obtain ⟨ρ, hρ⟩ : ∃ ρ, Ac.eval = ρ := ⟨_, rfl⟩
    rw [hρ] at a0 hc hf hgl
    exact relPure hρ (.pointer (some ⟨b, 0, none⟩)) (by simp [go_sem, hc, hf, hgl, ↓IntWalk.iteOmega, a0, *]) rfl
  · refine relStep_plain rfl ?_
    intro Ac w5 hp
    have hb := hp.bel
    have a0 : Ac.eval (.tmp 0) = .pointer (some ⟨b, 0, none⟩) := hp.out 0 (by rfl)
    have hc := evalC Ac; have hf := evalF Ac; have hgl := evalG Ac
    obtain ⟨ρ, hρ⟩ : ∃ ρ, Ac.eval = ρ := ⟨_, rfl⟩
    rw [hρ] at a0 hc hf hgl
    exact relPure hρ (.pointer (some ⟨b, 0, none⟩)) (by simp [go_sem, hc, hf, hgl, ↓IntWalk.iteOmega, a0, *]) rfl
  · refine relStep_plain rfl ?_
    intro Ac w5 hp
    have hb := hp.bel
    have a4 : Ac.eval (.tmp 4) = .pointer (some ⟨b, 0, none⟩) := hp.dep 1 (by kernel_rfl)
    have hc := evalC Ac; have hf := evalF Ac; have hgl := evalG Ac
    obtain ⟨ρ, hρ⟩ : ∃ ρ, Ac.eval = ρ := ⟨_, rfl⟩
    rw [hρ] at a4 hc hf hgl
    exact relPure hρ (.pointer (some ⟨b, 0, none⟩)) (by simp [go_sem, hc, hf, hgl, ↓IntWalk.iteOmega, a4, *]) rfl
  · refine relStep_plain rfl ?_
    intro Ac w5 hp
    have hb := hp.bel
    have a5 : Ac.eval (.tmp 5) = .pointer (some ⟨b, 0, none⟩) := hp.dep 2 (by kernel_rfl)
    have hc := evalC Ac; have hf := evalF Ac; have hgl := evalG Ac
    obtain ⟨ρ, hρ⟩ : ∃ ρ, Ac.eval = ρ := ⟨_, rfl⟩
    rw [hρ] at a5 hc hf hgl
    exact relPure hρ (.pointer (some ⟨b, 5, none⟩)) (by simp [go_sem, hc, hf, hgl, ↓IntWalk.iteOmega, a5, *]) rfl
  · refine relStep_plain rfl ?_
    intro Ac w5 hp
    have hb := hp.bel
    have a6 : Ac.eval (.tmp 6) = .pointer (some ⟨b, 5, none⟩) := hp.dep 3 (by kernel_rfl)
    have hc := evalC Ac; have hf := evalF Ac; have hgl := evalG Ac
    obtain ⟨ρ, hρ⟩ : ∃ ρ, Ac.eval = ρ := ⟨_, rfl⟩
    rw [hρ] at a6 hc hf hgl
    exact relPure hρ (.pointer (some ⟨b, 5, none⟩)) (by simp [go_sem, hc, hf, hgl, ↓IntWalk.iteOmega, a6, *]) rfl
  · refine relStep_plain rfl ?_
    intro Ac w5 hp
    have hb := hp.bel
    have a7 : Ac.eval (.tmp 7) = .pointer (some ⟨b, 5, none⟩) := hp.dep 4 (by kernel_rfl)
    have hk5 := HK.out.below hb HK.out.lt
    have z0 : w5.cell? ⟨b, 5, none⟩ = some (trPtr l) := hk5.cell 5
    have z1 : w5.cell? ⟨b, 6, none⟩ = some (trPtr r) := hk5.cell 6
    have hc := evalC Ac; have hf := evalF Ac; have hgl := evalG Ac
    obtain ⟨ρ, hρ⟩ : ∃ ρ, Ac.eval = ρ := ⟨_, rfl⟩
    rw [hρ] at a7 hc hf hgl
    exact relPure hρ (trPtr l) (by simp [go_sem, hc, hf, hgl, ↓IntWalk.iteOmega, a7, *]) rfl
  · refine relStep_plain rfl ?_
    intro Ac w5 hp
    have hb := hp.bel
    have a8 : Ac.eval (.tmp 8) = trPtr l := hp.dep 5 (by kernel_rfl)
    have hc := evalC Ac; have hf := evalF Ac; have hgl := evalG Ac
    obtain ⟨ρ, hρ⟩ : ∃ ρ, Ac.eval = ρ := ⟨_, rfl⟩
    rw [hρ] at a8 hc hf hgl
    refine relCall hρ 174 #[trPtr l] (by simp [go_sem, hc, hf, hgl, ↓IntWalk.iteOmega, a8, *]) ?_
    refine (countP_any l w5 (HL.out.chg (S := fun _ => False) (chg_below hp.bel) (by simp) (by simp))).mono ?_
    rintro e w6 ⟨rfl, rfl⟩
    exact ⟨_, rfl, rfl, Below.refl _ _⟩
  · refine relStep_plain rfl ?_
    intro Ac w5 hp
    have hb := hp.bel
    have a0 : Ac.eval (.tmp 0) = .pointer (some ⟨b, 0, none⟩) := hp.out 0 (by rfl)
    have hc := evalC Ac; have hf := evalF Ac; have hgl := evalG Ac
    obtain ⟨ρ, hρ⟩ : ∃ ρ, Ac.eval = ρ := ⟨_, rfl⟩
    rw [hρ] at a0 hc hf hgl
    exact relPure hρ (.pointer (some ⟨b, 0, none⟩)) (by simp [go_sem, hc, hf, hgl, ↓IntWalk.iteOmega, a0, *]) rfl
  · refine relStep_plain rfl ?_
    intro Ac w5 hp
    have hb := hp.bel
    have a10 : Ac.eval (.tmp 10) = .pointer (some ⟨b, 0, none⟩) := hp.dep 7 (by kernel_rfl)
    have hc := evalC Ac; have hf := evalF Ac; have hgl := evalG Ac
    obtain ⟨ρ, hρ⟩ : ∃ ρ, Ac.eval = ρ := ⟨_, rfl⟩
    rw [hρ] at a10 hc hf hgl
    exact relPure hρ (.pointer (some ⟨b, 0, none⟩)) (by simp [go_sem, hc, hf, hgl, ↓IntWalk.iteOmega, a10, *]) rfl
  · refine relStep_plain rfl ?_
    intro Ac w5 hp
    have hb := hp.bel
    have a11 : Ac.eval (.tmp 11) = .pointer (some ⟨b, 0, none⟩) := hp.dep 8 (by kernel_rfl)
    have hc := evalC Ac; have hf := evalF Ac; have hgl := evalG Ac
    obtain ⟨ρ, hρ⟩ : ∃ ρ, Ac.eval = ρ := ⟨_, rfl⟩
    rw [hρ] at a11 hc hf hgl
    exact relPure hρ (.pointer (some ⟨b, 5, none⟩)) (by simp [go_sem, hc, hf, hgl, ↓IntWalk.iteOmega, a11, *]) rfl
  · refine relStep_plain rfl ?_
    intro Ac w5 hp
    have hb := hp.bel
    have a12 : Ac.eval (.tmp 12) = .pointer (some ⟨b, 5, none⟩) := hp.dep 9 (by kernel_rfl)
    have hc := evalC Ac; have hf := evalF Ac; have hgl := evalG Ac
    obtain ⟨ρ, hρ⟩ : ∃ ρ, Ac.eval = ρ := ⟨_, rfl⟩
    rw [hρ] at a12 hc hf hgl
    exact relPure hρ (.pointer (some ⟨b, 6, none⟩)) (by simp [go_sem, hc, hf, hgl, ↓IntWalk.iteOmega, a12, *]) rfl
  · refine relStep_plain rfl ?_
    intro Ac w5 hp
    have hb := hp.bel
    have a13 : Ac.eval (.tmp 13) = .pointer (some ⟨b, 6, none⟩) := hp.dep 10 (by kernel_rfl)
    have hk5 := HK.out.below hb HK.out.lt
    have z0 : w5.cell? ⟨b, 5, none⟩ = some (trPtr l) := hk5.cell 5
    have z1 : w5.cell? ⟨b, 6, none⟩ = some (trPtr r) := hk5.cell 6
    have hc := evalC Ac; have hf := evalF Ac; have hgl := evalG Ac
    obtain ⟨ρ, hρ⟩ : ∃ ρ, Ac.eval = ρ := ⟨_, rfl⟩
    rw [hρ] at a13 hc hf hgl
    exact relPure hρ (trPtr r) (by simp [go_sem, hc, hf, hgl, ↓IntWalk.iteOmega, a13, *]) rfl
  · refine relStep_plain rfl ?_
    intro Ac w5 hp
    have hb := hp.bel
    have a14 : Ac.eval (.tmp 14) = trPtr r := hp.dep 11 (by kernel_rfl)
    have hc := evalC Ac; have hf := evalF Ac; have hgl := evalG Ac
    obtain ⟨ρ, hρ⟩ : ∃ ρ, Ac.eval = ρ := ⟨_, rfl⟩
    rw [hρ] at a14 hc hf hgl
    refine relCall hρ 174 #[trPtr r] (by simp [go_sem, hc, hf, hgl, ↓IntWalk.iteOmega, a14, *]) ?_
    refine (countP_any r w5 (HRt.out.chg (S := fun _ => False) (chg_below hp.bel) (by simp) (by simp))).mono ?_
    rintro e w6 ⟨rfl, rfl⟩
    exact ⟨_, rfl, rfl, Below.refl _ _⟩
  · refine relStep_plain rfl ?_
    intro Ac w5 hp
    have hb := hp.bel
    have a9 : Ac.eval (.tmp 9) = .int .i64 (trCnt l : Int) := hp.dep 6 (by kernel_rfl)
    have a15 : Ac.eval (.tmp 15) = .int .i64 (trCnt r : Int) := hp.dep 12 (by kernel_rfl)
    have hwr := HWr.out
    have hc := evalC Ac; have hf := evalF Ac; have hgl := evalG Ac
    obtain ⟨ρ, hρ⟩ : ∃ ρ, Ac.eval = ρ := ⟨_, rfl⟩
    rw [hρ] at a9 a15 hc hf hgl
    exact relPure hρ (.int .i64 (s : Int)) (by simp [go_sem, hc, hf, hgl, ↓IntWalk.iteOmega, a9, a15, *]) rfl
  · refine relStep_plain rfl ?_
    intro Ac w5 hp
    have hb := hp.bel
    have a3 : Ac.eval (.tmp 3) = .pointer (some ⟨b, 0, none⟩) := hp.dep 0 (by kernel_rfl)
    have hc := evalC Ac; have hf := evalF Ac; have hgl := evalG Ac
    obtain ⟨ρ, hρ⟩ : ∃ ρ, Ac.eval = ρ := ⟨_, rfl⟩
    rw [hρ] at a3 hc hf hgl
    exact relPure hρ (.pointer (some ⟨b, 0, none⟩)) (by simp [go_sem, hc, hf, hgl, ↓IntWalk.iteOmega, a3, *]) rfl
  · refine relStep_plain rfl ?_
    intro Ac w5 hp
    have hb := hp.bel
    have a17 : Ac.eval (.tmp 17) = .pointer (some ⟨b, 0, none⟩) := hp.dep 14 (by kernel_rfl)
    have hc := evalC Ac; have hf := evalF Ac; have hgl := evalG Ac
    obtain ⟨ρ, hρ⟩ : ∃ ρ, Ac.eval = ρ := ⟨_, rfl⟩
    rw [hρ] at a17 hc hf hgl
    exact relPure hρ (.pointer (some ⟨b, 4, none⟩)) (by simp [go_sem, hc, hf, hgl, ↓IntWalk.iteOmega, a17, *]) rfl
  intro u w7 hb7 hall
  have e16 : u 13 = .int .i64 (s : Int) := relAll_at hall (i := 13) (by decide +kernel)
  have e18 : u 15 = .pointer (some ⟨b, 4, none⟩) := relAll_at hall (i := 15) (by decide +kernel)
  clear hall
  simp only [List.drop_succ_cons, List.drop_zero, List.take_succ_cons, List.take_zero, putAll, Act.put, List.setIfInBounds_toArray, List.set_cons_zero, List.set_cons_succ, Nat.zero_add, Nat.reduceAdd, e16, e18]
  have HB7 := hide hb7
  have HK7 := hide (HK.out.below hb7 HK.out.lt)
  clear hb7
  have zc : w7.cell? ⟨b, 4, none⟩ = some (.int .i64 (c0 : Int)) := HK7.out.cell 4
  have zp : w7.cell? ⟨b, 3, none⟩ = some (.bool q) := HK7.out.cell 3
  have zf := fun i => HK7.out.frozen i
  have hw1 : IntKind.i64.wrap ((s : Int) + 1) = ((s + 1 : Nat) : Int) := by have := HC.out; rw [IntKind.wrap_i64]; omega
  have hC1 : ChgS (fun k => k = b) w (w7.setCell ⟨b, 4, none⟩ (.int .i64 (s : Int))) := chg_trans (chg_below HB7.out) (chg_set (S := fun k => k = b) (p := ⟨b, 4, none⟩) rfl _) (fun k h => .inl h)
  have hC2 : ChgS (fun k => k = b) w ((w7.setCell ⟨b, 4, none⟩ (.int .i64 (s : Int))).setCell ⟨b, 4, none⟩ (.int .i64 ((s + 1 : Nat) : Int))) := chg_trans hC1 (chg_set (S := fun k => k = b) (p := ⟨b, 4, none⟩) rfl _) (fun k h => .inl h)
  have hK1 : Blk (w7.setCell ⟨b, 4, none⟩ (.int .i64 (s : Int))) b 231 (ndC a n [v0] q s (trPtr l) (trPtr r)) := HK7.out.set_ 4 _
  have hK2 : Blk ((w7.setCell ⟨b, 4, none⟩ (.int .i64 (s : Int))).setCell ⟨b, 4, none⟩ (.int .i64 ((s + 1 : Nat) : Int))) b 231 (ndC a n [v0] q (s + 1) (trPtr l) (trPtr r)) := hK1.set_ 4 _
  have HC1 := hide hC1
  have HC2 := hide hC2
  have HK1 := hide hK1
  have HK2 := hide hK2
  clear hC1 hC2 hK1 hK2
  cases q
  · go_wp2
    go_ret
    exact ⟨rfl, HK1.out, HC1.out⟩
  · go_wp2
    go_ret
    exact ⟨rfl, HK2.out, HC2.out⟩
theorem trDownP {α : Type} {F : Nat → Prop} {R : World → List Value → α → Prop} {w : World} {s : Tr α} {a : Act} (h : TrW 1 231 F R w s) (e : a.tmps.getD 5 undef = trPtr s) : trDown a w = trRank s := by
  cases s with
  | nil => unfold trDown; rw [e]; rfl
  | nd b c n v l r =>
    obtain ⟨⟨vs, hv, hk, _⟩, _, _⟩ := h
    unfold trDown
    rw [e]
    have hz : w.cell? ⟨b, 1, none⟩ = some (.int .i64 (n : Int)) := hk.cell 1
    show 33 - cellNat w ⟨b, 1, none⟩ = 33 - n
    rw [cellNat_of hz]
def FindJP {α : Type} (F : Nat → Prop) (R : World → List Value → α → Prop) (g c k : Nat) (t : Tr α) (w : World) (a' : Act) (w' : World) : Prop := ∃ (s : Tr α) (xb : Nat) (l : List Value), a' = ⟨(.pointer (some ⟨g, 0, none⟩) :: .agg #[.int .u32 (c : Int), .int .i64 (k : Int)] :: undef :: .pointer (some ⟨xb, 0, none⟩) :: .pointer none :: trPtr s :: l).toArray, []⟩ ∧ l.length = 40 ∧
  TrW 1 231 F R w' s ∧ trWf s ∧ trFind c k s = trFind c k t ∧ Blk w' xb 24 #[.int .u32 (c : Int), .int .i64 (k : Int)] ∧ Below w.heap.size w w'
set_option maxRecDepth 100000 in
set_option maxHeartbeats 8000000 in
theorem findP_any {α : Type} {F : Nat → Prop} {R : World → List Value → α → Prop} (g c k : Nat) (t : Tr α) (w : World) (hc : PG c k) (hg : Blk w g 222 #[trPtr t]) (h : TrW 1 231 F R w t) (hw : trWf t) :
    Calls Tryz.prog 164 #[.pointer (some ⟨g, 0, none⟩), .agg #[.int .u32 (c : Int), .int .i64 (k : Int)]] w fun e w' => e = .returned (trPtr (trFind c k t)) ∧ Below w.heap.size w w' := by
  have HGd := hide (Good_any c (k : Int) hc.1 (by omega) (by have := hc.2.1; omega))
  rw [good_pg hc] at HGd
  unfold pfx at HGd
  obtain ⟨w0, hw0⟩ : ∃ w0, w.alloc (.cells #[.int .u32 (c : Int), .int .i64 (k : Int)] 24) = w0 := ⟨_, rfl⟩
  have hb0 : Below w.heap.size w w0 := hw0 ▸ blkBelow1 w _
  have HX0 : Hid (Blk w0 w.heap.size 24 #[.int .u32 (c : Int), .int .i64 (k : Int)]) := hide (hw0 ▸ Blk.new w _ _)
  have HB0 := hide hb0
  have HG := hide hg
  have HT := hide h
  have HWf := hide hw
  have HPc := hide hc
  have HW0 := hide hw0
  clear hw0 hb0 hg h hw hc
  go_enter Tryz.func164, Tryz.ntmps164
  have x0 : w0.cell? ⟨w.heap.size, 0, none⟩ = some (.int .u32 (c : Int)) := HX0.out.cell 0
  have x1 : w0.cell? ⟨w.heap.size, 1, none⟩ = some (.int .i64 (k : Int)) := HX0.out.cell 1
  go_wp2
  rw [HW0.out]
  refine wp_scope_mid 0 (FindJP F R g c k t w) trDown rfl ?_ ?_
  · intro HPass
    go_wp2_with fail
    refine (HGd.out _).mono ?_
    rintro e w1 ⟨rfl, hb1⟩
    have HB1 := hide (HB0.out.trans (hb1.mono HB0.out.size))
    have HX1 := hide (HX0.out.below hb1 HX0.out.lt)
    have z : w1.cell? ⟨g, 0, none⟩ = some (trPtr t) := (HG.out.below HB1.out HG.out.lt).cell 0
    clear hb1 x0 x1
    go_wp2
    go_step3
    rename_i hK
    refine hK _ _ (HPass _ _ ?_)
    refine ⟨t, w.heap.size, _, rfl, rfl, ?_⟩
    exact ⟨HT.out.chg (S := fun _ => False) (chg_below HB1.out) (by simp) (by simp), HWf.out, rfl, HX1.out, HB1.out⟩
  rintro a1 w2 ⟨s, xb, l0, rfl, hl0, hs, hsw, hsf, hxb, hb2⟩
  obtain ⟨u, rfl⟩ := list_fn hl0
  clear hl0 x0 x1
  rw [show (List.range 40).map u = [u 0, u 1, u 2, u 3, u 4, u 5, u 6, u 7, u 8, u 9, u 10, u 11, u 12, u 13, u 14, u 15, u 16, u 17, u 18, u 19, u 20, u 21, u 22, u 23, u 24, u 25, u 26, u 27, u 28, u 29, u 30, u 31, u 32, u 33, u 34, u 35, u 36, u 37, u 38, u 39] from rfl]
  have HX := hide hxb
  have HB2 := hide hb2
  have HSf := hide hsf
  clear hxb hb2 hsf HX0 HG HT HWf HGd
  cases s with
  | nil =>
    have e0 : trPtr (.nil : Tr α) = .pointer none := rfl
    rw [e0]
    have HR : Hid (trPtr (trFind c k t) = .pointer none) := hide (by rw [← HSf.out]; rfl)
    clear e0 hs hsw
    go_upto_region 4 with fail
    go_quiet (fail)
    go_wp2
    simp only [Exit.jump]
    go_ret
    exact ⟨by rw [HR.out]; rfl, below_drewN HB2.out _⟩
  | nd b a n v l r =>
    have e0 : trPtr (.nd b a n v l r) = .pointer (some ⟨b, 0, none⟩) := rfl
    rw [e0]
    clear e0
    obtain ⟨⟨vs, hv, hk, hval⟩, hl, hr⟩ := hs
    obtain ⟨v0, rfl⟩ := lenP hv
    obtain ⟨hga, hil, hir, hwl, hwr⟩ := hsw
    have HN := hide hk
    have HN0 := hide hk
    have HL := hide hl
    have HRr := hide hr
    have HGa := hide hga
    have HIl := hide hil
    have HIr := hide hir
    have HWl := hide hwl
    have HWr := hide hwr
    have HCv := hide (fun W => cov_pg hga HPc.out W)
    clear hk hl hr hga hil hir hwl hwr hv hval
    by_cases hcv : CvN a n c k
    · rw [decide_eq_true hcv] at HCv
      have HCvP := hide hcv
      clear hcv
      go_upto_region 4 with fail
      have Hmn := hide (show AllMono [(fun v _ => v = .pointer (some ⟨b, 0, none⟩)), (fun v _ => v = .bool false), (fun v _ => v = .bool false), (fun v _ => v = .pointer (some ⟨b, 0, none⟩)), (fun v _ => v = .pointer (some ⟨b, 0, none⟩)), (fun v _ => v = .pointer (some ⟨b, 0, none⟩)), (fun v _ => v = .agg #[.int .u32 (a : Int), .int .i64 (n : Int)]), (fun v _ => v = .agg #[.int .u32 (c : Int), .int .i64 (k : Int)]), (fun v _ => v = .bool true), (fun v _ => v = .bool false), (fun v _ => v = .bool false)] from ⟨fun _ _ _ _ h => h, fun _ _ _ _ h => h, fun _ _ _ _ h => h, fun _ _ _ _ h => h, fun _ _ _ _ h => h, fun _ _ _ _ h => h, fun _ _ _ _ h => h, fun _ _ _ _ h => h, fun _ _ _ _ h => h, fun _ _ _ _ h => h, fun _ _ _ _ h => h, trivial⟩)
      refine wp_region_rel _ (by kernel_rfl) (by kernel_rfl) (relMono _ Hmn.out) ⟨?_, ?_, ?_, ?_, ?_, ?_, ?_, ?_, ?_, ?_, ?_, trivial⟩ ?_
      · refine relStep_plain rfl ?_
        intro Ac w5 hp
        have hb := hp.bel
        have a5 : Ac.eval (.tmp 5) = .pointer (some ⟨b, 0, none⟩) := hp.out 5 (by rfl)
        have hc := evalC Ac; have hf := evalF Ac; have hgl := evalG Ac
        obtain ⟨ρ, hρ⟩ : ∃ ρ, Ac.eval = ρ := ⟨_, rfl⟩
        rw [hρ] at a5 hc hf hgl
        exact relPure hρ (.pointer (some ⟨b, 0, none⟩)) (by simp [go_sem, hc, hf, hgl, ↓IntWalk.iteOmega, a5, *]) rfl
      · refine relStep_plain rfl ?_
        intro Ac w5 hp
        have hb := hp.bel
        have a17 : Ac.eval (.tmp 17) = .pointer (some ⟨b, 0, none⟩) := hp.dep 0 (by kernel_rfl)
        have hc := evalC Ac; have hf := evalF Ac; have hgl := evalG Ac
        obtain ⟨ρ, hρ⟩ : ∃ ρ, Ac.eval = ρ := ⟨_, rfl⟩
        rw [hρ] at a17 hc hf hgl
        exact relPure hρ (.bool false) (by simp [go_sem, hc, hf, hgl, ↓IntWalk.iteOmega, a17, *]) rfl
      · refine relStep_plain rfl ?_
        intro Ac w5 hp
        have hb := hp.bel
        have a18 : Ac.eval (.tmp 18) = .bool false := hp.dep 1 (by kernel_rfl)
        have hc := evalC Ac; have hf := evalF Ac; have hgl := evalG Ac
        obtain ⟨ρ, hρ⟩ : ∃ ρ, Ac.eval = ρ := ⟨_, rfl⟩
        rw [hρ] at a18 hc hf hgl
        exact relPure hρ (.bool false) (by simp [go_sem, hc, hf, hgl, ↓IntWalk.iteOmega, a18, *]) rfl
      · refine relStep_guard (g := 2) (b := false) (x := false) rfl (by kernel_rfl) rfl (by kernel_rfl) rfl (fun _ _ h => h) ?_
        intro Ac w5 hp
        have hb := hp.bel
        have a5 : Ac.eval (.tmp 5) = .pointer (some ⟨b, 0, none⟩) := hp.out 5 (by rfl)
        have hc := evalC Ac; have hf := evalF Ac; have hgl := evalG Ac
        obtain ⟨ρ, hρ⟩ : ∃ ρ, Ac.eval = ρ := ⟨_, rfl⟩
        rw [hρ] at a5 hc hf hgl
        exact relPure hρ (.pointer (some ⟨b, 0, none⟩)) (by simp [go_sem, hc, hf, hgl, ↓IntWalk.iteOmega, a5, *]) rfl
      · refine relStep_guard (g := 2) (b := false) (x := false) rfl (by kernel_rfl) rfl (by kernel_rfl) rfl (fun _ _ h => h) ?_
        intro Ac w5 hp
        have hb := hp.bel
        have a20 : Ac.eval (.tmp 20) = .pointer (some ⟨b, 0, none⟩) := hp.dep 3 (by kernel_rfl)
        have hc := evalC Ac; have hf := evalF Ac; have hgl := evalG Ac
        obtain ⟨ρ, hρ⟩ : ∃ ρ, Ac.eval = ρ := ⟨_, rfl⟩
        rw [hρ] at a20 hc hf hgl
        exact relPure hρ (.pointer (some ⟨b, 0, none⟩)) (by simp [go_sem, hc, hf, hgl, ↓IntWalk.iteOmega, a20, *]) rfl
      · refine relStep_guard (g := 2) (b := false) (x := false) rfl (by kernel_rfl) rfl (by kernel_rfl) rfl (fun _ _ h => h) ?_
        intro Ac w5 hp
        have hb := hp.bel
        have a21 : Ac.eval (.tmp 21) = .pointer (some ⟨b, 0, none⟩) := hp.dep 4 (by kernel_rfl)
        have hc := evalC Ac; have hf := evalF Ac; have hgl := evalG Ac
        obtain ⟨ρ, hρ⟩ : ∃ ρ, Ac.eval = ρ := ⟨_, rfl⟩
        rw [hρ] at a21 hc hf hgl
        exact relPure hρ (.pointer (some ⟨b, 0, none⟩)) (by simp [go_sem, hc, hf, hgl, ↓IntWalk.iteOmega, a21, *]) rfl
      · refine relStep_guard (g := 2) (b := false) (x := false) rfl (by kernel_rfl) rfl (by kernel_rfl) rfl (fun _ _ h => h) ?_
        intro Ac w5 hp
        have hb := hp.bel
        have a22 : Ac.eval (.tmp 22) = .pointer (some ⟨b, 0, none⟩) := hp.dep 5 (by kernel_rfl)
        have hk5 := HN.out.below hb HN.out.lt
        have hx5 := HX.out.below hb HX.out.lt
        have y0 : w5.cell? ⟨b, 0, none⟩ = some (.int .u32 (a : Int)) := hk5.cell 0
        have y1 : w5.cell? ⟨b, 1, none⟩ = some (.int .i64 (n : Int)) := hk5.cell 1
        have x0 : w5.cell? ⟨xb, 0, none⟩ = some (.int .u32 (c : Int)) := hx5.cell 0
        have x1 : w5.cell? ⟨xb, 1, none⟩ = some (.int .i64 (k : Int)) := hx5.cell 1
        have hc := evalC Ac; have hf := evalF Ac; have hgl := evalG Ac
        obtain ⟨ρ, hρ⟩ : ∃ ρ, Ac.eval = ρ := ⟨_, rfl⟩
        rw [hρ] at a22 hc hf hgl
        exact relPure hρ (.agg #[.int .u32 (a : Int), .int .i64 (n : Int)]) (by simp [go_sem, hc, hf, hgl, ↓IntWalk.iteOmega, a22, *]) rfl
      · refine relStep_guard (g := 2) (b := false) (x := false) rfl (by kernel_rfl) rfl (by kernel_rfl) rfl (fun _ _ h => h) ?_
        intro Ac w5 hp
        have hb := hp.bel
        have a3 : Ac.eval (.tmp 3) = .pointer (some ⟨xb, 0, none⟩) := hp.out 3 (by rfl)
        have hk5 := HN.out.below hb HN.out.lt
        have hx5 := HX.out.below hb HX.out.lt
        have y0 : w5.cell? ⟨b, 0, none⟩ = some (.int .u32 (a : Int)) := hk5.cell 0
        have y1 : w5.cell? ⟨b, 1, none⟩ = some (.int .i64 (n : Int)) := hk5.cell 1
        have x0 : w5.cell? ⟨xb, 0, none⟩ = some (.int .u32 (c : Int)) := hx5.cell 0
        have x1 : w5.cell? ⟨xb, 1, none⟩ = some (.int .i64 (k : Int)) := hx5.cell 1
        have hc := evalC Ac; have hf := evalF Ac; have hgl := evalG Ac
        obtain ⟨ρ, hρ⟩ : ∃ ρ, Ac.eval = ρ := ⟨_, rfl⟩
        rw [hρ] at a3 hc hf hgl
        exact relPure hρ (.agg #[.int .u32 (c : Int), .int .i64 (k : Int)]) (by simp [go_sem, hc, hf, hgl, ↓IntWalk.iteOmega, a3, *]) rfl
      · refine relStep_guard (g := 2) (b := false) (x := false) rfl (by kernel_rfl) rfl (by kernel_rfl) rfl (fun _ _ h => h) ?_
        intro Ac w5 hp
        have hb := hp.bel
        have a23 : Ac.eval (.tmp 23) = .agg #[.int .u32 (a : Int), .int .i64 (n : Int)] := hp.dep 6 (by kernel_rfl)
        have a24 : Ac.eval (.tmp 24) = .agg #[.int .u32 (c : Int), .int .i64 (k : Int)] := hp.dep 7 (by kernel_rfl)
        have hc := evalC Ac; have hf := evalF Ac; have hgl := evalG Ac
        obtain ⟨ρ, hρ⟩ : ∃ ρ, Ac.eval = ρ := ⟨_, rfl⟩
        rw [hρ] at a23 a24 hc hf hgl
        refine relCall hρ 185 #[.agg #[.int .u32 (a : Int), .int .i64 (n : Int)], .agg #[.int .u32 (c : Int), .int .i64 (k : Int)]] (by simp [go_sem, hc, hf, hgl, ↓IntWalk.iteOmega, a23, a24, *]) ?_
        refine (HCv.out w5).mono ?_
        rintro e w6 ⟨rfl, hb6⟩
        exact ⟨_, rfl, rfl, hb6⟩
      · refine relStep_guard (g := 2) (b := false) (x := false) rfl (by kernel_rfl) rfl (by kernel_rfl) rfl (fun _ _ h => h) ?_
        intro Ac w5 hp
        have hb := hp.bel
        have a25 : Ac.eval (.tmp 25) = .bool true := hp.dep 8 (by kernel_rfl)
        have hc := evalC Ac; have hf := evalF Ac; have hgl := evalG Ac
        obtain ⟨ρ, hρ⟩ : ∃ ρ, Ac.eval = ρ := ⟨_, rfl⟩
        rw [hρ] at a25 hc hf hgl
        exact relPure hρ (.bool false) (by simp [go_sem, hc, hf, hgl, ↓IntWalk.iteOmega, a25, *]) rfl
      · refine relStep_plain rfl ?_
        intro Ac w5 hp
        have hb := hp.bel
        have a19 : Ac.eval (.tmp 19) = .bool false := hp.dep 2 (by kernel_rfl)
        have a26 : Ac.eval (.tmp 26) = .bool false := hp.dep 9 (by kernel_rfl)
        have hc := evalC Ac; have hf := evalF Ac; have hgl := evalG Ac
        obtain ⟨ρ, hρ⟩ : ∃ ρ, Ac.eval = ρ := ⟨_, rfl⟩
        rw [hρ] at a19 a26 hc hf hgl
        exact relPure hρ (.bool false) (by simp [go_sem, hc, hf, hgl, ↓IntWalk.iteOmega, a19, a26, *]) rfl
      intro u w7 hb7 hall
      have e27 : u 10 = .bool false := relAll_at hall (i := 10) (by decide +kernel)
      clear hall
      simp only [List.drop_succ_cons, List.drop_zero, List.take_succ_cons, List.take_zero, putAll, Act.put, List.setIfInBounds_toArray, List.set_cons_zero, List.set_cons_succ, Nat.zero_add, Nat.reduceAdd, e27]
      have HB7 := hide (HB2.out.trans (hb7.mono HB2.out.size))
      have HB27 := hide hb7
      have HX7 := hide (HX.out.below hb7 HX.out.lt)
      have HN7 := hide (HN.out.below hb7 HN.out.lt)
      clear hb7 HX HN
      have HN := hide HN7.out
      have HX := hide HX7.out
      clear HX7 HN7
      by_cases he : a = c ∧ n = k
      · obtain ⟨rfl, rfl⟩ := he
        have HR : Hid (trPtr (trFind a n t) = .pointer (some ⟨b, 0, none⟩)) := hide (by rw [← HSf.out, trFind, if_pos HCvP.out, if_pos ⟨rfl, rfl⟩]; rfl)
        go_upto_region 6 with fail
        have Hmn := hide (show AllMono [(fun v _ => v = .pointer (some ⟨b, 0, none⟩)), (fun v _ => v = .pointer (some ⟨b, 0, none⟩)), (fun v _ => v = .pointer (some ⟨b, 0, none⟩)), (fun v _ => v = .agg #[.int .u32 (a : Int), .int .i64 (n : Int)]), (fun v _ => v = .agg #[.int .u32 (a : Int), .int .i64 (n : Int)]), (fun v _ => v = .bool false)] from ⟨fun _ _ _ _ h => h, fun _ _ _ _ h => h, fun _ _ _ _ h => h, fun _ _ _ _ h => h, fun _ _ _ _ h => h, fun _ _ _ _ h => h, trivial⟩)
        refine wp_region_rel _ (by kernel_rfl) (by kernel_rfl) (relMono _ Hmn.out) ⟨?_, ?_, ?_, ?_, ?_, ?_, trivial⟩ ?_
        · refine relStep_plain rfl ?_
          intro Ac w5 hp
          have hb := hp.bel
          have a5 : Ac.eval (.tmp 5) = .pointer (some ⟨b, 0, none⟩) := hp.out 5 (by rfl)
          have hc := evalC Ac; have hf := evalF Ac; have hgl := evalG Ac
          obtain ⟨ρ, hρ⟩ : ∃ ρ, Ac.eval = ρ := ⟨_, rfl⟩
          rw [hρ] at a5 hc hf hgl
          exact relPure hρ (.pointer (some ⟨b, 0, none⟩)) (by simp [go_sem, hc, hf, hgl, ↓IntWalk.iteOmega, a5, *]) rfl
        · refine relStep_plain rfl ?_
          intro Ac w5 hp
          have hb := hp.bel
          have a28 : Ac.eval (.tmp 28) = .pointer (some ⟨b, 0, none⟩) := hp.dep 0 (by kernel_rfl)
          have hc := evalC Ac; have hf := evalF Ac; have hgl := evalG Ac
          obtain ⟨ρ, hρ⟩ : ∃ ρ, Ac.eval = ρ := ⟨_, rfl⟩
          rw [hρ] at a28 hc hf hgl
          exact relPure hρ (.pointer (some ⟨b, 0, none⟩)) (by simp [go_sem, hc, hf, hgl, ↓IntWalk.iteOmega, a28, *]) rfl
        · refine relStep_plain rfl ?_
          intro Ac w5 hp
          have hb := hp.bel
          have a29 : Ac.eval (.tmp 29) = .pointer (some ⟨b, 0, none⟩) := hp.dep 1 (by kernel_rfl)
          have hc := evalC Ac; have hf := evalF Ac; have hgl := evalG Ac
          obtain ⟨ρ, hρ⟩ : ∃ ρ, Ac.eval = ρ := ⟨_, rfl⟩
          rw [hρ] at a29 hc hf hgl
          exact relPure hρ (.pointer (some ⟨b, 0, none⟩)) (by simp [go_sem, hc, hf, hgl, ↓IntWalk.iteOmega, a29, *]) rfl
        · refine relStep_plain rfl ?_
          intro Ac w5 hp
          have hb := hp.bel
          have a30 : Ac.eval (.tmp 30) = .pointer (some ⟨b, 0, none⟩) := hp.dep 2 (by kernel_rfl)
          have hk5 := HN.out.below hb HN.out.lt
          have hx5 := HX.out.below hb HX.out.lt
          have y0 : w5.cell? ⟨b, 0, none⟩ = some (.int .u32 (a : Int)) := hk5.cell 0
          have y1 : w5.cell? ⟨b, 1, none⟩ = some (.int .i64 (n : Int)) := hk5.cell 1
          have x0 : w5.cell? ⟨xb, 0, none⟩ = some (.int .u32 (a : Int)) := hx5.cell 0
          have x1 : w5.cell? ⟨xb, 1, none⟩ = some (.int .i64 (n : Int)) := hx5.cell 1
          have hc := evalC Ac; have hf := evalF Ac; have hgl := evalG Ac
          obtain ⟨ρ, hρ⟩ : ∃ ρ, Ac.eval = ρ := ⟨_, rfl⟩
          rw [hρ] at a30 hc hf hgl
          exact relPure hρ (.agg #[.int .u32 (a : Int), .int .i64 (n : Int)]) (by simp [go_sem, hc, hf, hgl, ↓IntWalk.iteOmega, a30, *]) rfl
        · refine relStep_plain rfl ?_
          intro Ac w5 hp
          have hb := hp.bel
          have a3 : Ac.eval (.tmp 3) = .pointer (some ⟨xb, 0, none⟩) := hp.out 3 (by rfl)
          have hk5 := HN.out.below hb HN.out.lt
          have hx5 := HX.out.below hb HX.out.lt
          have y0 : w5.cell? ⟨b, 0, none⟩ = some (.int .u32 (a : Int)) := hk5.cell 0
          have y1 : w5.cell? ⟨b, 1, none⟩ = some (.int .i64 (n : Int)) := hk5.cell 1
          have x0 : w5.cell? ⟨xb, 0, none⟩ = some (.int .u32 (a : Int)) := hx5.cell 0
          have x1 : w5.cell? ⟨xb, 1, none⟩ = some (.int .i64 (n : Int)) := hx5.cell 1
          have hc := evalC Ac; have hf := evalF Ac; have hgl := evalG Ac
          obtain ⟨ρ, hρ⟩ : ∃ ρ, Ac.eval = ρ := ⟨_, rfl⟩
          rw [hρ] at a3 hc hf hgl
          exact relPure hρ (.agg #[.int .u32 (a : Int), .int .i64 (n : Int)]) (by simp [go_sem, hc, hf, hgl, ↓IntWalk.iteOmega, a3, *]) rfl
        · refine relStep_plain rfl ?_
          intro Ac w5 hp
          have hb := hp.bel
          have a31 : Ac.eval (.tmp 31) = .agg #[.int .u32 (a : Int), .int .i64 (n : Int)] := hp.dep 3 (by kernel_rfl)
          have a32 : Ac.eval (.tmp 32) = .agg #[.int .u32 (a : Int), .int .i64 (n : Int)] := hp.dep 4 (by kernel_rfl)
          have hc := evalC Ac; have hf := evalF Ac; have hgl := evalG Ac
          obtain ⟨ρ, hρ⟩ : ∃ ρ, Ac.eval = ρ := ⟨_, rfl⟩
          rw [hρ] at a31 a32 hc hf hgl
          exact relPure hρ (.bool false) (by simp [go_sem, hc, hf, hgl, ↓IntWalk.iteOmega, a31, a32, *]) rfl
        intro u w8 hb7 hall
        have e33 : u 5 = .bool false := relAll_at hall (i := 5) (by decide +kernel)
        clear hall
        simp only [List.drop_succ_cons, List.drop_zero, List.take_succ_cons, List.take_zero, putAll, Act.put, List.setIfInBounds_toArray, List.set_cons_zero, List.set_cons_succ, Nat.zero_add, Nat.reduceAdd, e33]
        have HB8 := hide (HB7.out.trans (hb7.mono HB7.out.size))
        clear hb7
        go_wp2
        simp only [Exit.jump]
        go_ret
        exact ⟨by rw [HR.out]; rfl, HB8.out⟩
      · have HNe := hide (show (a : Int) = (c : Int) → ¬ (n : Int) = (k : Int) from fun h1 h2 => he ⟨by omega, by omega⟩)
        have HE := hide he
        clear he
        have hlt : n < k := Nat.lt_of_le_of_ne HCvP.out.1 fun e => HE.out ⟨cvN_same HCvP.out HPc.out e, e⟩
        have hk32 := HPc.out.2.1
        have HSd := hide (fun W => side_any a n c k HPc.out.1 (by omega) W)
        have HRk := hide (show trDown ⟨(.pointer (some ⟨g, 0, none⟩) :: .agg #[.int .u32 (c : Int), .int .i64 (k : Int)] :: undef :: .pointer (some ⟨xb, 0, none⟩) :: .pointer none :: .pointer (some ⟨b, 0, none⟩) :: [u 0, u 1, u 2, u 3, u 4, u 5, u 6, u 7, u 8, u 9, u 10, u 11, u 12, u 13, u 14, u 15, u 16, u 17, u 18, u 19, u 20, u 21, u 22, u 23, u 24, u 25, u 26, u 27, u 28, u 29, u 30, u 31, u 32, u 33, u 34, u 35, u 36, u 37, u 38, u 39]).toArray, []⟩ w2 = 33 - n from congrArg (33 - ·) (cellNat_of (HN0.out.cell 1)))
        have HLt := hide hlt
        clear hlt hk32 HN0
        go_upto_region 6 with fail
        have Hmn := hide (show AllMono [(fun v _ => v = .pointer (some ⟨b, 0, none⟩)), (fun v _ => v = .pointer (some ⟨b, 0, none⟩)), (fun v _ => v = .pointer (some ⟨b, 0, none⟩)), (fun v _ => v = .agg #[.int .u32 (a : Int), .int .i64 (n : Int)]), (fun v _ => v = .agg #[.int .u32 (c : Int), .int .i64 (k : Int)]), (fun v _ => v = .bool true)] from ⟨fun _ _ _ _ h => h, fun _ _ _ _ h => h, fun _ _ _ _ h => h, fun _ _ _ _ h => h, fun _ _ _ _ h => h, fun _ _ _ _ h => h, trivial⟩)
        refine wp_region_rel _ (by kernel_rfl) (by kernel_rfl) (relMono _ Hmn.out) ⟨?_, ?_, ?_, ?_, ?_, ?_, trivial⟩ ?_
        · refine relStep_plain rfl ?_
          intro Ac w5 hp
          have hb := hp.bel
          have a5 : Ac.eval (.tmp 5) = .pointer (some ⟨b, 0, none⟩) := hp.out 5 (by rfl)
          have hc := evalC Ac; have hf := evalF Ac; have hgl := evalG Ac
          obtain ⟨ρ, hρ⟩ : ∃ ρ, Ac.eval = ρ := ⟨_, rfl⟩
          rw [hρ] at a5 hc hf hgl
          exact relPure hρ (.pointer (some ⟨b, 0, none⟩)) (by simp [go_sem, hc, hf, hgl, ↓IntWalk.iteOmega, a5, *]) rfl
        · refine relStep_plain rfl ?_
          intro Ac w5 hp
          have hb := hp.bel
          have a28 : Ac.eval (.tmp 28) = .pointer (some ⟨b, 0, none⟩) := hp.dep 0 (by kernel_rfl)
          have hc := evalC Ac; have hf := evalF Ac; have hgl := evalG Ac
          obtain ⟨ρ, hρ⟩ : ∃ ρ, Ac.eval = ρ := ⟨_, rfl⟩
          rw [hρ] at a28 hc hf hgl
          exact relPure hρ (.pointer (some ⟨b, 0, none⟩)) (by simp [go_sem, hc, hf, hgl, ↓IntWalk.iteOmega, a28, *]) rfl
        · refine relStep_plain rfl ?_
          intro Ac w5 hp
          have hb := hp.bel
          have a29 : Ac.eval (.tmp 29) = .pointer (some ⟨b, 0, none⟩) := hp.dep 1 (by kernel_rfl)
          have hc := evalC Ac; have hf := evalF Ac; have hgl := evalG Ac
          obtain ⟨ρ, hρ⟩ : ∃ ρ, Ac.eval = ρ := ⟨_, rfl⟩
          rw [hρ] at a29 hc hf hgl
          exact relPure hρ (.pointer (some ⟨b, 0, none⟩)) (by simp [go_sem, hc, hf, hgl, ↓IntWalk.iteOmega, a29, *]) rfl
        · refine relStep_plain rfl ?_
          intro Ac w5 hp
          have hb := hp.bel
          have a30 : Ac.eval (.tmp 30) = .pointer (some ⟨b, 0, none⟩) := hp.dep 2 (by kernel_rfl)
          have hk5 := HN.out.below hb HN.out.lt
          have hx5 := HX.out.below hb HX.out.lt
          have y0 : w5.cell? ⟨b, 0, none⟩ = some (.int .u32 (a : Int)) := hk5.cell 0
          have y1 : w5.cell? ⟨b, 1, none⟩ = some (.int .i64 (n : Int)) := hk5.cell 1
          have x0 : w5.cell? ⟨xb, 0, none⟩ = some (.int .u32 (c : Int)) := hx5.cell 0
          have x1 : w5.cell? ⟨xb, 1, none⟩ = some (.int .i64 (k : Int)) := hx5.cell 1
          have hc := evalC Ac; have hf := evalF Ac; have hgl := evalG Ac
          obtain ⟨ρ, hρ⟩ : ∃ ρ, Ac.eval = ρ := ⟨_, rfl⟩
          rw [hρ] at a30 hc hf hgl
          exact relPure hρ (.agg #[.int .u32 (a : Int), .int .i64 (n : Int)]) (by simp [go_sem, hc, hf, hgl, ↓IntWalk.iteOmega, a30, *]) rfl
        · refine relStep_plain rfl ?_
          intro Ac w5 hp
          have hb := hp.bel
          have a3 : Ac.eval (.tmp 3) = .pointer (some ⟨xb, 0, none⟩) := hp.out 3 (by rfl)
          have hk5 := HN.out.below hb HN.out.lt
          have hx5 := HX.out.below hb HX.out.lt
          have y0 : w5.cell? ⟨b, 0, none⟩ = some (.int .u32 (a : Int)) := hk5.cell 0
          have y1 : w5.cell? ⟨b, 1, none⟩ = some (.int .i64 (n : Int)) := hk5.cell 1
          have x0 : w5.cell? ⟨xb, 0, none⟩ = some (.int .u32 (c : Int)) := hx5.cell 0
          have x1 : w5.cell? ⟨xb, 1, none⟩ = some (.int .i64 (k : Int)) := hx5.cell 1
          have hc := evalC Ac; have hf := evalF Ac; have hgl := evalG Ac
          obtain ⟨ρ, hρ⟩ : ∃ ρ, Ac.eval = ρ := ⟨_, rfl⟩
          rw [hρ] at a3 hc hf hgl
          exact relPure hρ (.agg #[.int .u32 (c : Int), .int .i64 (k : Int)]) (by simp [go_sem, hc, hf, hgl, ↓IntWalk.iteOmega, a3, *]) rfl
        · refine relStep_plain rfl ?_
          intro Ac w5 hp
          have hb := hp.bel
          have a31 : Ac.eval (.tmp 31) = .agg #[.int .u32 (a : Int), .int .i64 (n : Int)] := hp.dep 3 (by kernel_rfl)
          have a32 : Ac.eval (.tmp 32) = .agg #[.int .u32 (c : Int), .int .i64 (k : Int)] := hp.dep 4 (by kernel_rfl)
          have hc := evalC Ac; have hf := evalF Ac; have hgl := evalG Ac
          obtain ⟨ρ, hρ⟩ : ∃ ρ, Ac.eval = ρ := ⟨_, rfl⟩
          rw [hρ] at a31 a32 hc hf hgl
          exact relPure hρ (.bool true) (by simp [go_sem, hc, hf, hgl, ↓IntWalk.iteOmega, a31, a32, *]; exact HNe.out) rfl
        intro u w8 hb7 hall
        have e33 : u 5 = .bool true := relAll_at hall (i := 5) (by decide +kernel)
        clear hall
        simp only [List.drop_succ_cons, List.drop_zero, List.take_succ_cons, List.take_zero, putAll, Act.put, List.setIfInBounds_toArray, List.set_cons_zero, List.set_cons_succ, Nat.zero_add, Nat.reduceAdd, e33]
        have HN8 := hide (HN.out.below hb7 HN.out.lt)
        have HX8 := hide (HX.out.below hb7 HX.out.lt)
        have HB28 := hide (HB27.out.trans (hb7.mono HB27.out.size))
        clear hb7 HN HX HB7 HB27
        have HN := hide HN8.out
        have HX := hide HX8.out
        clear HN8 HX8
        rcases bitN_01 c n with hbit | hbit
        all_goals
          have HBit := hide hbit
          clear hbit
          go_upto_region 7 with fail
        · skip
          have Hmn := hide (show AllMono [(fun v _ => v = .pointer (some ⟨b, 0, none⟩)), (fun v _ => v = .pointer (some ⟨b, 0, none⟩)), (fun v _ => v = .pointer (some ⟨b, 0, none⟩)), (fun v _ => v = .pointer (some ⟨b, 0, none⟩)), (fun v _ => v = .agg #[.int .u32 (a : Int), .int .i64 (n : Int)]), (fun v _ => v = .agg #[.int .u32 (c : Int), .int .i64 (k : Int)]), (fun v _ => v = .int .i64 0), (fun v _ => v = .pointer (some ⟨b, 0, none⟩)), (fun v _ => v = .pointer (some ⟨b, 5, none⟩)), (fun v _ => v = .pointer (some ⟨b, 5, none⟩)), (fun v _ => v = trPtr l)] from ⟨fun _ _ _ _ h => h, fun _ _ _ _ h => h, fun _ _ _ _ h => h, fun _ _ _ _ h => h, fun _ _ _ _ h => h, fun _ _ _ _ h => h, fun _ _ _ _ h => h, fun _ _ _ _ h => h, fun _ _ _ _ h => h, fun _ _ _ _ h => h, fun _ _ _ _ h => h, trivial⟩)
          refine wp_region_relT 11 _ (by kernel_rfl) (by kernel_rfl) (by kernel_rfl) (by kernel_rfl) (by kernel_rfl) (relMono _ Hmn.out) ⟨?_, ?_, ?_, ?_, ?_, ?_, ?_, ?_, ?_, ?_, ?_, trivial⟩ ?_
          · refine relStep_plain rfl ?_
            intro Ac w5 hp
            have hb := hp.bel
            have a5 : Ac.eval (.tmp 5) = .pointer (some ⟨b, 0, none⟩) := hp.out 5 (by rfl)
            have hc := evalC Ac; have hf := evalF Ac; have hgl := evalG Ac
            obtain ⟨ρ, hρ⟩ : ∃ ρ, Ac.eval = ρ := ⟨_, rfl⟩
            rw [hρ] at a5 hc hf hgl
            exact relPure hρ (.pointer (some ⟨b, 0, none⟩)) (by simp [go_sem, hc, hf, hgl, ↓IntWalk.iteOmega, a5, *]) rfl
          · refine relStep_plain rfl ?_
            intro Ac w5 hp
            have hb := hp.bel
            have a5 : Ac.eval (.tmp 5) = .pointer (some ⟨b, 0, none⟩) := hp.out 5 (by rfl)
            have hc := evalC Ac; have hf := evalF Ac; have hgl := evalG Ac
            obtain ⟨ρ, hρ⟩ : ∃ ρ, Ac.eval = ρ := ⟨_, rfl⟩
            rw [hρ] at a5 hc hf hgl
            exact relPure hρ (.pointer (some ⟨b, 0, none⟩)) (by simp [go_sem, hc, hf, hgl, ↓IntWalk.iteOmega, a5, *]) rfl
          · refine relStep_plain rfl ?_
            intro Ac w5 hp
            have hb := hp.bel
            have a35 : Ac.eval (.tmp 35) = .pointer (some ⟨b, 0, none⟩) := hp.dep 1 (by kernel_rfl)
            have hc := evalC Ac; have hf := evalF Ac; have hgl := evalG Ac
            obtain ⟨ρ, hρ⟩ : ∃ ρ, Ac.eval = ρ := ⟨_, rfl⟩
            rw [hρ] at a35 hc hf hgl
            exact relPure hρ (.pointer (some ⟨b, 0, none⟩)) (by simp [go_sem, hc, hf, hgl, ↓IntWalk.iteOmega, a35, *]) rfl
          · refine relStep_plain rfl ?_
            intro Ac w5 hp
            have hb := hp.bel
            have a36 : Ac.eval (.tmp 36) = .pointer (some ⟨b, 0, none⟩) := hp.dep 2 (by kernel_rfl)
            have hc := evalC Ac; have hf := evalF Ac; have hgl := evalG Ac
            obtain ⟨ρ, hρ⟩ : ∃ ρ, Ac.eval = ρ := ⟨_, rfl⟩
            rw [hρ] at a36 hc hf hgl
            exact relPure hρ (.pointer (some ⟨b, 0, none⟩)) (by simp [go_sem, hc, hf, hgl, ↓IntWalk.iteOmega, a36, *]) rfl
          · refine relStep_plain rfl ?_
            intro Ac w5 hp
            have hb := hp.bel
            have a37 : Ac.eval (.tmp 37) = .pointer (some ⟨b, 0, none⟩) := hp.dep 3 (by kernel_rfl)
            have hk5 := HN.out.below hb HN.out.lt
            have hx5 := HX.out.below hb HX.out.lt
            have y0 : w5.cell? ⟨b, 0, none⟩ = some (.int .u32 (a : Int)) := hk5.cell 0
            have y1 : w5.cell? ⟨b, 1, none⟩ = some (.int .i64 (n : Int)) := hk5.cell 1
            have y5 : w5.cell? ⟨b, 5, none⟩ = some (trPtr l) := hk5.cell 5
            have y6 : w5.cell? ⟨b, 6, none⟩ = some (trPtr r) := hk5.cell 6
            have x0 : w5.cell? ⟨xb, 0, none⟩ = some (.int .u32 (c : Int)) := hx5.cell 0
            have x1 : w5.cell? ⟨xb, 1, none⟩ = some (.int .i64 (k : Int)) := hx5.cell 1
            have hc := evalC Ac; have hf := evalF Ac; have hgl := evalG Ac
            obtain ⟨ρ, hρ⟩ : ∃ ρ, Ac.eval = ρ := ⟨_, rfl⟩
            rw [hρ] at a37 hc hf hgl
            exact relPure hρ (.agg #[.int .u32 (a : Int), .int .i64 (n : Int)]) (by simp [go_sem, hc, hf, hgl, ↓IntWalk.iteOmega, a37, *]) rfl
          · refine relStep_plain rfl ?_
            intro Ac w5 hp
            have hb := hp.bel
            have a3 : Ac.eval (.tmp 3) = .pointer (some ⟨xb, 0, none⟩) := hp.out 3 (by rfl)
            have hk5 := HN.out.below hb HN.out.lt
            have hx5 := HX.out.below hb HX.out.lt
            have y0 : w5.cell? ⟨b, 0, none⟩ = some (.int .u32 (a : Int)) := hk5.cell 0
            have y1 : w5.cell? ⟨b, 1, none⟩ = some (.int .i64 (n : Int)) := hk5.cell 1
            have y5 : w5.cell? ⟨b, 5, none⟩ = some (trPtr l) := hk5.cell 5
            have y6 : w5.cell? ⟨b, 6, none⟩ = some (trPtr r) := hk5.cell 6
            have x0 : w5.cell? ⟨xb, 0, none⟩ = some (.int .u32 (c : Int)) := hx5.cell 0
            have x1 : w5.cell? ⟨xb, 1, none⟩ = some (.int .i64 (k : Int)) := hx5.cell 1
            have hc := evalC Ac; have hf := evalF Ac; have hgl := evalG Ac
            obtain ⟨ρ, hρ⟩ : ∃ ρ, Ac.eval = ρ := ⟨_, rfl⟩
            rw [hρ] at a3 hc hf hgl
            exact relPure hρ (.agg #[.int .u32 (c : Int), .int .i64 (k : Int)]) (by simp [go_sem, hc, hf, hgl, ↓IntWalk.iteOmega, a3, *]) rfl
          · refine relStep_plain rfl ?_
            intro Ac w5 hp
            have hb := hp.bel
            have a38 : Ac.eval (.tmp 38) = .agg #[.int .u32 (a : Int), .int .i64 (n : Int)] := hp.dep 4 (by kernel_rfl)
            have a39 : Ac.eval (.tmp 39) = .agg #[.int .u32 (c : Int), .int .i64 (k : Int)] := hp.dep 5 (by kernel_rfl)
            have hc := evalC Ac; have hf := evalF Ac; have hgl := evalG Ac
            obtain ⟨ρ, hρ⟩ : ∃ ρ, Ac.eval = ρ := ⟨_, rfl⟩
            rw [hρ] at a38 a39 hc hf hgl
            refine relCall hρ 186 #[.agg #[.int .u32 (a : Int), .int .i64 (n : Int)], .agg #[.int .u32 (c : Int), .int .i64 (k : Int)]] (by simp [go_sem, hc, hf, hgl, ↓IntWalk.iteOmega, a38, a39, *]) ?_
            refine (HSd.out w5).mono ?_
            rintro e w6 ⟨rfl, hb6⟩
            exact ⟨_, rfl, by rw [HBit.out]; rfl, hb6⟩
          · refine relStep_plain rfl ?_
            intro Ac w5 hp
            have hb := hp.bel
            have a34 : Ac.eval (.tmp 34) = .pointer (some ⟨b, 0, none⟩) := hp.dep 0 (by kernel_rfl)
            have hc := evalC Ac; have hf := evalF Ac; have hgl := evalG Ac
            obtain ⟨ρ, hρ⟩ : ∃ ρ, Ac.eval = ρ := ⟨_, rfl⟩
            rw [hρ] at a34 hc hf hgl
            exact relPure hρ (.pointer (some ⟨b, 0, none⟩)) (by simp [go_sem, hc, hf, hgl, ↓IntWalk.iteOmega, a34, *]) rfl
          · refine relStep_plain rfl ?_
            intro Ac w5 hp
            have hb := hp.bel
            have a41 : Ac.eval (.tmp 41) = .pointer (some ⟨b, 0, none⟩) := hp.dep 7 (by kernel_rfl)
            have hc := evalC Ac; have hf := evalF Ac; have hgl := evalG Ac
            obtain ⟨ρ, hρ⟩ : ∃ ρ, Ac.eval = ρ := ⟨_, rfl⟩
            rw [hρ] at a41 hc hf hgl
            exact relPure hρ (.pointer (some ⟨b, 5, none⟩)) (by simp [go_sem, hc, hf, hgl, ↓IntWalk.iteOmega, a41, *]) rfl
          · refine relStep_plain rfl ?_
            intro Ac w5 hp
            have hb := hp.bel
            have a42 : Ac.eval (.tmp 42) = .pointer (some ⟨b, 5, none⟩) := hp.dep 8 (by kernel_rfl)
            have a40 : Ac.eval (.tmp 40) = .int .i64 0 := hp.dep 6 (by kernel_rfl)
            have hc := evalC Ac; have hf := evalF Ac; have hgl := evalG Ac
            obtain ⟨ρ, hρ⟩ : ∃ ρ, Ac.eval = ρ := ⟨_, rfl⟩
            rw [hρ] at a42 a40 hc hf hgl
            exact relPure hρ (.pointer (some ⟨b, 5, none⟩)) (by simp [go_sem, hc, hf, hgl, ↓IntWalk.iteOmega, a42, a40, *]) rfl
          · refine relStep_plain rfl ?_
            intro Ac w5 hp
            have hb := hp.bel
            have a43 : Ac.eval (.tmp 43) = .pointer (some ⟨b, 5, none⟩) := hp.dep 9 (by kernel_rfl)
            have hk5 := HN.out.below hb HN.out.lt
            have hx5 := HX.out.below hb HX.out.lt
            have y0 : w5.cell? ⟨b, 0, none⟩ = some (.int .u32 (a : Int)) := hk5.cell 0
            have y1 : w5.cell? ⟨b, 1, none⟩ = some (.int .i64 (n : Int)) := hk5.cell 1
            have y5 : w5.cell? ⟨b, 5, none⟩ = some (trPtr l) := hk5.cell 5
            have y6 : w5.cell? ⟨b, 6, none⟩ = some (trPtr r) := hk5.cell 6
            have x0 : w5.cell? ⟨xb, 0, none⟩ = some (.int .u32 (c : Int)) := hx5.cell 0
            have x1 : w5.cell? ⟨xb, 1, none⟩ = some (.int .i64 (k : Int)) := hx5.cell 1
            have hc := evalC Ac; have hf := evalF Ac; have hgl := evalG Ac
            obtain ⟨ρ, hρ⟩ : ∃ ρ, Ac.eval = ρ := ⟨_, rfl⟩
            rw [hρ] at a43 hc hf hgl
            exact relPure hρ (trPtr l) (by simp [go_sem, hc, hf, hgl, ↓IntWalk.iteOmega, a43, *]) rfl
          intro u w9 hb7 hall
          have e44 : u 10 = trPtr l := relAll_at hall (i := 10) (by decide +kernel)
          clear hall
          simp only [List.drop_succ_cons, List.drop_zero, List.take_succ_cons, List.take_zero, putAll, Act.put, List.setIfInBounds_toArray, List.set_cons_zero, List.set_cons_succ, Nat.zero_add, Nat.reduceAdd, e44]
          have HB9 := hide (HB28.out.trans (hb7.mono HB28.out.size))
          have HX9 := hide (HX.out.below hb7 HX.out.lt)
          clear hb7 HN HX
          go_wp2
          go_step3
          refine ⟨rfl, ⟨l, xb, _, rfl, rfl, HL.out.chg (S := fun _ => False) (chg_below HB9.out) (by simp) (by simp), HWl.out, ?_, HX9.out, HB2.out.trans (HB9.out.mono HB2.out.size)⟩, ?_⟩
          · rw [← HSf.out, trFind, if_pos HCvP.out, if_neg HE.out, if_pos HBit.out]
          · have h1 := trRank_in HIl.out HGa.out.2.1
            refine Nat.lt_of_le_of_lt (Nat.le_of_eq (trDownP (HL.out.chg (S := fun _ => False) (chg_below HB9.out) (by simp) (by simp)) ?_)) (Nat.lt_of_lt_of_eq h1 HRk.out.symm)
            rfl
        · skip
          have Hmn := hide (show AllMono [(fun v _ => v = .pointer (some ⟨b, 0, none⟩)), (fun v _ => v = .pointer (some ⟨b, 0, none⟩)), (fun v _ => v = .pointer (some ⟨b, 0, none⟩)), (fun v _ => v = .pointer (some ⟨b, 0, none⟩)), (fun v _ => v = .agg #[.int .u32 (a : Int), .int .i64 (n : Int)]), (fun v _ => v = .agg #[.int .u32 (c : Int), .int .i64 (k : Int)]), (fun v _ => v = .int .i64 1), (fun v _ => v = .pointer (some ⟨b, 0, none⟩)), (fun v _ => v = .pointer (some ⟨b, 5, none⟩)), (fun v _ => v = .pointer (some ⟨b, 6, none⟩)), (fun v _ => v = trPtr r)] from ⟨fun _ _ _ _ h => h, fun _ _ _ _ h => h, fun _ _ _ _ h => h, fun _ _ _ _ h => h, fun _ _ _ _ h => h, fun _ _ _ _ h => h, fun _ _ _ _ h => h, fun _ _ _ _ h => h, fun _ _ _ _ h => h, fun _ _ _ _ h => h, fun _ _ _ _ h => h, trivial⟩)
          refine wp_region_relT 11 _ (by kernel_rfl) (by kernel_rfl) (by kernel_rfl) (by kernel_rfl) (by kernel_rfl) (relMono _ Hmn.out) ⟨?_, ?_, ?_, ?_, ?_, ?_, ?_, ?_, ?_, ?_, ?_, trivial⟩ ?_
          · refine relStep_plain rfl ?_
            intro Ac w5 hp
            have hb := hp.bel
            have a5 : Ac.eval (.tmp 5) = .pointer (some ⟨b, 0, none⟩) := hp.out 5 (by rfl)
            have hc := evalC Ac; have hf := evalF Ac; have hgl := evalG Ac
            obtain ⟨ρ, hρ⟩ : ∃ ρ, Ac.eval = ρ := ⟨_, rfl⟩
            rw [hρ] at a5 hc hf hgl
            exact relPure hρ (.pointer (some ⟨b, 0, none⟩)) (by simp [go_sem, hc, hf, hgl, ↓IntWalk.iteOmega, a5, *]) rfl
          · refine relStep_plain rfl ?_
            intro Ac w5 hp
            have hb := hp.bel
            have a5 : Ac.eval (.tmp 5) = .pointer (some ⟨b, 0, none⟩) := hp.out 5 (by rfl)
            have hc := evalC Ac; have hf := evalF Ac; have hgl := evalG Ac
            obtain ⟨ρ, hρ⟩ : ∃ ρ, Ac.eval = ρ := ⟨_, rfl⟩
            rw [hρ] at a5 hc hf hgl
            exact relPure hρ (.pointer (some ⟨b, 0, none⟩)) (by simp [go_sem, hc, hf, hgl, ↓IntWalk.iteOmega, a5, *]) rfl
          · refine relStep_plain rfl ?_
            intro Ac w5 hp
            have hb := hp.bel
            have a35 : Ac.eval (.tmp 35) = .pointer (some ⟨b, 0, none⟩) := hp.dep 1 (by kernel_rfl)
            have hc := evalC Ac; have hf := evalF Ac; have hgl := evalG Ac
            obtain ⟨ρ, hρ⟩ : ∃ ρ, Ac.eval = ρ := ⟨_, rfl⟩
            rw [hρ] at a35 hc hf hgl
            exact relPure hρ (.pointer (some ⟨b, 0, none⟩)) (by simp [go_sem, hc, hf, hgl, ↓IntWalk.iteOmega, a35, *]) rfl
          · refine relStep_plain rfl ?_
            intro Ac w5 hp
            have hb := hp.bel
            have a36 : Ac.eval (.tmp 36) = .pointer (some ⟨b, 0, none⟩) := hp.dep 2 (by kernel_rfl)
            have hc := evalC Ac; have hf := evalF Ac; have hgl := evalG Ac
            obtain ⟨ρ, hρ⟩ : ∃ ρ, Ac.eval = ρ := ⟨_, rfl⟩
            rw [hρ] at a36 hc hf hgl
            exact relPure hρ (.pointer (some ⟨b, 0, none⟩)) (by simp [go_sem, hc, hf, hgl, ↓IntWalk.iteOmega, a36, *]) rfl
          · refine relStep_plain rfl ?_
            intro Ac w5 hp
            have hb := hp.bel
            have a37 : Ac.eval (.tmp 37) = .pointer (some ⟨b, 0, none⟩) := hp.dep 3 (by kernel_rfl)
            have hk5 := HN.out.below hb HN.out.lt
            have hx5 := HX.out.below hb HX.out.lt
            have y0 : w5.cell? ⟨b, 0, none⟩ = some (.int .u32 (a : Int)) := hk5.cell 0
            have y1 : w5.cell? ⟨b, 1, none⟩ = some (.int .i64 (n : Int)) := hk5.cell 1
            have y5 : w5.cell? ⟨b, 5, none⟩ = some (trPtr l) := hk5.cell 5
            have y6 : w5.cell? ⟨b, 6, none⟩ = some (trPtr r) := hk5.cell 6
            have x0 : w5.cell? ⟨xb, 0, none⟩ = some (.int .u32 (c : Int)) := hx5.cell 0
            have x1 : w5.cell? ⟨xb, 1, none⟩ = some (.int .i64 (k : Int)) := hx5.cell 1
            have hc := evalC Ac; have hf := evalF Ac; have hgl := evalG Ac
            obtain ⟨ρ, hρ⟩ : ∃ ρ, Ac.eval = ρ := ⟨_, rfl⟩
            rw [hρ] at a37 hc hf hgl
            exact relPure hρ (.agg #[.int .u32 (a : Int), .int .i64 (n : Int)]) (by simp [go_sem, hc, hf, hgl, ↓IntWalk.iteOmega, a37, *]) rfl
          · refine relStep_plain rfl ?_
            intro Ac w5 hp
            have hb := hp.bel
            have a3 : Ac.eval (.tmp 3) = .pointer (some ⟨xb, 0, none⟩) := hp.out 3 (by rfl)
            have hk5 := HN.out.below hb HN.out.lt
            have hx5 := HX.out.below hb HX.out.lt
            have y0 : w5.cell? ⟨b, 0, none⟩ = some (.int .u32 (a : Int)) := hk5.cell 0
            have y1 : w5.cell? ⟨b, 1, none⟩ = some (.int .i64 (n : Int)) := hk5.cell 1
            have y5 : w5.cell? ⟨b, 5, none⟩ = some (trPtr l) := hk5.cell 5
            have y6 : w5.cell? ⟨b, 6, none⟩ = some (trPtr r) := hk5.cell 6
            have x0 : w5.cell? ⟨xb, 0, none⟩ = some (.int .u32 (c : Int)) := hx5.cell 0
            have x1 : w5.cell? ⟨xb, 1, none⟩ = some (.int .i64 (k : Int)) := hx5.cell 1
            have hc := evalC Ac; have hf := evalF Ac; have hgl := evalG Ac
            obtain ⟨ρ, hρ⟩ : ∃ ρ, Ac.eval = ρ := ⟨_, rfl⟩
            rw [hρ] at a3 hc hf hgl
            exact relPure hρ (.agg #[.int .u32 (c : Int), .int .i64 (k : Int)]) (by simp [go_sem, hc, hf, hgl, ↓IntWalk.iteOmega, a3, *]) rfl
          · refine relStep_plain rfl ?_
            intro Ac w5 hp
            have hb := hp.bel
            have a38 : Ac.eval (.tmp 38) = .agg #[.int .u32 (a : Int), .int .i64 (n : Int)] := hp.dep 4 (by kernel_rfl)
            have a39 : Ac.eval (.tmp 39) = .agg #[.int .u32 (c : Int), .int .i64 (k : Int)] := hp.dep 5 (by kernel_rfl)
            have hc := evalC Ac; have hf := evalF Ac; have hgl := evalG Ac
            obtain ⟨ρ, hρ⟩ : ∃ ρ, Ac.eval = ρ := ⟨_, rfl⟩
            rw [hρ] at a38 a39 hc hf hgl
            refine relCall hρ 186 #[.agg #[.int .u32 (a : Int), .int .i64 (n : Int)], .agg #[.int .u32 (c : Int), .int .i64 (k : Int)]] (by simp [go_sem, hc, hf, hgl, ↓IntWalk.iteOmega, a38, a39, *]) ?_
            refine (HSd.out w5).mono ?_
            rintro e w6 ⟨rfl, hb6⟩
            exact ⟨_, rfl, by rw [HBit.out]; rfl, hb6⟩
          · refine relStep_plain rfl ?_
            intro Ac w5 hp
            have hb := hp.bel
            have a34 : Ac.eval (.tmp 34) = .pointer (some ⟨b, 0, none⟩) := hp.dep 0 (by kernel_rfl)
            have hc := evalC Ac; have hf := evalF Ac; have hgl := evalG Ac
            obtain ⟨ρ, hρ⟩ : ∃ ρ, Ac.eval = ρ := ⟨_, rfl⟩
            rw [hρ] at a34 hc hf hgl
            exact relPure hρ (.pointer (some ⟨b, 0, none⟩)) (by simp [go_sem, hc, hf, hgl, ↓IntWalk.iteOmega, a34, *]) rfl
          · refine relStep_plain rfl ?_
            intro Ac w5 hp
            have hb := hp.bel
            have a41 : Ac.eval (.tmp 41) = .pointer (some ⟨b, 0, none⟩) := hp.dep 7 (by kernel_rfl)
            have hc := evalC Ac; have hf := evalF Ac; have hgl := evalG Ac
            obtain ⟨ρ, hρ⟩ : ∃ ρ, Ac.eval = ρ := ⟨_, rfl⟩
            rw [hρ] at a41 hc hf hgl
            exact relPure hρ (.pointer (some ⟨b, 5, none⟩)) (by simp [go_sem, hc, hf, hgl, ↓IntWalk.iteOmega, a41, *]) rfl
          · refine relStep_plain rfl ?_
            intro Ac w5 hp
            have hb := hp.bel
            have a42 : Ac.eval (.tmp 42) = .pointer (some ⟨b, 5, none⟩) := hp.dep 8 (by kernel_rfl)
            have a40 : Ac.eval (.tmp 40) = .int .i64 1 := hp.dep 6 (by kernel_rfl)
            have hc := evalC Ac; have hf := evalF Ac; have hgl := evalG Ac
            obtain ⟨ρ, hρ⟩ : ∃ ρ, Ac.eval = ρ := ⟨_, rfl⟩
            rw [hρ] at a42 a40 hc hf hgl
            exact relPure hρ (.pointer (some ⟨b, 6, none⟩)) (by simp [go_sem, hc, hf, hgl, ↓IntWalk.iteOmega, a42, a40, *]) rfl
          · refine relStep_plain rfl ?_
            intro Ac w5 hp
            have hb := hp.bel
            have a43 : Ac.eval (.tmp 43) = .pointer (some ⟨b, 6, none⟩) := hp.dep 9 (by kernel_rfl)
            have hk5 := HN.out.below hb HN.out.lt
            have hx5 := HX.out.below hb HX.out.lt
            have y0 : w5.cell? ⟨b, 0, none⟩ = some (.int .u32 (a : Int)) := hk5.cell 0
            have y1 : w5.cell? ⟨b, 1, none⟩ = some (.int .i64 (n : Int)) := hk5.cell 1
            have y5 : w5.cell? ⟨b, 5, none⟩ = some (trPtr l) := hk5.cell 5
            have y6 : w5.cell? ⟨b, 6, none⟩ = some (trPtr r) := hk5.cell 6
            have x0 : w5.cell? ⟨xb, 0, none⟩ = some (.int .u32 (c : Int)) := hx5.cell 0
            have x1 : w5.cell? ⟨xb, 1, none⟩ = some (.int .i64 (k : Int)) := hx5.cell 1
            have hc := evalC Ac; have hf := evalF Ac; have hgl := evalG Ac
            obtain ⟨ρ, hρ⟩ : ∃ ρ, Ac.eval = ρ := ⟨_, rfl⟩
            rw [hρ] at a43 hc hf hgl
            exact relPure hρ (trPtr r) (by simp [go_sem, hc, hf, hgl, ↓IntWalk.iteOmega, a43, *]) rfl
          intro u w9 hb7 hall
          have e44 : u 10 = trPtr r := relAll_at hall (i := 10) (by decide +kernel)
          clear hall
          simp only [List.drop_succ_cons, List.drop_zero, List.take_succ_cons, List.take_zero, putAll, Act.put, List.setIfInBounds_toArray, List.set_cons_zero, List.set_cons_succ, Nat.zero_add, Nat.reduceAdd, e44]
          have HB9 := hide (HB28.out.trans (hb7.mono HB28.out.size))
          have HX9 := hide (HX.out.below hb7 HX.out.lt)
          clear hb7 HN HX
          go_wp2
          go_step3
          refine ⟨rfl, ⟨r, xb, _, rfl, rfl, HRr.out.chg (S := fun _ => False) (chg_below HB9.out) (by simp) (by simp), HWr.out, ?_, HX9.out, HB2.out.trans (HB9.out.mono HB2.out.size)⟩, ?_⟩
          · rw [← HSf.out, trFind, if_pos HCvP.out, if_neg HE.out, if_neg (by have := HBit.out; omega)]
          · have h1 := trRank_in HIr.out HGa.out.2.1
            refine Nat.lt_of_le_of_lt (Nat.le_of_eq (trDownP (HRr.out.chg (S := fun _ => False) (chg_below HB9.out) (by simp) (by simp)) ?_)) (Nat.lt_of_lt_of_eq h1 HRk.out.symm)
            rfl
    · rw [decide_eq_false hcv] at HCv
      have HR : Hid (trPtr (trFind c k t) = .pointer none) := hide (by rw [← HSf.out, trFind, if_neg hcv]; rfl)
      clear hcv
      go_upto_region 4 with fail
      have Hmn := hide (show AllMono [(fun v _ => v = .pointer (some ⟨b, 0, none⟩)), (fun v _ => v = .bool false), (fun v _ => v = .bool false), (fun v _ => v = .pointer (some ⟨b, 0, none⟩)), (fun v _ => v = .pointer (some ⟨b, 0, none⟩)), (fun v _ => v = .pointer (some ⟨b, 0, none⟩)), (fun v _ => v = .agg #[.int .u32 (a : Int), .int .i64 (n : Int)]), (fun v _ => v = .agg #[.int .u32 (c : Int), .int .i64 (k : Int)]), (fun v _ => v = .bool false), (fun v _ => v = .bool true), (fun v _ => v = .bool true)] from ⟨fun _ _ _ _ h => h, fun _ _ _ _ h => h, fun _ _ _ _ h => h, fun _ _ _ _ h => h, fun _ _ _ _ h => h, fun _ _ _ _ h => h, fun _ _ _ _ h => h, fun _ _ _ _ h => h, fun _ _ _ _ h => h, fun _ _ _ _ h => h, fun _ _ _ _ h => h, trivial⟩)
      refine wp_region_rel _ (by kernel_rfl) (by kernel_rfl) (relMono _ Hmn.out) ⟨?_, ?_, ?_, ?_, ?_, ?_, ?_, ?_, ?_, ?_, ?_, trivial⟩ ?_
      · refine relStep_plain rfl ?_
        intro Ac w5 hp
        have hb := hp.bel
        have a5 : Ac.eval (.tmp 5) = .pointer (some ⟨b, 0, none⟩) := hp.out 5 (by rfl)
        have hc := evalC Ac; have hf := evalF Ac; have hgl := evalG Ac
        obtain ⟨ρ, hρ⟩ : ∃ ρ, Ac.eval = ρ := ⟨_, rfl⟩
        rw [hρ] at a5 hc hf hgl
        exact relPure hρ (.pointer (some ⟨b, 0, none⟩)) (by simp [go_sem, hc, hf, hgl, ↓IntWalk.iteOmega, a5, *]) rfl
      · refine relStep_plain rfl ?_
        intro Ac w5 hp
        have hb := hp.bel
        have a17 : Ac.eval (.tmp 17) = .pointer (some ⟨b, 0, none⟩) := hp.dep 0 (by kernel_rfl)
        have hc := evalC Ac; have hf := evalF Ac; have hgl := evalG Ac
        obtain ⟨ρ, hρ⟩ : ∃ ρ, Ac.eval = ρ := ⟨_, rfl⟩
        rw [hρ] at a17 hc hf hgl
        exact relPure hρ (.bool false) (by simp [go_sem, hc, hf, hgl, ↓IntWalk.iteOmega, a17, *]) rfl
      · refine relStep_plain rfl ?_
        intro Ac w5 hp
        have hb := hp.bel
        have a18 : Ac.eval (.tmp 18) = .bool false := hp.dep 1 (by kernel_rfl)
        have hc := evalC Ac; have hf := evalF Ac; have hgl := evalG Ac
        obtain ⟨ρ, hρ⟩ : ∃ ρ, Ac.eval = ρ := ⟨_, rfl⟩
        rw [hρ] at a18 hc hf hgl
        exact relPure hρ (.bool false) (by simp [go_sem, hc, hf, hgl, ↓IntWalk.iteOmega, a18, *]) rfl
      · refine relStep_guard (g := 2) (b := false) (x := false) rfl (by kernel_rfl) rfl (by kernel_rfl) rfl (fun _ _ h => h) ?_
        intro Ac w5 hp
        have hb := hp.bel
        have a5 : Ac.eval (.tmp 5) = .pointer (some ⟨b, 0, none⟩) := hp.out 5 (by rfl)
        have hc := evalC Ac; have hf := evalF Ac; have hgl := evalG Ac
        obtain ⟨ρ, hρ⟩ : ∃ ρ, Ac.eval = ρ := ⟨_, rfl⟩
        rw [hρ] at a5 hc hf hgl
        exact relPure hρ (.pointer (some ⟨b, 0, none⟩)) (by simp [go_sem, hc, hf, hgl, ↓IntWalk.iteOmega, a5, *]) rfl
      · refine relStep_guard (g := 2) (b := false) (x := false) rfl (by kernel_rfl) rfl (by kernel_rfl) rfl (fun _ _ h => h) ?_
        intro Ac w5 hp
        have hb := hp.bel
        have a20 : Ac.eval (.tmp 20) = .pointer (some ⟨b, 0, none⟩) := hp.dep 3 (by kernel_rfl)
        have hc := evalC Ac; have hf := evalF Ac; have hgl := evalG Ac
        obtain ⟨ρ, hρ⟩ : ∃ ρ, Ac.eval = ρ := ⟨_, rfl⟩
        rw [hρ] at a20 hc hf hgl
        exact relPure hρ (.pointer (some ⟨b, 0, none⟩)) (by simp [go_sem, hc, hf, hgl, ↓IntWalk.iteOmega, a20, *]) rfl
      · refine relStep_guard (g := 2) (b := false) (x := false) rfl (by kernel_rfl) rfl (by kernel_rfl) rfl (fun _ _ h => h) ?_
        intro Ac w5 hp
        have hb := hp.bel
        have a21 : Ac.eval (.tmp 21) = .pointer (some ⟨b, 0, none⟩) := hp.dep 4 (by kernel_rfl)
        have hc := evalC Ac; have hf := evalF Ac; have hgl := evalG Ac
        obtain ⟨ρ, hρ⟩ : ∃ ρ, Ac.eval = ρ := ⟨_, rfl⟩
        rw [hρ] at a21 hc hf hgl
        exact relPure hρ (.pointer (some ⟨b, 0, none⟩)) (by simp [go_sem, hc, hf, hgl, ↓IntWalk.iteOmega, a21, *]) rfl
      · refine relStep_guard (g := 2) (b := false) (x := false) rfl (by kernel_rfl) rfl (by kernel_rfl) rfl (fun _ _ h => h) ?_
        intro Ac w5 hp
        have hb := hp.bel
        have a22 : Ac.eval (.tmp 22) = .pointer (some ⟨b, 0, none⟩) := hp.dep 5 (by kernel_rfl)
        have hk5 := HN.out.below hb HN.out.lt
        have hx5 := HX.out.below hb HX.out.lt
        have y0 : w5.cell? ⟨b, 0, none⟩ = some (.int .u32 (a : Int)) := hk5.cell 0
        have y1 : w5.cell? ⟨b, 1, none⟩ = some (.int .i64 (n : Int)) := hk5.cell 1
        have x0 : w5.cell? ⟨xb, 0, none⟩ = some (.int .u32 (c : Int)) := hx5.cell 0
        have x1 : w5.cell? ⟨xb, 1, none⟩ = some (.int .i64 (k : Int)) := hx5.cell 1
        have hc := evalC Ac; have hf := evalF Ac; have hgl := evalG Ac
        obtain ⟨ρ, hρ⟩ : ∃ ρ, Ac.eval = ρ := ⟨_, rfl⟩
        rw [hρ] at a22 hc hf hgl
        exact relPure hρ (.agg #[.int .u32 (a : Int), .int .i64 (n : Int)]) (by simp [go_sem, hc, hf, hgl, ↓IntWalk.iteOmega, a22, *]) rfl
      · refine relStep_guard (g := 2) (b := false) (x := false) rfl (by kernel_rfl) rfl (by kernel_rfl) rfl (fun _ _ h => h) ?_
        intro Ac w5 hp
        have hb := hp.bel
        have a3 : Ac.eval (.tmp 3) = .pointer (some ⟨xb, 0, none⟩) := hp.out 3 (by rfl)
        have hk5 := HN.out.below hb HN.out.lt
        have hx5 := HX.out.below hb HX.out.lt
        have y0 : w5.cell? ⟨b, 0, none⟩ = some (.int .u32 (a : Int)) := hk5.cell 0
        have y1 : w5.cell? ⟨b, 1, none⟩ = some (.int .i64 (n : Int)) := hk5.cell 1
        have x0 : w5.cell? ⟨xb, 0, none⟩ = some (.int .u32 (c : Int)) := hx5.cell 0
        have x1 : w5.cell? ⟨xb, 1, none⟩ = some (.int .i64 (k : Int)) := hx5.cell 1
        have hc := evalC Ac; have hf := evalF Ac; have hgl := evalG Ac
        obtain ⟨ρ, hρ⟩ : ∃ ρ, Ac.eval = ρ := ⟨_, rfl⟩
        rw [hρ] at a3 hc hf hgl
        exact relPure hρ (.agg #[.int .u32 (c : Int), .int .i64 (k : Int)]) (by simp [go_sem, hc, hf, hgl, ↓IntWalk.iteOmega, a3, *]) rfl
      · refine relStep_guard (g := 2) (b := false) (x := false) rfl (by kernel_rfl) rfl (by kernel_rfl) rfl (fun _ _ h => h) ?_
        intro Ac w5 hp
        have hb := hp.bel
        have a23 : Ac.eval (.tmp 23) = .agg #[.int .u32 (a : Int), .int .i64 (n : Int)] := hp.dep 6 (by kernel_rfl)
        have a24 : Ac.eval (.tmp 24) = .agg #[.int .u32 (c : Int), .int .i64 (k : Int)] := hp.dep 7 (by kernel_rfl)
        have hc := evalC Ac; have hf := evalF Ac; have hgl := evalG Ac
        obtain ⟨ρ, hρ⟩ : ∃ ρ, Ac.eval = ρ := ⟨_, rfl⟩
        rw [hρ] at a23 a24 hc hf hgl
        refine relCall hρ 185 #[.agg #[.int .u32 (a : Int), .int .i64 (n : Int)], .agg #[.int .u32 (c : Int), .int .i64 (k : Int)]] (by simp [go_sem, hc, hf, hgl, ↓IntWalk.iteOmega, a23, a24, *]) ?_
        refine (HCv.out w5).mono ?_
        rintro e w6 ⟨rfl, hb6⟩
        exact ⟨_, rfl, rfl, hb6⟩
      · refine relStep_guard (g := 2) (b := false) (x := false) rfl (by kernel_rfl) rfl (by kernel_rfl) rfl (fun _ _ h => h) ?_
        intro Ac w5 hp
        have hb := hp.bel
        have a25 : Ac.eval (.tmp 25) = .bool false := hp.dep 8 (by kernel_rfl)
        have hc := evalC Ac; have hf := evalF Ac; have hgl := evalG Ac
        obtain ⟨ρ, hρ⟩ : ∃ ρ, Ac.eval = ρ := ⟨_, rfl⟩
        rw [hρ] at a25 hc hf hgl
        exact relPure hρ (.bool true) (by simp [go_sem, hc, hf, hgl, ↓IntWalk.iteOmega, a25, *]) rfl
      · refine relStep_plain rfl ?_
        intro Ac w5 hp
        have hb := hp.bel
        have a19 : Ac.eval (.tmp 19) = .bool false := hp.dep 2 (by kernel_rfl)
        have a26 : Ac.eval (.tmp 26) = .bool true := hp.dep 9 (by kernel_rfl)
        have hc := evalC Ac; have hf := evalF Ac; have hgl := evalG Ac
        obtain ⟨ρ, hρ⟩ : ∃ ρ, Ac.eval = ρ := ⟨_, rfl⟩
        rw [hρ] at a19 a26 hc hf hgl
        exact relPure hρ (.bool true) (by simp [go_sem, hc, hf, hgl, ↓IntWalk.iteOmega, a19, a26, *]) rfl
      intro u w7 hb7 hall
      have e27 : u 10 = .bool true := relAll_at hall (i := 10) (by decide +kernel)
      clear hall
      simp only [List.drop_succ_cons, List.drop_zero, List.take_succ_cons, List.take_zero, putAll, Act.put, List.setIfInBounds_toArray, List.set_cons_zero, List.set_cons_succ, Nat.zero_add, Nat.reduceAdd, e27]
      have HB7 := hide (HB2.out.trans (hb7.mono HB2.out.size))
      clear hb7
      go_wp2
      simp only [Exit.jump]
      go_ret
      exact ⟨by rw [HR.out]; rfl, HB7.out⟩
set_option maxRecDepth 100000 in
theorem topP_any {α : Type} (g : Nat) (t : Tr α) (w : World) (hg : Blk w g 222 #[trPtr t]) : Calls Tryz.prog 173 #[.pointer (some ⟨g, 0, none⟩)] w fun e w' => e = .returned (trPtr t) ∧ w' = w := by
  have z : w.cell? ⟨g, 0, none⟩ = some (trPtr t) := hg.cell 0
  clear hg
  go_enter Tryz.func173, Tryz.ntmps173
  go_wp2
  go_ret
  exact ⟨rfl, rfl⟩
set_option maxRecDepth 100000 in
theorem newP_any (w : World) : Calls Tryz.prog 105 #[] w fun e w' => e = .returned (.pointer (some ⟨w.heap.size, 0, none⟩)) ∧ Blk w' w.heap.size 222 #[.pointer none] ∧ Below w.heap.size w w' := by
  have HB := hide (blkBelow1 w (.cells #[.pointer none] 222))
  have HK := hide (Blk.new w 222 #[.pointer none])
  go_enter Tryz.func105, Tryz.ntmps105
  go_wp2
  go_ret
  exact ⟨rfl, HK.out, HB.out⟩
set_option maxRecDepth 100000 in
theorem tlenP_any {α : Type} {F : Nat → Prop} {R : World → List Value → α → Prop} (g : Nat) (t : Tr α) (w : World) (hg : Blk w g 222 #[trPtr t]) (h : TrW 1 231 F R w t) : Calls Tryz.prog 114 #[.pointer (some ⟨g, 0, none⟩)] w fun e w' => e = .returned (.int .i64 (trCnt t : Int)) ∧ w' = w := by
  have HT := hide (topP_any g t w hg)
  have HC := hide (countP_any t w h)
  clear hg h
  go_enter Tryz.func114, Tryz.ntmps114
  go_wp2_with fail
  refine HT.out.mono ?_
  rintro e w1 ⟨rfl, rfl⟩
  go_wp2_with fail
  refine HC.out.mono ?_
  rintro e w2 ⟨rfl, rfl⟩
  go_wp2
  go_ret
  exact ⟨rfl, rfl⟩
set_option maxRecDepth 100000 in
set_option maxHeartbeats 4000000 in
theorem putnilP_any (a n : Nat) (vA : Option Addr) (vn vc : Nat) (w : World) :
    Calls Tryz.prog 165 #[.pointer none, .agg #[.int .u32 (a : Int), .int .i64 (n : Int)], .slice vA vn vc] w fun e w' => ∃ b, e = .returned (.pointer (some ⟨b, 0, none⟩)) ∧ w.heap.size ≤ b ∧ Blk w' b 231 (ndC a n [.slice vA vn vc] true 1 (.pointer none) (.pointer none)) ∧ Below w.heap.size w w' := by
  have HB := hide (blkBelow2 w (.cells #[.int .u32 (a : Int), .int .i64 (n : Int)] 24) (.cells (ndC a n [.slice vA vn vc] true 1 (.pointer none) (.pointer none)) 231))
  have HK : Hid (Blk ((w.alloc (.cells #[.int .u32 (a : Int), .int .i64 (n : Int)] 24)).alloc (.cells (ndC a n [.slice vA vn vc] true 1 (.pointer none) (.pointer none)) 231)) (w.heap.size + 1) 231 (ndC a n [.slice vA vn vc] true 1 (.pointer none) (.pointer none))) := hide (blk_new' _ _ (by simp))
  go_enter Tryz.func165, Tryz.ntmps165
  go_wp2
  go_ret
  exact ⟨w.heap.size + 1, rfl, by omega, HK.out, HB.out⟩
end Go.Proofs.YtcinjckajnnhmaaGreat
set_option linter.unusedSimpArgs false
set_option linter.unusedVariables false
namespace Go.Proofs.YtcinjckajnnhmaaGreat
open Go.RowKit Go.WideShapes Go.ChangeShapes
section
variable {α : Type} {sz : Nat} {T : TypeId} {F : Nat → Prop} {R : World → List Value → α → Prop} {w w9 w11 : World} {b p m b0 : Nat} {v : Option α} {l r t2 : Tr α} {vs us : List Value} {x : α}
theorem ndWhole (hc : ChgS (fun k => k ∈ trB l ∨ k = b) w w11) : ChgS (fun k => k ∈ trB (.nd b p m v l r)) w w11 := chg_mono hc fun k h => .inl (by
  rcases h with h | h
  · simp [trB, h]
  · simp [trB, h])
theorem ndWholeR (hc : ChgS (fun k => k ∈ trB r ∨ k = b) w w11) : ChgS (fun k => k ∈ trB (.nd b p m v l r)) w w11 := chg_mono hc fun k h => .inl (by
  rcases h with h | h
  · simp [trB, h]
  · simp [trB, h])
/-- Its left half turned. -/
theorem nd_left (hd : NdA sz T F R w b p m v l r vs) (hw : trWf (.nd b p m v t2 r)) (h2 : TrA sz T F R w9 t2) (hsub : ∀ k ∈ trB t2, k ∈ trB l ∨ w.heap.size ≤ k) (hc : ChgS (fun k => k ∈ trB l ∨ k = b) w w11) (hc2 : ChgS (fun k => k = b) w9 w11)
    (hk : Blk w11 b T (ndC p m vs v.isSome (trCnt t2 + trCnt r + (if v.isSome then 1 else 0)) (trPtr t2) (trPtr r))) : TrA sz T F R w11 (.nd b p m v t2 r) ∧ ∀ k ∈ trB (.nd b p m v t2 r), k ∈ trB (.nd b p m v l r) ∨ w.heap.size ≤ k := by
  have hbl : b < w.heap.size := hd.blk.lt
  have hb2 : b ∉ trB t2 := fun h => (hsub b h).elim hd.bl (fun h => by omega)
  refine ⟨NdA.tree (vs := vs) ⟨hd.len, hk, fun y e => frs_chg (hd.val y e) hc (fun k hF h => ?_), h2.chg hc2 (fun k hk e => hb2 (e ▸ hk)) (fun k hF e => hd.bf (e ▸ hF)), hd.right.chg hc (fun k hq h => ?_) (fun k hF h => ?_), hw, hb2, hd.br, hd.bf, fun k hk h => ?_⟩, fun k hk => ?_⟩
  · rcases h with h | rfl
    · exact hd.left.far k h hF
    · exact hd.bf hF
  · rcases h with h | rfl
    · exact hd.lr k h hq
    · exact hd.br hq
  · rcases h with h | rfl
    · exact hd.left.far k h hF
    · exact hd.bf hF
  · rcases hsub k hk with h1 | h1
    · exact hd.lr k h1 h
    · have := hd.right.mem.lt k h
      omega
  · simp only [trB, List.mem_cons, List.mem_append] at hk ⊢
    rcases hk with rfl | hk | hk
    · exact .inl (.inl rfl)
    · exact (hsub k hk).imp (fun h => .inr (.inl h)) id
    · exact .inl (.inr (.inr hk))
/-- Its right half turned. -/
theorem nd_right (hd : NdA sz T F R w b p m v l r vs) (hw : trWf (.nd b p m v l t2)) (h2 : TrA sz T F R w9 t2) (hsub : ∀ k ∈ trB t2, k ∈ trB r ∨ w.heap.size ≤ k) (hc : ChgS (fun k => k ∈ trB r ∨ k = b) w w11) (hc2 : ChgS (fun k => k = b) w9 w11)
    (hk : Blk w11 b T (ndC p m vs v.isSome (trCnt l + trCnt t2 + (if v.isSome then 1 else 0)) (trPtr l) (trPtr t2))) : TrA sz T F R w11 (.nd b p m v l t2) ∧ ∀ k ∈ trB (.nd b p m v l t2), k ∈ trB (.nd b p m v l r) ∨ w.heap.size ≤ k := by
  have hbl : b < w.heap.size := hd.blk.lt
  have hb2 : b ∉ trB t2 := fun h => (hsub b h).elim hd.br (fun h => by omega)
  refine ⟨NdA.tree (vs := vs) ⟨hd.len, hk, fun y e => frs_chg (hd.val y e) hc (fun k hF h => ?_), hd.left.chg hc (fun k hq h => ?_) (fun k hF h => ?_), h2.chg hc2 (fun k hk e => hb2 (e ▸ hk)) (fun k hF e => hd.bf (e ▸ hF)), hw, hd.bl, hb2, hd.bf, fun k hk h => ?_⟩, fun k hk => ?_⟩
  · rcases h with h | rfl
    · exact hd.right.far k h hF
    · exact hd.bf hF
  · rcases h with h | rfl
    · exact hd.lr k hq h
    · exact hd.bl hq
  · rcases h with h | rfl
    · exact hd.right.far k h hF
    · exact hd.bf hF
  · rcases hsub k h with h1 | h1
    · exact hd.lr k hk h1
    · have := hd.left.mem.lt k hk
      omega
  · simp only [trB, List.mem_cons, List.mem_append] at hk ⊢
    rcases hk with rfl | hk | hk
    · exact .inl (.inl rfl)
    · exact .inl (.inr (.inl hk))
    · exact (hsub k hk).imp (fun h => .inr (.inr h)) id
/-- Its own value turned. -/
theorem nd_here (hd : NdA sz T F R w b p m v l r vs) (hu : VOk sz us) (hx : FrS F none (fun w => R w us x) w) (hc : ChgS (fun k => k = b) w w11)
    (hk : Blk w11 b T (ndC p m us true (trCnt l + trCnt r + 1) (trPtr l) (trPtr r))) : TrA sz T F R w11 (.nd b p m (some x) l r) := by
  have hF : ∀ k, F k → ¬ (k = b) := fun k h e => hd.bf (e ▸ h)
  exact NdA.tree (vs := us) ⟨hu, hk, fun y e => by injection e with e; subst e; exact frs_chg hx hc hF, hd.left.chg hc (fun k hk e => hd.bl (e ▸ hk)) hF, hd.right.chg hc (fun k hk e => hd.br (e ▸ hk)) hF, hd.wf, hd.bl, hd.br, hd.bf, hd.lr⟩
/-- A new node above: over one tree, left or right, or over two. -/
theorem nd_new (h1 : TrA sz T F R w l) (h2 : TrA sz T F R w r) (hlow : ∀ k, F k → k < w.heap.size) (hw : trWf (.nd b0 p m v l r)) (hu : VOk sz us) (hx : ∀ y, v = some y → FrS F none (fun w => R w us y) w) (hb : w.heap.size ≤ b0) (hlr : ∀ k ∈ trB l, k ∉ trB r) (hc : ChgS (fun _ => False) w w11)
    (hk : Blk w11 b0 T (ndC p m us v.isSome (trCnt l + trCnt r + (if v.isSome then 1 else 0)) (trPtr l) (trPtr r))) : TrA sz T F R w11 (.nd b0 p m v l r) :=
  NdA.tree (vs := us) ⟨hu, hk, fun y e => frs_chg (hx y e) hc (by simp), h1.chg hc (by simp) (by simp), h2.chg hc (by simp) (by simp), hw, fun h => by have := h1.mem.lt _ h; omega, fun h => by have := h2.mem.lt _ h; omega, fun h => by have := hlow _ h; omega, hlr⟩
end
end Go.Proofs.YtcinjckajnnhmaaGreat
