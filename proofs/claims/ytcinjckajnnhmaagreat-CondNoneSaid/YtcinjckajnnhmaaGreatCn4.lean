import Derived.Test.YtcinjckajnnhmaaGreatCn3
import Derived.WalkKit
import Derived.ProofKit
import Derived.OpenShut
import Derived.Below
import Derived.Laws.OwnMore
import Derived.Laws.Rows
import Derived.Laws.MakeOwn
import Derived.Deep.AppendLies
import Derived.Deep.Draws
import Derived.Deep.OwnRows
import Derived.Deep.QuietTactic
import Derived.Maps.AppendAt
import Derived.RegionTactic
import Derived.OwnWalk
import Derived.ChangeSame
import Derived.Outline
import Derived.BigQuiet
import Derived.WalkMore
import Derived.ScopeJumps
import Derived.WalkLawsBesides
import Derived.WalkSpells
import Derived.Laws.BitsLemmas
import Derived.Laws.BitsAllLaws
import Derived.WideKeyArgs
import Derived.Deep.DeepHandedRow
import Derived.Deep.DeepWitnessRowRef
import Derived.Lib.LaidTab
import Derived.Lib.AppendIntMem
import Derived.LaidMore
import Derived.MakeChecks
import Derived.Lib.Itoa
import Derived.Lib.ItoaMem
import Derived.Deep.Quiet
import Derived.Deep.Slices
import Derived.BigRegion
import Derived.Orders
import Derived.OrdersIn
import Derived.RangeFuncCalls
import Derived.Shelf.RegionOpen
import Derived.StillTailTactics
import Derived.Lib.PathFns
import Derived.Lib.IndexBytes
import Derived.RangeFuncWrites
import Derived.RangeFuncNested
import Derived.RangeFuncBound
import Derived.RangeFuncLeaves
import Derived.RangeFuncBox
import Derived.Shelf.Abstract
import Derived.OwnWalkIn
import Derived.TacticsInMore
import Derived.LoopNIn
import Derived.LoopIn
import Derived.Lib.SmallJoins
import Derived.Lib.ParseIntBCases
import Derived.Lib.IndexMore
import Derived.Shelf.Vars
import Derived.Lib.AtoiAllCases
import Derived.SliceStrings
import Derived.Deep.RegionLaw
import Derived.Sort.LotA
import Derived.BigRegionIn
import Derived.Deep.RegionHeld3
import Derived.RangeFuncOwn
import Derived.Sort.WalkA6
import Derived.Sort.WalkB3
import Derived.Sort.WalkC4
import Derived.Sort.WalkA14
import Derived.Sort.Walk11
import Derived.Sort.Walk7
import Derived.Sort.Walk13
import Derived.Sort.Row
import Derived.Lib.Walk
import Derived.Lib.Strings
import Derived.BigGuard
import Derived.BigCall
import Derived.CellFam
import Derived.Deep.LoopGhost
import Derived.Sort.LotC
import Derived.Deep.RegionWith
import Derived.RowKit
import Derived.Sort.LotD3
import Derived.Sort.LotD4
import Derived.Sort.Grow
import Derived.Sort.AtCall
import Derived.Sort.LotD5
import Derived.Laws.Bits64
import Derived.Laws.Bits64b
import Derived.Sort.EncStr
import Derived.Sort.LotD1
import Derived.Sort.LotB
import Derived.Deep.Cut
import Derived.Sort.Walk13a
import Derived.Sort.AssemblyPlain
import Derived.Shelf.Spec.SlicesInsertGrow
import Derived.Deep.MidRow
import Derived.Lib.RowBridge
import Derived.Laws.CopyOwn
import Derived.Lib.AppendZerosOnto
import Derived.Deep.DeepCutAuto
import Derived.Lib.Bytealg
import Derived.Shelf.Strings.SplitShaped
import Derived.Shelf.Strings.Prefix
import Derived.Shelf.Small.Strs
import Derived.Lib.QuietBelow
import Derived.Shelf.SlSortCmp.WholeK
import Derived.Maps.Own
set_option linter.unusedSimpArgs false
set_option linter.unusedVariables false
namespace Go.Proofs.YtcinjckajnnhmaaGreat
open Go.RowKit Go.WideShapes Go.ChangeShapes
attribute [local go_sem] Oper.semAt_some
def cutA (x : AT) : AT := ⟨x.has, x.org, cutP x.path, x.hop, x.med, x.pref, x.aas, x.aid, x.comms.take 260⟩
abbrev bxC (X : AT) (x2 x8 : Value) : Array Value := #[.int .i64 X.has, .int .i64 X.org, x2, .int .u32 X.hop, .int .u32 X.med, .int .u32 X.pref, .int .u32 X.aas, .int .u32 X.aid, x8]
def SlA (b : Nat) (P : List SG) (v : Value) (W : World) : Prop := ∃ A n c xs, v = .slice A n c ∧ LOw 2 133 sgR W b b A n c P xs
def SlB (b : Nat) (C : List Nat) (v : Value) (W : World) : Prop := ∃ B m d, v = .slice B m d ∧ FrB b none (fun w => U32s w B m d C) W
def BxA (H : Nat) (X : AT) (W : World) : Prop := ∃ x2 x8, Blk W H 28 (bxC X x2 x8) ∧ Blk W (H + 1) 28 zeroC
def StA (H b : Nat) (X : AT) (P : List SG) (W : World) : Prop := ∃ x2 x8, Blk W H 28 (bxC X x2 x8) ∧ Blk W (H + 1) 28 zeroC ∧ SlA b P x2 W
def StB (H b : Nat) (X : AT) (C : List Nat) (W : World) : Prop := ∃ x2 x8, Blk W H 28 (bxC X x2 x8) ∧ Blk W (H + 1) 28 zeroC ∧ SlB b C x8 W
section
variable {H b i : Nat} {X : AT} {P : List SG} {C : List Nat} {v u : Value} {W W' : World}
theorem SlA.below (h : SlA b P v W) (hb : Below W.heap.size W W') : SlA b P v W' := by
  obtain ⟨A, n, c, xs, e, hl⟩ := h
  exact ⟨A, n, c, xs, e, hl.below hb⟩
theorem SlB.below (h : SlB b C v W) (hb : Below W.heap.size W W') : SlB b C v W' := by
  obtain ⟨A, n, c, e, hl⟩ := h
  exact ⟨A, n, c, e, hl.below hb⟩
theorem SlA.setv (h : SlA b P v W) (hH : H < b) : SlA b P v (W.setCell ⟨H, i, none⟩ u) := by
  obtain ⟨A, n, c, xs, e, hl⟩ := h
  exact ⟨A, n, c, xs, e, hl.set hH hH u⟩
theorem SlB.setv (h : SlB b C v W) (hH : H < b) : SlB b C v (W.setCell ⟨H, i, none⟩ u) := by
  obtain ⟨A, n, c, e, hl⟩ := h
  exact ⟨A, n, c, e, hl.set (p := ⟨H, i, none⟩) hH u⟩
theorem BxA.lt_ (h : BxA H X W) : H < W.heap.size := by
  obtain ⟨x2, x8, h, _⟩ := h
  exact h.lt
theorem blk_up {t : TypeId} {cs : Array Value} (h : Blk W (H + 1) t cs) : Blk (W.setCell ⟨H, i, none⟩ u) (H + 1) t cs := h.far (p := ⟨H, i, none⟩) (by show H + 1 ≠ H; omega) u
theorem BxA.below (h : BxA H X W) (hb : Below W.heap.size W W') : BxA H X W' := by
  obtain ⟨x2, x8, h, hz⟩ := h
  exact ⟨x2, x8, h.below hb h.lt, hz.below hb hz.lt⟩
theorem BxA.set2 (h : BxA H X W) (u : Value) : BxA H X (W.setCell ⟨H, 2, none⟩ u) := by
  obtain ⟨x2, x8, h, hz⟩ := h
  exact ⟨u, x8, h.set_ 2 u, blk_up hz⟩
theorem BxA.set8 (h : BxA H X W) (u : Value) : BxA H X (W.setCell ⟨H, 8, none⟩ u) := by
  obtain ⟨x2, x8, h, hz⟩ := h
  exact ⟨x2, u, h.set_ 8 u, blk_up hz⟩
theorem StA.below (h : StA H b X P W) (hb : Below W.heap.size W W') : StA H b X P W' := by
  obtain ⟨x2, x8, h, hz, hs⟩ := h
  exact ⟨x2, x8, h.below hb h.lt, hz.below hb hz.lt, hs.below hb⟩
theorem StB.below (h : StB H b X C W) (hb : Below W.heap.size W W') : StB H b X C W' := by
  obtain ⟨x2, x8, h, hz, hs⟩ := h
  exact ⟨x2, x8, h.below hb h.lt, hz.below hb hz.lt, hs.below hb⟩
theorem StA.set8 (h : StA H b X P W) (hH : H < b) : StA H b X P (W.setCell ⟨H, 8, none⟩ u) := by
  obtain ⟨x2, x8, h, hz, hs⟩ := h
  exact ⟨x2, u, h.set_ 8 u, blk_up hz, hs.setv hH⟩
theorem StB.set2 (h : StB H b X C W) (hH : H < b) : StB H b X C (W.setCell ⟨H, 2, none⟩ u) := by
  obtain ⟨x2, x8, h, hz, hs⟩ := h
  exact ⟨u, x8, h.set_ 2 u, blk_up hz, hs.setv hH⟩
theorem st_both (h : StA H b X P W) (h' : StB H b X C W) : ∃ A n c xs B m d, Blk W H 28 (bxC X (.slice A n c) (.slice B m d)) ∧ Blk W (H + 1) 28 zeroC ∧ LOw 2 133 sgR W b b A n c P xs ∧ FrB b none (fun w => U32s w B m d C) W := by
  obtain ⟨x2, x8, h1, hz, A, n, c, xs, rfl, hl⟩ := h
  obtain ⟨y2, y8, h2, _, B, m, d, rfl, hu⟩ := h'
  have e := (h1.cell 8).symm.trans (h2.cell 8)
  simp only [List.getElem?_toArray, List.getElem?_cons_succ, List.getElem?_cons_zero, Option.some.injEq] at e
  subst e
  exact ⟨A, n, c, xs, B, m, d, h1, hz, hl, hu⟩
theorem cell_set_ne {j : Nat} (hne : i ≠ j) : (W.setCell ⟨H, i, none⟩ u).cell? ⟨H, j, none⟩ = W.cell? ⟨H, j, none⟩ := by
  refine World.cell?_setCell_other _ _ _ _ ?_
  intro e
  cases e
  exact hne rfl
/-- One cell of a box stored. -/
theorem st1A {tc : TypeId} {f n c : Nat} {A : Option Addr} {cs : Array Value} (h : Blk W H tc cs) (hf : cs[f]?.isSome = true) :
    (Instr.storeAt 25 (.pointer (some ⟨H, f, none⟩)) (.slice A n c)).run Tryz.prog W = .ok () (W.setCell ⟨H, f, none⟩ (.slice A n c)) := by
  have hc := h.cell f
  have hz := h.frozen f
  obtain ⟨x, hx⟩ := Option.isSome_iff_exists.1 hf
  rw [hx] at hc
  simp [go_sem, hc, hz]
theorem st1B {tc : TypeId} {f n c : Nat} {A : Option Addr} {cs : Array Value} (h : Blk W H tc cs) (hf : cs[f]?.isSome = true) :
    (Instr.storeAt 26 (.pointer (some ⟨H, f, none⟩)) (.slice A n c)).run Tryz.prog W = .ok () (W.setCell ⟨H, f, none⟩ (.slice A n c)) := by
  have hc := h.cell f
  have hz := h.frozen f
  obtain ⟨x, hx⟩ := Option.isSome_iff_exists.1 hf
  rw [hx] at hc
  simp [go_sem, hc, hz]
end
set_option maxRecDepth 100000 in
set_option maxHeartbeats 8000000 in
theorem attrsFew_any (X : AT) (v : Value) (w : World) (hv : AtR w X v) : Calls Tryz.prog 72 #[v] w (AtP (cutA X) w) := by
  obtain ⟨A, n, c, Bb, m, d, rfl, hP, hC⟩ := hv
  obtain ⟨w1, hw1⟩ : ∃ w1, ((w.alloc (.cells (bxC X (.slice A n c) (.slice Bb m d)) 28)).alloc (.cells zeroC 28)) = w1 := ⟨_, rfl⟩
  have hb1 : Below w.heap.size w w1 := hw1 ▸ ((Below.refl _ w).alloc (Nat.le_refl _) _).alloc (by simp) _
  have HKb : Hid (Blk w1 w.heap.size 28 (bxC X (.slice A n c) (.slice Bb m d))) := hide (hw1 ▸ (Blk.new w _ _).alloc _)
  have HKz : Hid (Blk w1 (w.heap.size + 1) 28 zeroC) := hide (hw1 ▸ blk_new' _ _ (by simp))
  have HLt : Hid (w.heap.size < w1.heap.size) := hide HKb.out.lt
  have HP := hide hP
  have HC := hide hC
  have HB1 := hide hb1
  have HW1 := hide hw1
  obtain ⟨PN, hPN⟩ : ∃ P, cutP X.path = P := ⟨_, rfl⟩
  obtain ⟨CN, hCN⟩ : ∃ C, X.comms.take 260 = C := ⟨_, rfl⟩
  have HCNb : Hid (∀ y ∈ CN, y < 4294967296) := hide (fun y hy => by rw [← hCN] at hy; exact hC.2.2.2.1 y (List.mem_of_mem_take hy))
  have HPN := hide hPN
  have HCN := hide hCN
  have HX : Hid (cutA X = ⟨X.has, X.org, PN, X.hop, X.med, X.pref, X.aas, X.aid, CN⟩) := hide (by unfold cutA; rw [hPN, hCN])
  clear hw1 hb1 hP hC hPN hCN
  go_enter Tryz.func72, Tryz.ntmps72
  go_upto_region 1 with fail
  rw [HW1.out]
  refine wp_region_relH 10 w.heap.size (Nat.le_of_lt HLt.out) [(fun v _ => v = .pointer (some ⟨w.heap.size, 2, none⟩)), (fun v _ => v = .slice A n c), (SlA w1.heap.size PN), (fun v _ => v = .pointer (some ⟨w.heap.size, 8, none⟩)), (fun v _ => v = .slice Bb m d), (SlB w1.heap.size CN), (fun v _ => v = .pointer (some ⟨w.heap.size, 2, none⟩)), (fun _ W => StA w.heap.size w1.heap.size X PN W ), (fun v _ => v = .pointer (some ⟨w.heap.size, 8, none⟩)), (fun _ W => StB w.heap.size w1.heap.size X CN W )] (fun i W => BxA w.heap.size X W ∧ (i = 1 → W.cell? ⟨w.heap.size, 2, none⟩ = some (.slice A n c)) ∧ (i = 4 → W.cell? ⟨w.heap.size, 8, none⟩ = some (.slice Bb m d))) (fun i Wa Wb => if i = 7 then ∃ v, Wb = Wa.setCell ⟨w.heap.size, 2, none⟩ v else if i = 9 then ∃ v, Wb = Wa.setCell ⟨w.heap.size, 8, none⟩ v else Below Wa.heap.size Wa Wb) (by kernel_rfl) (by kernel_rfl) (by kernel_rfl) (by kernel_rfl) (by kernel_rfl) ?hE ?hR ?hP ?h0 ⟨?_, ?_, ?_, ?_, ?_, ?_, ?_, ?_, ?_, ?_, trivial⟩ ?_
  case hE =>
    intro i2 wa wb hB he
    split at he
    · obtain ⟨u, rfl⟩ := he
      exact (Below.refl w.heap.size wa).setCell (p := ⟨w.heap.size, 2, none⟩) (Nat.le_refl _) u
    · split at he
      · obtain ⟨u, rfl⟩ := he
        exact (Below.refl w.heap.size wa).setCell (p := ⟨w.heap.size, 8, none⟩) (Nat.le_refl _) u
      · exact he.mono hB
  case hR =>
    intro i2 j2 v2 wa wb hij hB he h
    split at he
    · rename_i hj2
      subst hj2
      refine keepAll_at (E := fun wa wb => ∃ v, wb = wa.setCell ⟨w.heap.size, 2, none⟩ v) (x := 7) (k := 0) ?_ (by omega) he h
      exact ⟨fun _ v wa wb he h => h, fun _ v wa wb he h => h, fun _ v wa wb he h => by obtain ⟨u, rfl⟩ := he; exact SlA.setv h HLt.out, fun _ v wa wb he h => h, fun _ v wa wb he h => h, fun _ v wa wb he h => by obtain ⟨u, rfl⟩ := he; exact SlB.setv h HLt.out, fun _ v wa wb he h => h, fun hn => absurd rfl hn, fun _ v wa wb he h => h, fun _ v wa wb he h => by obtain ⟨u, rfl⟩ := he; exact StB.set2 h HLt.out, trivial⟩
    · split at he
      · rename_i hj2
        subst hj2
        refine keepAll_at (E := fun wa wb => ∃ v, wb = wa.setCell ⟨w.heap.size, 8, none⟩ v) (x := 9) (k := 0) ?_ (by omega) he h
        exact ⟨fun _ v wa wb he h => h, fun _ v wa wb he h => h, fun _ v wa wb he h => by obtain ⟨u, rfl⟩ := he; exact SlA.setv h HLt.out, fun _ v wa wb he h => h, fun _ v wa wb he h => h, fun _ v wa wb he h => by obtain ⟨u, rfl⟩ := he; exact SlB.setv h HLt.out, fun _ v wa wb he h => h, fun _ v wa wb he h => by obtain ⟨u, rfl⟩ := he; exact StA.set8 h HLt.out, fun _ v wa wb he h => h, fun hn => absurd rfl hn, trivial⟩
      · refine relMono _ ?_ i2 v2 wa wb he h
        exact ⟨fun _ _ _ _ h => h, fun _ _ _ _ h => h, fun v w2 w3 hb h => SlA.below h hb, fun _ _ _ _ h => h, fun _ _ _ _ h => h, fun v w2 w3 hb h => SlB.below h hb, fun _ _ _ _ h => h, fun v w1 w2 hb h => StA.below h hb, fun _ _ _ _ h => h, fun v w1 w2 hb h => StB.below h hb, trivial⟩
  case hP =>
    intro i2 j2 wa wb hij hnb hB he h
    split at he
    · rename_i hj2
      subst hj2
      obtain ⟨u, rfl⟩ := he
      refine ⟨h.1.set2 u, fun e => ?_, fun e => (cell_set_ne (by decide)).trans (h.2.2 e)⟩
      subst e
      exact absurd hnb (by decide +kernel)
    · split at he
      · rename_i hj2
        subst hj2
        obtain ⟨u, rfl⟩ := he
        refine ⟨h.1.set8 u, fun e => (cell_set_ne (by decide)).trans (h.2.1 e), fun e => ?_⟩
        subst e
        exact absurd hnb (by decide +kernel)
      · exact ⟨h.1.below he, fun e => (he.cell h.1.lt_).trans (h.2.1 e), fun e => (he.cell h.1.lt_).trans (h.2.2 e)⟩
  case h0 =>
    intro j2 hj2
    exact ⟨⟨_, _, HKb.out.drew, HKz.out.drew⟩, fun _ => HKb.out.cell 2, fun _ => HKb.out.cell 8⟩
  · refine relG_plain rfl rfl (fun _ _ h => h) ?_
    intro Ac w5 hp
    have hb := hp.bel
    have a1 : Ac.eval (.tmp 1) = .pointer (some ⟨w.heap.size, 0, none⟩) := hp.out 1 (by rfl)
    have hc := evalC Ac; have hf := evalF Ac; have hgl := evalG Ac
    obtain ⟨ρ, hρ⟩ : ∃ ρ, Ac.eval = ρ := ⟨_, rfl⟩
    rw [hρ] at a1 hc hf hgl
    exact relPure hρ (.pointer (some ⟨w.heap.size, 2, none⟩)) (by simp [go_sem, hc, hf, hgl, ↓IntWalk.iteOmega, a1, *]) rfl
  · refine relG_plain rfl rfl (fun _ _ h => h) ?_
    intro Ac w5 hp
    have hb := hp.bel
    have a3 : Ac.eval (.tmp 3) = .pointer (some ⟨w.heap.size, 2, none⟩) := hp.dep 0 (by kernel_rfl)
    have z2 := hp.pre.2.1 rfl
    have hc := evalC Ac; have hf := evalF Ac; have hgl := evalG Ac
    obtain ⟨ρ, hρ⟩ : ∃ ρ, Ac.eval = ρ := ⟨_, rfl⟩
    rw [hρ] at a3 hc hf hgl
    exact relPure hρ (.slice A n c) (by simp [go_sem, hc, hf, hgl, ↓IntWalk.iteOmega, a3, *]) rfl
  · refine relG_plain rfl rfl (fun _ _ h => h) ?_
    intro Ac w5 hp
    have hb := hp.bel
    have a4 : Ac.eval (.tmp 4) = .slice A n c := hp.dep 1 (by kernel_rfl)
    have hc := evalC Ac; have hf := evalF Ac; have hgl := evalG Ac
    obtain ⟨ρ, hρ⟩ : ∃ ρ, Ac.eval = ρ := ⟨_, rfl⟩
    rw [hρ] at a4 hc hf hgl
    refine relCall hρ 134 #[.slice A n c] (by simp [go_sem, hc, hf, hgl, ↓IntWalk.iteOmega, a4, *]) ?_
    refine (pathFew_any A n c X.path w5 (HP.out.below sgMono (HB1.out.trans hp.bel))).mono ?_
    intro e w6 hmv
    unfold SegP at hmv
    obtain ⟨A6, n6, c6, xs6, rfl, hl6, hb6⟩ := hmv
    rw [HPN.out] at hl6
    exact ⟨_, rfl, ⟨A6, n6, c6, xs6, rfl, hl6.less hp.bel.size hp.bel.size⟩, hb6⟩
  · refine relG_plain rfl rfl (fun _ _ h => h) ?_
    intro Ac w5 hp
    have hb := hp.bel
    have a1 : Ac.eval (.tmp 1) = .pointer (some ⟨w.heap.size, 0, none⟩) := hp.out 1 (by rfl)
    have hc := evalC Ac; have hf := evalF Ac; have hgl := evalG Ac
    obtain ⟨ρ, hρ⟩ : ∃ ρ, Ac.eval = ρ := ⟨_, rfl⟩
    rw [hρ] at a1 hc hf hgl
    exact relPure hρ (.pointer (some ⟨w.heap.size, 8, none⟩)) (by simp [go_sem, hc, hf, hgl, ↓IntWalk.iteOmega, a1, *]) rfl
  · refine relG_plain rfl rfl (fun _ _ h => h) ?_
    intro Ac w5 hp
    have hb := hp.bel
    have a6 : Ac.eval (.tmp 6) = .pointer (some ⟨w.heap.size, 8, none⟩) := hp.dep 3 (by kernel_rfl)
    have z8 := hp.pre.2.2 rfl
    have hc := evalC Ac; have hf := evalF Ac; have hgl := evalG Ac
    obtain ⟨ρ, hρ⟩ : ∃ ρ, Ac.eval = ρ := ⟨_, rfl⟩
    rw [hρ] at a6 hc hf hgl
    exact relPure hρ (.slice Bb m d) (by simp [go_sem, hc, hf, hgl, ↓IntWalk.iteOmega, a6, *]) rfl
  · refine relG_plain rfl rfl (fun _ _ h => h) ?_
    intro Ac w5 hp
    have hb := hp.bel
    have a7 : Ac.eval (.tmp 7) = .slice Bb m d := hp.dep 4 (by kernel_rfl)
    have hc := evalC Ac; have hf := evalF Ac; have hgl := evalG Ac
    obtain ⟨ρ, hρ⟩ : ∃ ρ, Ac.eval = ρ := ⟨_, rfl⟩
    rw [hρ] at a7 hc hf hgl
    refine relCall hρ 135 #[.slice Bb m d, .int .i64 (260 : Nat)] (by simp [go_sem, hc, hf, hgl, ↓IntWalk.iteOmega, a7, *]) ?_
    refine (few_any Bb m d X.comms 260 (by decide) w5 (HC.out.below (HB1.out.trans hp.bel))).mono ?_
    rintro e w6 ⟨v6, rfl, ho6, hb6⟩
    rw [HCN.out] at ho6
    obtain ⟨A6, c6, rfl⟩ := own_slice ho6
    exact ⟨_, rfl, ⟨A6, _, c6, rfl, own_u32_fr ho6 HCNb.out hp.bel.size (fun k hk => by cases hk)⟩, hb6⟩
  · refine relG_plain rfl rfl (fun _ _ h => h) ?_
    intro Ac w5 hp
    have hb := hp.bel
    have a1 : Ac.eval (.tmp 1) = .pointer (some ⟨w.heap.size, 0, none⟩) := hp.out 1 (by rfl)
    have hc := evalC Ac; have hf := evalF Ac; have hgl := evalG Ac
    obtain ⟨ρ, hρ⟩ : ∃ ρ, Ac.eval = ρ := ⟨_, rfl⟩
    rw [hρ] at a1 hc hf hgl
    exact relPure hρ (.pointer (some ⟨w.heap.size, 2, none⟩)) (by simp [go_sem, hc, hf, hgl, ↓IntWalk.iteOmega, a1, *]) rfl
  · refine relG_store rfl ?_
    intro Ac w5 hp
    have hb := hp.bel
    have a9 : Ac.eval (.tmp 9) = .pointer (some ⟨w.heap.size, 2, none⟩) := hp.dep 6 (by kernel_rfl)
    obtain ⟨A5, n5, c5, xs5, a5, hl5⟩ := hp.dep 2 (by kernel_rfl)
    change Ac.eval (.tmp 5) = _ at a5
    have a9 : Ac.eval (.tmp 9) = .pointer (some ⟨w.heap.size, 2, none⟩) := hp.dep 6 (by kernel_rfl)
    obtain ⟨A5, n5, c5, xs5, ec, hl5⟩ := hp.dep 2 (by kernel_rfl)
    change Ac.eval (.tmp 5) = _ at ec
    obtain ⟨x2, x8, hk, hz⟩ := hp.pre.1
    have HK := hide hk
    have HZ := hide (hz.far (p := ⟨w.heap.size, 2, none⟩) (by show w.heap.size + 1 ≠ w.heap.size; omega) (.slice A5 n5 c5))
    have HL := hide hl5
    clear hp
    refine ⟨w5.setCell ⟨w.heap.size, 2, none⟩ (.slice A5 n5 c5), .inl (exec_store rfl a9 ec (st1A HK.out rfl)), ?_, ⟨_, rfl⟩⟩
    exact ⟨_, x8, HK.out.set_ 2 _, HZ.out, ⟨A5, n5, c5, xs5, rfl, HL.out.set HLt.out HLt.out _⟩⟩
  · refine relG_plain rfl rfl (fun _ _ h => h) ?_
    intro Ac w5 hp
    have hb := hp.bel
    have a1 : Ac.eval (.tmp 1) = .pointer (some ⟨w.heap.size, 0, none⟩) := hp.out 1 (by rfl)
    have hc := evalC Ac; have hf := evalF Ac; have hgl := evalG Ac
    obtain ⟨ρ, hρ⟩ : ∃ ρ, Ac.eval = ρ := ⟨_, rfl⟩
    rw [hρ] at a1 hc hf hgl
    exact relPure hρ (.pointer (some ⟨w.heap.size, 8, none⟩)) (by simp [go_sem, hc, hf, hgl, ↓IntWalk.iteOmega, a1, *]) rfl
  · refine relG_store rfl ?_
    intro Ac w5 hp
    have hb := hp.bel
    have a10 : Ac.eval (.tmp 10) = .pointer (some ⟨w.heap.size, 8, none⟩) := hp.dep 8 (by kernel_rfl)
    obtain ⟨A8, n8, c8, a8, hu8⟩ := hp.dep 5 (by kernel_rfl)
    change Ac.eval (.tmp 8) = _ at a8
    have a10 : Ac.eval (.tmp 10) = .pointer (some ⟨w.heap.size, 8, none⟩) := hp.dep 8 (by kernel_rfl)
    obtain ⟨A8, n8, c8, ec, hu8⟩ := hp.dep 5 (by kernel_rfl)
    change Ac.eval (.tmp 8) = _ at ec
    obtain ⟨x2, x8, hk, hz⟩ := hp.pre.1
    have HK := hide hk
    have HZ := hide (hz.far (p := ⟨w.heap.size, 8, none⟩) (by show w.heap.size + 1 ≠ w.heap.size; omega) (.slice A8 n8 c8))
    have HL := hide hu8
    clear hp
    refine ⟨w5.setCell ⟨w.heap.size, 8, none⟩ (.slice A8 n8 c8), .inl (exec_store rfl a10 ec (st1B HK.out rfl)), ?_, ⟨_, rfl⟩⟩
    exact ⟨x2, _, HK.out.set_ 8 _, HZ.out, ⟨A8, n8, c8, rfl, HL.out.set (p := ⟨w.heap.size, 8, none⟩) HLt.out _⟩⟩
  intro u w7 hb7 hall
  have efin : StA w.heap.size w1.heap.size X PN w7  := relAll_at hall (i := 7) (by decide +kernel)
  have efin1 : StB w.heap.size w1.heap.size X CN w7  := relAll_at hall (i := 9) (by decide +kernel)
  clear hall
  simp only [List.drop_succ_cons, List.drop_zero, List.take_succ_cons, List.take_zero, putAll, Act.put, List.setIfInBounds_toArray, List.set_cons_zero, List.set_cons_succ, Nat.zero_add, Nat.reduceAdd, ]
  obtain ⟨A8, n8, c8, xs8, B8, m8, d8, hk, hz, hl, hu⟩ := st_both efin efin1
  have HK := hide hk
  have HZ := hide hz
  have HB7 := hide (HB1.out.trans hb7)
  have HO := hide (show AtO w1.heap.size w7 ⟨X.has, X.org, PN, X.hop, X.med, X.pref, X.aas, X.aid, CN⟩ (atV X.has X.org A8 n8 c8 X.hop X.med X.pref X.aas X.aid B8 m8 d8) from ⟨A8, n8, c8, xs8, B8, m8, d8, rfl, hl, hu⟩)
  rw [← HX.out] at HO
  have hlt : w.heap.size + 1 < w1.heap.size := HKz.out.lt
  clear efin efin1 hk hz hl hu hb7
  obtain ⟨a0, a1, a2, a3, a4, a5, a6, a7, a8⟩ := blk9 HK.out
  obtain ⟨z0, z1, z2, z3, z4, z5, z6, z7, z8⟩ := blk9 HZ.out
  have zf := fun i => HZ.out.frozen i
  go_wp2
  change bodyPost _ _ _ _ _ (w7.setCells (w.heap.size + 1) 0 [.int .i64 X.has, .int .i64 X.org, .slice A8 n8 c8, .int .u32 X.hop, .int .u32 X.med, .int .u32 X.pref, .int .u32 X.aas, .int .u32 X.aid, .slice B8 m8 d8])
  obtain ⟨wF, hwF⟩ : ∃ x, w7.setCells (w.heap.size + 1) 0 [.int .i64 X.has, .int .i64 X.org, .slice A8 n8 c8, .int .u32 X.hop, .int .u32 X.med, .int .u32 X.pref, .int .u32 X.aas, .int .u32 X.aid, .slice B8 m8 d8] = x := ⟨_, rfl⟩
  have HFk := hide (hwF ▸ blk9_set HZ.out : Blk wF (w.heap.size + 1) 28 (atC X.has X.org A8 n8 c8 X.hop X.med X.pref X.aas X.aid B8 m8 d8))
  have HFo := hide (hwF ▸ AtO.sets _ 0 HO.out hlt : AtO w1.heap.size wF (cutA X) (atV X.has X.org A8 n8 c8 X.hop X.med X.pref X.aas X.aid B8 m8 d8))
  have HFb := hide (hwF ▸ below_sets _ 0 HB7.out (by omega) : Below w.heap.size w wF)
  rw [hwF]
  clear hwF z0 z1 z2 z3 z4 z5 z6 z7 z8 zf a0 a1 a2 a3 a4 a5 a6 a7 a8
  obtain ⟨z0, z1, z2, z3, z4, z5, z6, z7, z8⟩ := blk9 HFk.out
  exact bodyPost_ret (v := atV X.has X.org A8 n8 c8 X.hop X.med X.pref X.aas X.aid B8 m8 d8) (by simp [results, Tryz.results72, go_sem, z0, z1, z2, z3, z4, z5, z6, z7, z8]) rfl ⟨_, rfl, HFo.out.less (b' := w.heap.size) (by omega), HFb.out⟩
end Go.Proofs.YtcinjckajnnhmaaGreat
set_option linter.unusedSimpArgs false
set_option linter.unusedVariables false
namespace Go.Proofs.YtcinjckajnnhmaaGreat
open Go.RowKit Go.WideShapes Go.ChangeShapes
attribute [local go_sem] Oper.semAt_some
theorem blk16 {w : World} {g : Nat} {t : TypeId} {v0 v1 v2 v3 v4 v5 v6 v7 v8 v9 v10 v11 v12 v13 v14 v15 : Value} (h : Blk w g t #[v0, v1, v2, v3, v4, v5, v6, v7, v8, v9, v10, v11, v12, v13, v14, v15]) :
    w.cell? ⟨g, 0, none⟩ = some v0 ∧ w.cell? ⟨g, 1, none⟩ = some v1 ∧ w.cell? ⟨g, 2, none⟩ = some v2 ∧ w.cell? ⟨g, 3, none⟩ = some v3 ∧ w.cell? ⟨g, 4, none⟩ = some v4 ∧ w.cell? ⟨g, 5, none⟩ = some v5 ∧ w.cell? ⟨g, 6, none⟩ = some v6 ∧ w.cell? ⟨g, 7, none⟩ = some v7 ∧ w.cell? ⟨g, 8, none⟩ = some v8 ∧ w.cell? ⟨g, 9, none⟩ = some v9 ∧ w.cell? ⟨g, 10, none⟩ = some v10 ∧ w.cell? ⟨g, 11, none⟩ = some v11 ∧ w.cell? ⟨g, 12, none⟩ = some v12 ∧ w.cell? ⟨g, 13, none⟩ = some v13 ∧ w.cell? ⟨g, 14, none⟩ = some v14 ∧ w.cell? ⟨g, 15, none⟩ = some v15 :=
  ⟨h.cell 0, h.cell 1, h.cell 2, h.cell 3, h.cell 4, h.cell 5, h.cell 6, h.cell 7, h.cell 8, h.cell 9, h.cell 10, h.cell 11, h.cell 12, h.cell 13, h.cell 14, h.cell 15⟩
abbrev rtC (pa pl h o : Int) (A : Option Addr) (n c : Nat) (hp md pf aa ai : Int) (B : Option Addr) (m d : Nat) (rp ra ri : Int) (inn loc : Bool) : Array Value :=
  #[.int .u32 pa, .int .i64 pl, .int .i64 h, .int .i64 o, .slice A n c, .int .u32 hp, .int .u32 md, .int .u32 pf, .int .u32 aa, .int .u32 ai, .slice B m d, .int .u32 rp, .int .u32 ra, .int .u32 ri, .bool inn, .bool loc]
end Go.Proofs.YtcinjckajnnhmaaGreat
set_option linter.unusedSimpArgs false
set_option linter.unusedVariables false
namespace Go.Proofs.YtcinjckajnnhmaaGreat
open Go.RowKit Go.WideShapes Go.ChangeShapes
attribute [local go_sem] Oper.semAt_some
/-- A route, its attributes wherever they lie. -/
structure RT where
  pa : Int
  pl : Int
  at_ : AT
  A : Option Addr
  n : Nat
  c : Nat
  B : Option Addr
  m : Nat
  d : Nat
  rp : Int
  ra : Int
  ri : Int
  inn : Bool
  loc : Bool
abbrev rtV (r : RT) : Array Value := rtC r.pa r.pl r.at_.has r.at_.org r.A r.n r.c r.at_.hop r.at_.med r.at_.pref r.at_.aas r.at_.aid r.B r.m r.d r.rp r.ra r.ri r.inn r.loc
theorem blk_sets_far {g H : Nat} {t : TypeId} {cs : Array Value} (hne : g ≠ H) : ∀ (vs : List Value) (i : Nat) {w : World}, Blk w g t cs → Blk (w.setCells H i vs) g t cs
  | [], _, _, h => h
  | v :: vs, i, _, h => blk_sets_far hne vs (i + 1) (h.far (p := ⟨H, i, none⟩) hne v)
/-- What lies behind attributes at these addresses, from b on. -/
def PU (b : Nat) (w : World) (A : Option Addr) (n c : Nat) (B : Option Addr) (m d : Nat) (P : List SG) (C : List Nat) : Prop := (∃ xs, LOw 2 133 sgR w b b A n c P xs) ∧ FrB b none (fun w => U32s w B m d C) w
section
variable {b H : Nat} {w w' : World} {A : Option Addr} {n c : Nat} {B : Option Addr} {m d : Nat} {P : List SG} {C : List Nat}
theorem PU.below (h : PU b w A n c B m d P C) (hb : Below w.heap.size w w') : PU b w' A n c B m d P C := by
  obtain ⟨⟨xs, h1⟩, h2⟩ := h
  exact ⟨⟨xs, h1.below hb⟩, h2.below hb⟩
theorem PU.set_ {i : Nat} (h : PU b w A n c B m d P C) (hH : H < b) (v : Value) : PU b (w.setCell ⟨H, i, none⟩ v) A n c B m d P C := by
  obtain ⟨⟨xs, h1⟩, h2⟩ := h
  exact ⟨⟨xs, h1.set hH hH v⟩, h2.set (p := ⟨H, i, none⟩) hH v⟩
theorem PU.less {b' : Nat} (h : PU b w A n c B m d P C) (hl : b' ≤ b) : PU b' w A n c B m d P C := by
  obtain ⟨⟨xs, h1⟩, h2⟩ := h
  exact ⟨⟨xs, h1.less hl hl⟩, h2.less hl⟩
theorem PU.lst (h : PU b w A n c B m d P C) : LstAt 2 sgR w A n c P := by obtain ⟨⟨xs, h1⟩, h2⟩ := h; exact h1.lst (by decide)
theorem PU.u32 (h : PU b w A n c B m d P C) : U32s w B m d C := h.2.here
end
theorem PU.sets {b H : Nat} {A : Option Addr} {n c : Nat} {B : Option Addr} {m d : Nat} {P : List SG} {C : List Nat} : ∀ (vs : List Value) (i : Nat) {w : World}, PU b w A n c B m d P C → H < b → PU b (w.setCells H i vs) A n c B m d P C
  | [], _, _, h, _ => h
  | v :: vs, i, _, h, h1 => PU.sets vs (i + 1) (h.set_ h1 v) h1
end Go.Proofs.YtcinjckajnnhmaaGreat
set_option linter.unusedSimpArgs false
set_option linter.unusedVariables false
namespace Go.Proofs.YtcinjckajnnhmaaGreat
open Go.RowKit Go.WideShapes Go.ChangeShapes
attribute [local go_sem] Oper.semAt_some
theorem low_litF (Bq : Nat) (w : World) : LOw 2 133 sgR (w.alloc (.cells #[] 133)) w.heap.size Bq (some ⟨w.heap.size, 0, none⟩) 0 0 [] [] :=
  ⟨w.ownsRow_lit #[] 0 (Nat.le_refl _) (by unfold maxLen; omega) rfl, by simp, fun k x hk => by simp at hk⟩
end Go.Proofs.YtcinjckajnnhmaaGreat
set_option linter.unusedSimpArgs false
set_option linter.unusedVariables false
namespace Go.Proofs.YtcinjckajnnhmaaGreat
open Go.RowKit Go.WideShapes Go.ChangeShapes
attribute [local go_sem] Oper.semAt_some
set_option maxRecDepth 100000 in
theorem cloneE_seg (A : Option Addr) (c : Nat) (w : World) : Calls Tryz.prog 217 #[.slice A 0 c] w (SegP [] w) := by
  have hnil := fun w => Lib.run_eql_slice_nil (P := Tryz.prog) w
  cases A with
  | none =>
    go_enter Tryz.func217, Tryz.ntmps217
    go_wp2
    go_ret
    exact ⟨none, 0, 0, [], rfl, LOw.nil, Below.refl _ _⟩
  | some a =>
    have HB := hide ((Below.refl w.heap.size w).alloc (Nat.le_refl _) (.cells #[] 133))
    have HL := hide (low_litF w.heap.size w)
    go_enter Tryz.func217, Tryz.ntmps217
    go_wp2
    go_ret
    exact ⟨_, 0, 0, [], rfl, HL.out, HB.out⟩
abbrev clZ : Array Value := #[.int .i64 0, .bool false, .string ⟨#[]⟩, .string ⟨#[]⟩, .string ⟨#[]⟩, .bool false, .int .u32 0, .int .i64 0, .int .u32 0, .int .u32 0, .int .i64 0, .slice none 0 0, .int .u32 0, .int .i64 0]
theorem blk14 {w : World} {g : Nat} {t : TypeId} {v0 v1 v2 v3 v4 v5 v6 v7 v8 v9 v10 v11 v12 v13 : Value} (h : Blk w g t #[v0, v1, v2, v3, v4, v5, v6, v7, v8, v9, v10, v11, v12, v13]) :
    w.cell? ⟨g, 0, none⟩ = some v0 ∧ w.cell? ⟨g, 1, none⟩ = some v1 ∧ w.cell? ⟨g, 2, none⟩ = some v2 ∧ w.cell? ⟨g, 3, none⟩ = some v3 ∧ w.cell? ⟨g, 4, none⟩ = some v4 ∧ w.cell? ⟨g, 5, none⟩ = some v5 ∧ w.cell? ⟨g, 6, none⟩ = some v6 ∧ w.cell? ⟨g, 7, none⟩ = some v7 ∧ w.cell? ⟨g, 8, none⟩ = some v8 ∧ w.cell? ⟨g, 9, none⟩ = some v9 ∧ w.cell? ⟨g, 10, none⟩ = some v10 ∧ w.cell? ⟨g, 11, none⟩ = some v11 ∧ w.cell? ⟨g, 12, none⟩ = some v12 ∧ w.cell? ⟨g, 13, none⟩ = some v13 :=
  ⟨h.cell 0, h.cell 1, h.cell 2, h.cell 3, h.cell 4, h.cell 5, h.cell 6, h.cell 7, h.cell 8, h.cell 9, h.cell 10, h.cell 11, h.cell 12, h.cell 13⟩
set_option maxRecDepth 100000 in
set_option maxHeartbeats 8000000 in
theorem setZn_any (X : AT) (hp0 : X.path = []) (hc0 : X.comms = []) (v : Value) (w : World) (hv : AtR w X v) : Calls Tryz.prog 181 #[.agg clZ, v] w (AtP X w) := by
  obtain ⟨A, n, c, Bb, m, d, rfl, hP, hC⟩ := hv
  obtain rfl : n = 0 := by rw [← hP.1, hp0]; rfl
  obtain rfl : m = 0 := by rw [← hC.1, hc0]; rfl
  rw [hc0] at hC
  obtain ⟨w1, hw1⟩ : ∃ w1, (((w.alloc (.cells clZ 216)).alloc (.cells (bxC X (.slice A 0 c) (.slice Bb 0 d)) 28)).alloc (.cells zeroC 28)) = w1 := ⟨_, rfl⟩
  have hb1 : Below w.heap.size w w1 := hw1 ▸ (((Below.refl _ w).alloc (Nat.le_refl _) _).alloc (by simp) _).alloc (by simp; omega) _
  have HCl : Hid (Blk w1 w.heap.size 216 clZ) := hide (hw1 ▸ ((Blk.new w _ _).alloc _).alloc _)
  have HKb : Hid (Blk w1 (w.heap.size + 1) 28 (bxC X (.slice A 0 c) (.slice Bb 0 d))) := hide (hw1 ▸ (blk_new' _ _ (by simp)).alloc _)
  have HKz : Hid (Blk w1 ((w.heap.size + 1) + 1) 28 zeroC) := hide (hw1 ▸ blk_new' _ _ (by simp))
  have HLt : Hid (w.heap.size + 1 < w1.heap.size) := hide HKb.out.lt
  have HC := hide hC
  have HB1 := hide hb1
  have HW1 := hide hw1
  have HCNb : Hid (∀ y ∈ ([] : List Nat), y < 4294967296) := hide (by simp)
  have HX : Hid (X = ⟨X.has, X.org, [], X.hop, X.med, X.pref, X.aas, X.aid, []⟩) := hide (by obtain ⟨h, o, pl, hp, md, pf, aa, ai, cl⟩ := X; simp only at hp0 hc0; subst hp0 hc0; rfl)
  clear hw1 hb1 hP hC hp0 hc0
  go_enter Tryz.func181, Tryz.ntmps181
  go_upto_region 1 with fail
  rw [HW1.out]
  refine wp_region_relH 10 (w.heap.size + 1) (Nat.le_of_lt HLt.out) [(fun v _ => v = .pointer (some ⟨w.heap.size + 1, 2, none⟩)), (fun v _ => v = .slice A 0 c), (SlA w1.heap.size []), (fun v _ => v = .pointer (some ⟨w.heap.size + 1, 8, none⟩)), (fun v _ => v = .slice Bb 0 d), (SlB w1.heap.size []), (fun v _ => v = .pointer (some ⟨w.heap.size + 1, 2, none⟩)), (fun _ W => StA (w.heap.size + 1) w1.heap.size X [] W ), (fun v _ => v = .pointer (some ⟨w.heap.size + 1, 8, none⟩)), (fun _ W => StB (w.heap.size + 1) w1.heap.size X [] W )] (fun i W => BxA (w.heap.size + 1) X W ∧ (i = 1 → W.cell? ⟨w.heap.size + 1, 2, none⟩ = some (.slice A 0 c)) ∧ (i = 4 → W.cell? ⟨w.heap.size + 1, 8, none⟩ = some (.slice Bb 0 d))) (fun i Wa Wb => if i = 7 then ∃ v, Wb = Wa.setCell ⟨w.heap.size + 1, 2, none⟩ v else if i = 9 then ∃ v, Wb = Wa.setCell ⟨w.heap.size + 1, 8, none⟩ v else Below Wa.heap.size Wa Wb) (by kernel_rfl) (by kernel_rfl) (by kernel_rfl) (by kernel_rfl) (by kernel_rfl) ?hE ?hR ?hP ?h0 ⟨?_, ?_, ?_, ?_, ?_, ?_, ?_, ?_, ?_, ?_, trivial⟩ ?_
  case hE =>
    intro i2 wa wb hB he
    split at he
    · obtain ⟨u, rfl⟩ := he
      exact (Below.refl (w.heap.size + 1) wa).setCell (p := ⟨w.heap.size + 1, 2, none⟩) (Nat.le_refl _) u
    · split at he
      · obtain ⟨u, rfl⟩ := he
        exact (Below.refl (w.heap.size + 1) wa).setCell (p := ⟨w.heap.size + 1, 8, none⟩) (Nat.le_refl _) u
      · exact he.mono hB
  case hR =>
    intro i2 j2 v2 wa wb hij hB he h
    split at he
    · rename_i hj2
      subst hj2
      refine keepAll_at (E := fun wa wb => ∃ v, wb = wa.setCell ⟨w.heap.size + 1, 2, none⟩ v) (x := 7) (k := 0) ?_ (by omega) he h
      exact ⟨fun _ v wa wb he h => h, fun _ v wa wb he h => h, fun _ v wa wb he h => by obtain ⟨u, rfl⟩ := he; exact SlA.setv h HLt.out, fun _ v wa wb he h => h, fun _ v wa wb he h => h, fun _ v wa wb he h => by obtain ⟨u, rfl⟩ := he; exact SlB.setv h HLt.out, fun _ v wa wb he h => h, fun hn => absurd rfl hn, fun _ v wa wb he h => h, fun _ v wa wb he h => by obtain ⟨u, rfl⟩ := he; exact StB.set2 h HLt.out, trivial⟩
    · split at he
      · rename_i hj2
        subst hj2
        refine keepAll_at (E := fun wa wb => ∃ v, wb = wa.setCell ⟨w.heap.size + 1, 8, none⟩ v) (x := 9) (k := 0) ?_ (by omega) he h
        exact ⟨fun _ v wa wb he h => h, fun _ v wa wb he h => h, fun _ v wa wb he h => by obtain ⟨u, rfl⟩ := he; exact SlA.setv h HLt.out, fun _ v wa wb he h => h, fun _ v wa wb he h => h, fun _ v wa wb he h => by obtain ⟨u, rfl⟩ := he; exact SlB.setv h HLt.out, fun _ v wa wb he h => h, fun _ v wa wb he h => by obtain ⟨u, rfl⟩ := he; exact StA.set8 h HLt.out, fun _ v wa wb he h => h, fun hn => absurd rfl hn, trivial⟩
      · refine relMono _ ?_ i2 v2 wa wb he h
        exact ⟨fun _ _ _ _ h => h, fun _ _ _ _ h => h, fun v w2 w3 hb h => SlA.below h hb, fun _ _ _ _ h => h, fun _ _ _ _ h => h, fun v w2 w3 hb h => SlB.below h hb, fun _ _ _ _ h => h, fun v w1 w2 hb h => StA.below h hb, fun _ _ _ _ h => h, fun v w1 w2 hb h => StB.below h hb, trivial⟩
  case hP =>
    intro i2 j2 wa wb hij hnb hB he h
    split at he
    · rename_i hj2
      subst hj2
      obtain ⟨u, rfl⟩ := he
      refine ⟨h.1.set2 u, fun e => ?_, fun e => (cell_set_ne (by decide)).trans (h.2.2 e)⟩
      subst e
      exact absurd hnb (by decide +kernel)
    · split at he
      · rename_i hj2
        subst hj2
        obtain ⟨u, rfl⟩ := he
        refine ⟨h.1.set8 u, fun e => (cell_set_ne (by decide)).trans (h.2.1 e), fun e => ?_⟩
        subst e
        exact absurd hnb (by decide +kernel)
      · exact ⟨h.1.below he, fun e => (he.cell h.1.lt_).trans (h.2.1 e), fun e => (he.cell h.1.lt_).trans (h.2.2 e)⟩
  case h0 =>
    intro j2 hj2
    exact ⟨⟨_, _, HKb.out.drew, HKz.out.drew⟩, fun _ => HKb.out.cell 2, fun _ => HKb.out.cell 8⟩
  · refine relG_plain rfl rfl (fun _ _ h => h) ?_
    intro Ac w5 hp
    have hb := hp.bel
    have a3 : Ac.eval (.tmp 3) = .pointer (some ⟨w.heap.size + 1, 0, none⟩) := hp.out 3 (by rfl)
    have hc := evalC Ac; have hf := evalF Ac; have hgl := evalG Ac
    obtain ⟨ρ, hρ⟩ : ∃ ρ, Ac.eval = ρ := ⟨_, rfl⟩
    rw [hρ] at a3 hc hf hgl
    exact relPure hρ (.pointer (some ⟨w.heap.size + 1, 2, none⟩)) (by simp [go_sem, hc, hf, hgl, ↓IntWalk.iteOmega, a3, *]) rfl
  · refine relG_plain rfl rfl (fun _ _ h => h) ?_
    intro Ac w5 hp
    have hb := hp.bel
    have a6 : Ac.eval (.tmp 6) = .pointer (some ⟨w.heap.size + 1, 2, none⟩) := hp.dep 0 (by kernel_rfl)
    have z2 := hp.pre.2.1 rfl
    have hc := evalC Ac; have hf := evalF Ac; have hgl := evalG Ac
    obtain ⟨ρ, hρ⟩ : ∃ ρ, Ac.eval = ρ := ⟨_, rfl⟩
    rw [hρ] at a6 hc hf hgl
    exact relPure hρ (.slice A 0 c) (by simp [go_sem, hc, hf, hgl, ↓IntWalk.iteOmega, a6, *]) rfl
  · refine relG_plain rfl rfl (fun _ _ h => h) ?_
    intro Ac w5 hp
    have hb := hp.bel
    have a7 : Ac.eval (.tmp 7) = .slice A 0 c := hp.dep 1 (by kernel_rfl)
    have hc := evalC Ac; have hf := evalF Ac; have hgl := evalG Ac
    obtain ⟨ρ, hρ⟩ : ∃ ρ, Ac.eval = ρ := ⟨_, rfl⟩
    rw [hρ] at a7 hc hf hgl
    refine relCall hρ 217 #[.slice A 0 c] (by simp [go_sem, hc, hf, hgl, ↓IntWalk.iteOmega, a7, *]) ?_
    refine (cloneE_seg A c w5).mono ?_
    intro e w6 hmv
    unfold SegP at hmv
    obtain ⟨A6, n6, c6, xs6, rfl, hl6, hb6⟩ := hmv
    exact ⟨_, rfl, ⟨A6, n6, c6, xs6, rfl, hl6.less hp.bel.size hp.bel.size⟩, hb6⟩
  · refine relG_plain rfl rfl (fun _ _ h => h) ?_
    intro Ac w5 hp
    have hb := hp.bel
    have a3 : Ac.eval (.tmp 3) = .pointer (some ⟨w.heap.size + 1, 0, none⟩) := hp.out 3 (by rfl)
    have hc := evalC Ac; have hf := evalF Ac; have hgl := evalG Ac
    obtain ⟨ρ, hρ⟩ : ∃ ρ, Ac.eval = ρ := ⟨_, rfl⟩
    rw [hρ] at a3 hc hf hgl
    exact relPure hρ (.pointer (some ⟨w.heap.size + 1, 8, none⟩)) (by simp [go_sem, hc, hf, hgl, ↓IntWalk.iteOmega, a3, *]) rfl
  · refine relG_plain rfl rfl (fun _ _ h => h) ?_
    intro Ac w5 hp
    have hb := hp.bel
    have a9 : Ac.eval (.tmp 9) = .pointer (some ⟨w.heap.size + 1, 8, none⟩) := hp.dep 3 (by kernel_rfl)
    have z8 := hp.pre.2.2 rfl
    have hc := evalC Ac; have hf := evalF Ac; have hgl := evalG Ac
    obtain ⟨ρ, hρ⟩ : ∃ ρ, Ac.eval = ρ := ⟨_, rfl⟩
    rw [hρ] at a9 hc hf hgl
    exact relPure hρ (.slice Bb 0 d) (by simp [go_sem, hc, hf, hgl, ↓IntWalk.iteOmega, a9, *]) rfl
  · refine relG_plain rfl rfl (fun _ _ h => h) ?_
    intro Ac w5 hp
    have hb := hp.bel
    have a10 : Ac.eval (.tmp 10) = .slice Bb 0 d := hp.dep 4 (by kernel_rfl)
    have hc := evalC Ac; have hf := evalF Ac; have hgl := evalG Ac
    obtain ⟨ρ, hρ⟩ : ∃ ρ, Ac.eval = ρ := ⟨_, rfl⟩
    rw [hρ] at a10 hc hf hgl
    refine relCall hρ 128 #[.slice Bb 0 d] (by simp [go_sem, hc, hf, hgl, ↓IntWalk.iteOmega, a10, *]) ?_
    refine (cloneAll_any Bb 0 d [] w5 (HC.out.below (HB1.out.trans (hp.bel.mono (Nat.le_succ _)))) (by omega)).mono ?_
    rintro e w6 ⟨v6, rfl, ho6, hb6⟩
    obtain ⟨A6, c6, rfl⟩ := own_slice ho6
    exact ⟨_, rfl, ⟨A6, _, c6, rfl, own_u32_fr ho6 HCNb.out hp.bel.size (fun k hk => by cases hk)⟩, hb6⟩
  · refine relG_plain rfl rfl (fun _ _ h => h) ?_
    intro Ac w5 hp
    have hb := hp.bel
    have a3 : Ac.eval (.tmp 3) = .pointer (some ⟨w.heap.size + 1, 0, none⟩) := hp.out 3 (by rfl)
    have hc := evalC Ac; have hf := evalF Ac; have hgl := evalG Ac
    obtain ⟨ρ, hρ⟩ : ∃ ρ, Ac.eval = ρ := ⟨_, rfl⟩
    rw [hρ] at a3 hc hf hgl
    exact relPure hρ (.pointer (some ⟨w.heap.size + 1, 2, none⟩)) (by simp [go_sem, hc, hf, hgl, ↓IntWalk.iteOmega, a3, *]) rfl
  · refine relG_store rfl ?_
    intro Ac w5 hp
    have hb := hp.bel
    have a12 : Ac.eval (.tmp 12) = .pointer (some ⟨w.heap.size + 1, 2, none⟩) := hp.dep 6 (by kernel_rfl)
    obtain ⟨A5, n5, c5, xs5, a8, hl5⟩ := hp.dep 2 (by kernel_rfl)
    change Ac.eval (.tmp 8) = _ at a8
    have a12 : Ac.eval (.tmp 12) = .pointer (some ⟨w.heap.size + 1, 2, none⟩) := hp.dep 6 (by kernel_rfl)
    obtain ⟨A5, n5, c5, xs5, ec, hl5⟩ := hp.dep 2 (by kernel_rfl)
    change Ac.eval (.tmp 8) = _ at ec
    obtain ⟨x2, x8, hk, hz⟩ := hp.pre.1
    have HK := hide hk
    have HZ := hide (hz.far (p := ⟨w.heap.size + 1, 2, none⟩) (by show (w.heap.size + 1) + 1 ≠ w.heap.size + 1; omega) (.slice A5 n5 c5))
    have HL := hide hl5
    clear hp
    refine ⟨w5.setCell ⟨w.heap.size + 1, 2, none⟩ (.slice A5 n5 c5), .inl (exec_store rfl a12 ec (st1A HK.out rfl)), ?_, ⟨_, rfl⟩⟩
    exact ⟨_, x8, HK.out.set_ 2 _, HZ.out, ⟨A5, n5, c5, xs5, rfl, HL.out.set HLt.out HLt.out _⟩⟩
  · refine relG_plain rfl rfl (fun _ _ h => h) ?_
    intro Ac w5 hp
    have hb := hp.bel
    have a3 : Ac.eval (.tmp 3) = .pointer (some ⟨w.heap.size + 1, 0, none⟩) := hp.out 3 (by rfl)
    have hc := evalC Ac; have hf := evalF Ac; have hgl := evalG Ac
    obtain ⟨ρ, hρ⟩ : ∃ ρ, Ac.eval = ρ := ⟨_, rfl⟩
    rw [hρ] at a3 hc hf hgl
    exact relPure hρ (.pointer (some ⟨w.heap.size + 1, 8, none⟩)) (by simp [go_sem, hc, hf, hgl, ↓IntWalk.iteOmega, a3, *]) rfl
  · refine relG_store rfl ?_
    intro Ac w5 hp
    have hb := hp.bel
    have a13 : Ac.eval (.tmp 13) = .pointer (some ⟨w.heap.size + 1, 8, none⟩) := hp.dep 8 (by kernel_rfl)
    obtain ⟨A8, n8, c8, a11, hu8⟩ := hp.dep 5 (by kernel_rfl)
    change Ac.eval (.tmp 11) = _ at a11
    have a13 : Ac.eval (.tmp 13) = .pointer (some ⟨w.heap.size + 1, 8, none⟩) := hp.dep 8 (by kernel_rfl)
    obtain ⟨A8, n8, c8, ec, hu8⟩ := hp.dep 5 (by kernel_rfl)
    change Ac.eval (.tmp 11) = _ at ec
    obtain ⟨x2, x8, hk, hz⟩ := hp.pre.1
    have HK := hide hk
    have HZ := hide (hz.far (p := ⟨w.heap.size + 1, 8, none⟩) (by show (w.heap.size + 1) + 1 ≠ w.heap.size + 1; omega) (.slice A8 n8 c8))
    have HL := hide hu8
    clear hp
    refine ⟨w5.setCell ⟨w.heap.size + 1, 8, none⟩ (.slice A8 n8 c8), .inl (exec_store rfl a13 ec (st1B HK.out rfl)), ?_, ⟨_, rfl⟩⟩
    exact ⟨x2, _, HK.out.set_ 8 _, HZ.out, ⟨A8, n8, c8, rfl, HL.out.set (p := ⟨w.heap.size + 1, 8, none⟩) HLt.out _⟩⟩
  intro u w7 hb7 hall
  have efin : StA (w.heap.size + 1) w1.heap.size X [] w7  := relAll_at hall (i := 7) (by decide +kernel)
  have efin1 : StB (w.heap.size + 1) w1.heap.size X [] w7  := relAll_at hall (i := 9) (by decide +kernel)
  clear hall
  simp only [List.drop_succ_cons, List.drop_zero, List.take_succ_cons, List.take_zero, putAll, Act.put, List.setIfInBounds_toArray, List.set_cons_zero, List.set_cons_succ, Nat.zero_add, Nat.reduceAdd, ]
  obtain ⟨A8, n8, c8, xs8, B8, m8, d8, hk, hz, hl, hu⟩ := st_both efin efin1
  obtain rfl : n8 = 0 := by rw [← (hl.lst (by decide)).1]; rfl
  have HK := hide hk
  have HZ := hide hz
  have HCl := hide (HCl.out.below hb7 (Nat.lt_succ_self _))
  have HB7 := hide (HB1.out.trans (hb7.mono (Nat.le_succ _)))
  have HO := hide (show AtO w1.heap.size w7 ⟨X.has, X.org, [], X.hop, X.med, X.pref, X.aas, X.aid, []⟩ (atV X.has X.org A8 0 c8 X.hop X.med X.pref X.aas X.aid B8 m8 d8) from ⟨A8, 0, c8, xs8, B8, m8, d8, rfl, hl, hu⟩)
  rw [← HX.out] at HO
  clear efin efin1 hk hz hl hu hb7
  have a2 := HK.out.cell 2
  go_wp2
  clear a2
  go_loopw [17] (fun iv wr => iv = .int .i64 0 ∧ wr = w7) (fun _ _ => 0)
  case atStart => exact ⟨rfl, rfl⟩
  case round =>
    obtain ⟨rfl, rfl⟩ := hrel
    obtain ⟨c0, c1, c2, c3, c4, c5, c6, c7, c8_, c9, c10, c11, c12, c13⟩ := blk14 HCl.out
    go_wp2_with fail
    refine (doesZ1 _).mono ?_
    rintro e x0 ⟨rfl, hb⟩
    have HCl := hide (HCl.out.below hb HCl.out.lt)
    have HK := hide (HK.out.below hb HK.out.lt)
    have HZ := hide (HZ.out.below hb HZ.out.lt)
    have HO := hide (HO.out.below hb)
    have HB7 := hide (HB7.out.trans (hb.mono HB7.out.size))
    clear hb c0 c1 c2 c3 c4 c5 c6 c7 c8_ c9 c10 c11 c12 c13
    obtain ⟨c0, c1, c2, c3, c4, c5, c6, c7, c8_, c9, c10, c11, c12, c13⟩ := blk14 HCl.out
    go_wp2_with fail
    refine (doesZ2 _).mono ?_
    rintro e x1 ⟨rfl, hb⟩
    have HCl := hide (HCl.out.below hb HCl.out.lt)
    have HK := hide (HK.out.below hb HK.out.lt)
    have HZ := hide (HZ.out.below hb HZ.out.lt)
    have HO := hide (HO.out.below hb)
    have HB7 := hide (HB7.out.trans (hb.mono HB7.out.size))
    clear hb c0 c1 c2 c3 c4 c5 c6 c7 c8_ c9 c10 c11 c12 c13
    obtain ⟨c0, c1, c2, c3, c4, c5, c6, c7, c8_, c9, c10, c11, c12, c13⟩ := blk14 HCl.out
    go_wp2_with fail
    refine (doesZ4 _).mono ?_
    rintro e x2 ⟨rfl, hb⟩
    have HCl := hide (HCl.out.below hb HCl.out.lt)
    have HK := hide (HK.out.below hb HK.out.lt)
    have HZ := hide (HZ.out.below hb HZ.out.lt)
    have HO := hide (HO.out.below hb)
    have HB7 := hide (HB7.out.trans (hb.mono HB7.out.size))
    clear hb c0 c1 c2 c3 c4 c5 c6 c7 c8_ c9 c10 c11 c12 c13
    obtain ⟨c0, c1, c2, c3, c4, c5, c6, c7, c8_, c9, c10, c11, c12, c13⟩ := blk14 HCl.out
    go_wp2_with fail
    refine (doesZ56 _).mono ?_
    rintro e x3 ⟨rfl, hb⟩
    have HCl := hide (HCl.out.below hb HCl.out.lt)
    have HK := hide (HK.out.below hb HK.out.lt)
    have HZ := hide (HZ.out.below hb HZ.out.lt)
    have HO := hide (HO.out.below hb)
    have HB7 := hide (HB7.out.trans (hb.mono HB7.out.size))
    clear hb c0 c1 c2 c3 c4 c5 c6 c7 c8_ c9 c10 c11 c12 c13
    obtain ⟨c0, c1, c2, c3, c4, c5, c6, c7, c8_, c9, c10, c11, c12, c13⟩ := blk14 HCl.out
    go_wp2_with fail
    refine (doesZ64 _).mono ?_
    rintro e x4 ⟨rfl, hb⟩
    have HCl := hide (HCl.out.below hb HCl.out.lt)
    have HK := hide (HK.out.below hb HK.out.lt)
    have HZ := hide (HZ.out.below hb HZ.out.lt)
    have HO := hide (HO.out.below hb)
    have HB7 := hide (HB7.out.trans (hb.mono HB7.out.size))
    clear hb c0 c1 c2 c3 c4 c5 c6 c7 c8_ c9 c10 c11 c12 c13
    obtain ⟨a0, a1, a2, a3, a4, a5, a6, a7, a8⟩ := blk9 HK.out
    obtain ⟨z0, z1, z2, z3, z4, z5, z6, z7, z8⟩ := blk9 HZ.out
    have zf := fun i => HZ.out.frozen i
    have hlt : w.heap.size + 1 + 1 < w1.heap.size := HKz.out.lt
    go_wp2
    change bodyPost _ _ _ _ _ (x4.setCells (w.heap.size + 1 + 1) 0 [.int .i64 X.has, .int .i64 X.org, .slice A8 0 c8, .int .u32 X.hop, .int .u32 X.med, .int .u32 X.pref, .int .u32 X.aas, .int .u32 X.aid, .slice B8 m8 d8])
    obtain ⟨wF, hwF⟩ : ∃ x, x4.setCells (w.heap.size + 1 + 1) 0 [.int .i64 X.has, .int .i64 X.org, .slice A8 0 c8, .int .u32 X.hop, .int .u32 X.med, .int .u32 X.pref, .int .u32 X.aas, .int .u32 X.aid, .slice B8 m8 d8] = x := ⟨_, rfl⟩
    have HFk := hide (hwF ▸ blk9_set HZ.out : Blk wF (w.heap.size + 1 + 1) 28 (atC X.has X.org A8 0 c8 X.hop X.med X.pref X.aas X.aid B8 m8 d8))
    have HFo := hide (hwF ▸ AtO.sets _ 0 HO.out hlt : AtO w1.heap.size wF X (atV X.has X.org A8 0 c8 X.hop X.med X.pref X.aas X.aid B8 m8 d8))
    have HFb := hide (hwF ▸ below_sets _ 0 HB7.out (by omega) : Below w.heap.size w wF)
    rw [hwF]
    clear hwF z0 z1 z2 z3 z4 z5 z6 z7 z8 zf a0 a1 a2 a3 a4 a5 a6 a7 a8
    obtain ⟨z0, z1, z2, z3, z4, z5, z6, z7, z8⟩ := blk9 HFk.out
    exact bodyPost_ret (v := atV X.has X.org A8 0 c8 X.hop X.med X.pref X.aas X.aid B8 m8 d8) (by simp [results, Tryz.results181, go_sem, z0, z1, z2, z3, z4, z5, z6, z7, z8]) rfl ⟨_, rfl, HFo.out.less (b' := w.heap.size) (by omega), HFb.out⟩
end Go.Proofs.YtcinjckajnnhmaaGreat
set_option linter.unusedSimpArgs false
set_option linter.unusedVariables false
namespace Go.Proofs.YtcinjckajnnhmaaGreat
open Go.RowKit Go.WideShapes Go.ChangeShapes
attribute [local go_sem] Oper.semAt_some
def EvP (X : AT) (b : Bool) (w : World) (e : Ending) (w' : World) : Prop := ∃ v, e = .returned (.tuple #[v, .bool b]) ∧ AtO w.heap.size w' X v ∧ Below w.heap.size w w'
abbrev liC (L1 L2 L3 L4 : Option Addr × Nat × Nat) : Array Value := #[.slice L1.1 L1.2.1 L1.2.2, .slice L2.1 L2.2.1 L2.2.2, .slice L3.1 L3.2.1 L3.2.2, .slice L4.1 L4.2.1 L4.2.2]
set_option maxRecDepth 100000 in
set_option maxHeartbeats 8000000 in
theorem evalE0_any (L1 L2 L3 L4 : Option Addr × Nat × Nat) (pa pl : Int) (X : AT) (hp0 : X.path = []) (hc0 : X.comms = []) (v : Value) (w : World) (hv : AtR w X v) :
    Calls Tryz.prog 133 #[.agg (liC L1 L2 L3 L4), .string ⟨#[]⟩, .agg #[.int .u32 pa, .int .i64 pl], v] w (EvP X true w) := by
  obtain ⟨A, n, c, B, m, d, rfl, hP, hC⟩ := hv
  obtain ⟨w0, hw0⟩ : ∃ w0, ((((w.alloc (.cells (liC L1 L2 L3 L4) 38)).alloc (.cells #[.int .u32 pa, .int .i64 pl] 24)).alloc (.cells (atC X.has X.org A n c X.hop X.med X.pref X.aas X.aid B m d) 28)).alloc (.cells zeroC 28)) = w0 := ⟨_, rfl⟩
  have hb0 : Below w.heap.size w w0 := hw0 ▸ ((((Below.refl _ w).alloc (Nat.le_refl _) _).alloc (by simp) _).alloc (by simp; omega) _).alloc (by simp; omega) _
  have HK : Hid (Blk w0 (w.heap.size + 1 + 1 + 1) 28 zeroC) := hide (hw0 ▸ blk_new' _ _ (by simp))
  have HN := hide (setZn_any X hp0 hc0 (atV X.has X.org A n c X.hop X.med X.pref X.aas X.aid B m d) w0 ⟨A, n, c, B, m, d, rfl, hP.below sgMono hb0, hC.below hb0⟩)
  have HB0 := hide hb0
  have HW0 := hide hw0
  clear hw0 hb0 hP hC hp0 hc0
  go_enter Tryz.func133, Tryz.ntmps133
  go_wp2_with fail
  rw [HW0.out]
  refine HN.out.mono ?_
  rintro e w1 ⟨v, rfl, ho, hb⟩
  obtain ⟨A1, n1, c1, xs1, B1, m1, d1, rfl, hl, hu⟩ := ho
  have hlt : w.heap.size + 1 + 1 + 1 < w0.heap.size := HK.out.lt
  have HK1 := hide (HK.out.below hb hlt)
  have HB1 := hide (HB0.out.trans (hb.mono HB0.out.size))
  have HO := hide (show AtO w0.heap.size w1 X (atV X.has X.org A1 n1 c1 X.hop X.med X.pref X.aas X.aid B1 m1 d1) from ⟨A1, n1, c1, xs1, B1, m1, d1, rfl, hl, hu⟩)
  obtain ⟨z0, z1, z2, z3, z4, z5, z6, z7, z8⟩ := blk9 HK1.out
  have zf := fun i => HK1.out.frozen i
  clear hl hu hb
  go_wp2
  change bodyPost _ _ _ _ _ (w1.setCells (w.heap.size + 1 + 1 + 1) 0 [.int .i64 X.has, .int .i64 X.org, .slice A1 n1 c1, .int .u32 X.hop, .int .u32 X.med, .int .u32 X.pref, .int .u32 X.aas, .int .u32 X.aid, .slice B1 m1 d1])
  obtain ⟨wF, hwF⟩ : ∃ x, w1.setCells (w.heap.size + 1 + 1 + 1) 0 [.int .i64 X.has, .int .i64 X.org, .slice A1 n1 c1, .int .u32 X.hop, .int .u32 X.med, .int .u32 X.pref, .int .u32 X.aas, .int .u32 X.aid, .slice B1 m1 d1] = x := ⟨_, rfl⟩
  have HFk := hide (hwF ▸ blk9_set HK1.out : Blk wF (w.heap.size + 1 + 1 + 1) 28 (atC X.has X.org A1 n1 c1 X.hop X.med X.pref X.aas X.aid B1 m1 d1))
  have HFo := hide (hwF ▸ AtO.sets _ 0 HO.out hlt : AtO w0.heap.size wF X (atV X.has X.org A1 n1 c1 X.hop X.med X.pref X.aas X.aid B1 m1 d1))
  have HFb := hide (hwF ▸ below_sets _ 0 HB1.out (by omega) : Below w.heap.size w wF)
  rw [hwF]
  clear hwF z0 z1 z2 z3 z4 z5 z6 z7 z8 zf
  obtain ⟨z0, z1, z2, z3, z4, z5, z6, z7, z8⟩ := blk9 HFk.out
  exact bodyPost_ret (v := .tuple #[atV X.has X.org A1 n1 c1 X.hop X.med X.pref X.aas X.aid B1 m1 d1, .bool true]) (by simp [results, Tryz.results133, go_sem, z0, z1, z2, z3, z4, z5, z6, z7, z8]) rfl ⟨_, rfl, HFo.out.less (b' := w.heap.size) (by omega), HFb.out⟩
end Go.Proofs.YtcinjckajnnhmaaGreat
set_option linter.unusedSimpArgs false
set_option linter.unusedVariables false
namespace Go.Proofs.YtcinjckajnnhmaaGreat
open Go.RowKit Go.WideShapes Go.ChangeShapes
attribute [local go_sem] Oper.semAt_some
abbrev zeroR : Array Value := rtC 0 0 0 0 none 0 0 0 0 0 0 0 none 0 0 0 0 0 false false
theorem blk16_set {w : World} {g : Nat} {t : TypeId} {u0 u1 u2 u3 u4 u5 u6 u7 u8 u9 u10 u11 u12 u13 u14 u15 v0 v1 v2 v3 v4 v5 v6 v7 v8 v9 v10 v11 v12 v13 v14 v15 : Value} (h : Blk w g t #[u0, u1, u2, u3, u4, u5, u6, u7, u8, u9, u10, u11, u12, u13, u14, u15]) :
    Blk (w.setCells g 0 [v0, v1, v2, v3, v4, v5, v6, v7, v8, v9, v10, v11, v12, v13, v14, v15]) g t #[v0, v1, v2, v3, v4, v5, v6, v7, v8, v9, v10, v11, v12, v13, v14, v15] :=
  blk_sets [v0, v1, v2, v3, v4, v5, v6, v7, v8, v9, v10, v11, v12, v13, v14, v15] [] [u0, u1, u2, u3, u4, u5, u6, u7, u8, u9, u10, u11, u12, u13, u14, u15] h rfl
theorem blkBelow2 (w : World) (a b : Obj) : Below w.heap.size w ((w.alloc a).alloc b) := ((Below.refl _ w).alloc (Nat.le_refl _) _).alloc (by simp) _
end Go.Proofs.YtcinjckajnnhmaaGreat
set_option linter.unusedSimpArgs false
set_option linter.unusedVariables false
namespace Go.Proofs.YtcinjckajnnhmaaGreat
open Go.RowKit Go.WideShapes Go.ChangeShapes
attribute [local go_sem] Oper.semAt_some
theorem fr_setsB {S : World → Prop} {B H : Nat} : ∀ (vs : List Value) (i : Nat) {w : World}, FrB B none S w → H < B → FrB B none S (w.setCells H i vs)
  | [], _, _, h, _ => h
  | v :: vs, i, w, h, hH => fr_setsB vs (i + 1) (h.set (p := ⟨H, i, none⟩) hH v) hH
-- REFN
end Go.Proofs.YtcinjckajnnhmaaGreat
set_option linter.unusedSimpArgs false
set_option linter.unusedVariables false
namespace Go.Proofs.YtcinjckajnnhmaaGreat
open Go.RowKit Go.WideShapes Go.ChangeShapes
attribute [local go_sem] Oper.semAt_some
theorem blk_setsM {g : Nat} {t : TypeId} (suf : List Value) : ∀ (vs pre old : List Value) {w : World}, Blk w g t (pre ++ (old ++ suf)).toArray → old.length = vs.length → Blk (w.setCells g pre.length vs) g t (pre ++ (vs ++ suf)).toArray
  | [], pre, old, w, h, hl => by
    obtain rfl := List.length_eq_zero_iff.1 hl
    exact h
  | v :: vs, pre, [], w, h, hl => by simp at hl
  | v :: vs, pre, x :: old, w, h, hl => by
    have h1 := h.set_ pre.length v
    rw [List.setIfInBounds_toArray, List.set_append_right _ _ (Nat.le_refl _), Nat.sub_self, List.cons_append, List.set_cons_zero] at h1
    have h2 : Blk (w.setCell ⟨g, pre.length, none⟩ v) g t ((pre ++ [v]) ++ (old ++ suf)).toArray := by rw [List.append_assoc]; exact h1
    have h3 := blk_setsM suf vs (pre ++ [v]) old h2 (by simpa using hl)
    rw [List.length_append, List.append_assoc] at h3
    exact h3
def RtR (w : World) (r : RT) : Prop := LstAt 2 sgR w r.A r.n r.c r.at_.path ∧ U32s w r.B r.m r.d r.at_.comms
theorem RtR.below {w w' : World} {r : RT} (h : RtR w r) (hb : Below w.heap.size w w') : RtR w' r := ⟨h.1.below sgMono hb, h.2.below hb⟩
def cutRT (r : RT) (A : Option Addr) (n c : Nat) (B : Option Addr) (m d : Nat) : RT := ⟨r.pa, r.pl, cutA r.at_, A, n, c, B, m, d, r.rp, r.ra, r.ri, r.inn, r.loc⟩
set_option maxRecDepth 100000 in
set_option maxHeartbeats 8000000 in
theorem lawOne_any (r : RT) (w : World) (hr : RtR w r) : Calls Tryz.prog 12 #[.agg (rtV r)] w fun e w' => ∃ A n c B m d, e = .returned (.agg (rtV (cutRT r A n c B m d))) ∧ PU w.heap.size w' A n c B m d (cutA r.at_).path (cutA r.at_).comms ∧ Below w.heap.size w w' := by
  obtain ⟨w1, hw1⟩ : ∃ w1, (w.alloc (.cells (rtV r) 30)).alloc (.cells zeroR 30) = w1 := ⟨_, rfl⟩
  have hb1 : Below w.heap.size w w1 := hw1 ▸ blkBelow2 w _ _
  have HK : Hid (Blk w1 w.heap.size 30 (rtV r)) := hide (hw1 ▸ (Blk.new w _ _).alloc _)
  have HZ : Hid (Blk w1 (w.heap.size + 1) 30 zeroR) := hide (hw1 ▸ blk_new' _ _ (by simp))
  have HFw := hide (attrsFew_any r.at_ (atV r.at_.has r.at_.org r.A r.n r.c r.at_.hop r.at_.med r.at_.pref r.at_.aas r.at_.aid r.B r.m r.d) w1 ⟨r.A, r.n, r.c, r.B, r.m, r.d, rfl, hr.1.below sgMono hb1, hr.2.below hb1⟩)
  have HB1 := hide hb1
  have HW1 := hide hw1
  clear hw1 hb1 hr
  obtain ⟨X, hX⟩ : ∃ X, cutA r.at_ = X := ⟨_, rfl⟩
  rw [hX] at HFw
  have HX := hide hX
  clear hX
  go_enter Tryz.func12, Tryz.ntmps12
  go_wp2_with fail
  rw [HW1.out]
  refine HFw.out.mono ?_
  rintro e w2 ⟨v, rfl, ho, hb⟩
  obtain ⟨A1, n1, c1, xs1, B1, m1, d1, rfl, hl, hu⟩ := ho
  have hlt : w.heap.size + 1 < w1.heap.size := HZ.out.lt
  have HK2 := hide (HK.out.below hb HK.out.lt)
  have HZ2 := hide (HZ.out.below hb HZ.out.lt)
  have HB2 := hide (HB1.out.trans (hb.mono HB1.out.size))
  have HL2 := hide hl
  have HU2 := hide hu
  clear hl hu hb
  obtain ⟨k0, k1, k2, k3, k4, k5, k6, k7, k8, k9, k10, k11, k12, k13, k14, k15⟩ := blk16 HK2.out
  have kf := fun i => HK2.out.frozen i
  go_upto_region 2 with fail
  change Code.wp _ _ _ _ (w2.setCells w.heap.size 2 [.int .i64 X.has, .int .i64 X.org, .slice A1 n1 c1, .int .u32 X.hop, .int .u32 X.med, .int .u32 X.pref, .int .u32 X.aas, .int .u32 X.aid, .slice B1 m1 d1])
  obtain ⟨w3, hw3⟩ : ∃ x, w2.setCells w.heap.size 2 [.int .i64 X.has, .int .i64 X.org, .slice A1 n1 c1, .int .u32 X.hop, .int .u32 X.med, .int .u32 X.pref, .int .u32 X.aas, .int .u32 X.aid, .slice B1 m1 d1] = x := ⟨_, rfl⟩
  have HK3 := hide (hw3 ▸ blk_setsM [.int .u32 r.rp, .int .u32 r.ra, .int .u32 r.ri, .bool r.inn, .bool r.loc] [.int .i64 X.has, .int .i64 X.org, .slice A1 n1 c1, .int .u32 X.hop, .int .u32 X.med, .int .u32 X.pref, .int .u32 X.aas, .int .u32 X.aid, .slice B1 m1 d1] [.int .u32 r.pa, .int .i64 r.pl] [.int .i64 r.at_.has, .int .i64 r.at_.org, .slice r.A r.n r.c, .int .u32 r.at_.hop, .int .u32 r.at_.med, .int .u32 r.at_.pref, .int .u32 r.at_.aas, .int .u32 r.at_.aid, .slice r.B r.m r.d] HK2.out rfl : Blk w3 w.heap.size 30 ([.int .u32 r.pa, .int .i64 r.pl, .int .i64 X.has, .int .i64 X.org, .slice A1 n1 c1, .int .u32 X.hop, .int .u32 X.med, .int .u32 X.pref, .int .u32 X.aas, .int .u32 X.aid, .slice B1 m1 d1, .int .u32 r.rp, .int .u32 r.ra, .int .u32 r.ri, .bool r.inn, .bool r.loc]).toArray)
  have HZ3 := hide (hw3 ▸ blk_sets_far (H := w.heap.size) (by omega) [.int .i64 X.has, .int .i64 X.org, .slice A1 n1 c1, .int .u32 X.hop, .int .u32 X.med, .int .u32 X.pref, .int .u32 X.aas, .int .u32 X.aid, .slice B1 m1 d1] 2 HZ2.out : Blk w3 (w.heap.size + 1) 30 zeroR)
  have HL3 := hide (hw3 ▸ low_sets [.int .i64 X.has, .int .i64 X.org, .slice A1 n1 c1, .int .u32 X.hop, .int .u32 X.med, .int .u32 X.pref, .int .u32 X.aas, .int .u32 X.aid, .slice B1 m1 d1] 2 HL2.out (by omega) (by omega) : LOw 2 133 sgR w3 w1.heap.size w1.heap.size A1 n1 c1 X.path xs1)
  have HU3 := hide (hw3 ▸ fr_setsB [.int .i64 X.has, .int .i64 X.org, .slice A1 n1 c1, .int .u32 X.hop, .int .u32 X.med, .int .u32 X.pref, .int .u32 X.aas, .int .u32 X.aid, .slice B1 m1 d1] 2 HU2.out (by omega) : FrB w1.heap.size none (fun w => U32s w B1 m1 d1 X.comms) w3)
  have HB3 := hide (hw3 ▸ below_sets [.int .i64 X.has, .int .i64 X.org, .slice A1 n1 c1, .int .u32 X.hop, .int .u32 X.med, .int .u32 X.pref, .int .u32 X.aas, .int .u32 X.aid, .slice B1 m1 d1] 2 HB2.out (Nat.le_refl _) : Below w.heap.size w w3)
  rw [hw3]
  clear hw3 k0 k1 k2 k3 k4 k5 k6 k7 k8 k9 k10 k11 k12 k13 k14 k15 kf HK2 HZ2 HL2 HU2
  obtain ⟨k0, k1, k2, k3, k4, k5, k6, k7, k8, k9, k10, k11, k12, k13, k14, k15⟩ := blk16 HK3.out
  obtain ⟨z0, z1, z2, z3, z4, z5, z6, z7, z8, z9, z10, z11, z12, z13, z14, z15⟩ := blk16 HZ3.out
  have zf := fun i => HZ3.out.frozen i
  go_wp2
  change bodyPost _ _ _ _ _ (w3.setCells (w.heap.size + 1) 0 [.int .u32 r.pa, .int .i64 r.pl, .int .i64 X.has, .int .i64 X.org, .slice A1 n1 c1, .int .u32 X.hop, .int .u32 X.med, .int .u32 X.pref, .int .u32 X.aas, .int .u32 X.aid, .slice B1 m1 d1, .int .u32 r.rp, .int .u32 r.ra, .int .u32 r.ri, .bool r.inn, .bool r.loc])
  obtain ⟨wF, hwF⟩ : ∃ x, w3.setCells (w.heap.size + 1) 0 [.int .u32 r.pa, .int .i64 r.pl, .int .i64 X.has, .int .i64 X.org, .slice A1 n1 c1, .int .u32 X.hop, .int .u32 X.med, .int .u32 X.pref, .int .u32 X.aas, .int .u32 X.aid, .slice B1 m1 d1, .int .u32 r.rp, .int .u32 r.ra, .int .u32 r.ri, .bool r.inn, .bool r.loc] = x := ⟨_, rfl⟩
  have HFk := hide (hwF ▸ blk16_set HZ3.out : Blk wF (w.heap.size + 1) 30 ([.int .u32 r.pa, .int .i64 r.pl, .int .i64 X.has, .int .i64 X.org, .slice A1 n1 c1, .int .u32 X.hop, .int .u32 X.med, .int .u32 X.pref, .int .u32 X.aas, .int .u32 X.aid, .slice B1 m1 d1, .int .u32 r.rp, .int .u32 r.ra, .int .u32 r.ri, .bool r.inn, .bool r.loc]).toArray)
  have HFl := hide (hwF ▸ low_sets [.int .u32 r.pa, .int .i64 r.pl, .int .i64 X.has, .int .i64 X.org, .slice A1 n1 c1, .int .u32 X.hop, .int .u32 X.med, .int .u32 X.pref, .int .u32 X.aas, .int .u32 X.aid, .slice B1 m1 d1, .int .u32 r.rp, .int .u32 r.ra, .int .u32 r.ri, .bool r.inn, .bool r.loc] 0 HL3.out (by omega) (by omega) : LOw 2 133 sgR wF w1.heap.size w1.heap.size A1 n1 c1 X.path xs1)
  have HFu := hide (hwF ▸ fr_setsB [.int .u32 r.pa, .int .i64 r.pl, .int .i64 X.has, .int .i64 X.org, .slice A1 n1 c1, .int .u32 X.hop, .int .u32 X.med, .int .u32 X.pref, .int .u32 X.aas, .int .u32 X.aid, .slice B1 m1 d1, .int .u32 r.rp, .int .u32 r.ra, .int .u32 r.ri, .bool r.inn, .bool r.loc] 0 HU3.out (by omega) : FrB w1.heap.size none (fun w => U32s w B1 m1 d1 X.comms) wF)
  have HFb := hide (hwF ▸ below_sets [.int .u32 r.pa, .int .i64 r.pl, .int .i64 X.has, .int .i64 X.org, .slice A1 n1 c1, .int .u32 X.hop, .int .u32 X.med, .int .u32 X.pref, .int .u32 X.aas, .int .u32 X.aid, .slice B1 m1 d1, .int .u32 r.rp, .int .u32 r.ra, .int .u32 r.ri, .bool r.inn, .bool r.loc] 0 HB3.out (by omega) : Below w.heap.size w wF)
  rw [hwF]
  clear hwF z0 z1 z2 z3 z4 z5 z6 z7 z8 z9 z10 z11 z12 z13 z14 z15 zf k0 k1 k2 k3 k4 k5 k6 k7 k8 k9 k10 k11 k12 k13 k14 k15
  obtain ⟨z0, z1, z2, z3, z4, z5, z6, z7, z8, z9, z10, z11, z12, z13, z14, z15⟩ := blk16 HFk.out
  refine bodyPost_ret (v := .agg ([.int .u32 r.pa, .int .i64 r.pl, .int .i64 X.has, .int .i64 X.org, .slice A1 n1 c1, .int .u32 X.hop, .int .u32 X.med, .int .u32 X.pref, .int .u32 X.aas, .int .u32 X.aid, .slice B1 m1 d1, .int .u32 r.rp, .int .u32 r.ra, .int .u32 r.ri, .bool r.inn, .bool r.loc]).toArray) (by simp [results, Tryz.results12, go_sem, z0, z1, z2, z3, z4, z5, z6, z7, z8, z9, z10, z11, z12, z13, z14, z15]) rfl ⟨A1, n1, c1, B1, m1, d1, ?_, ?_, HFb.out⟩
  · unfold cutRT
    rw [HX.out]
  · rw [HX.out]
    exact (show PU w1.heap.size wF A1 n1 c1 B1 m1 d1 X.path X.comms from ⟨⟨xs1, HFl.out⟩, HFu.out⟩).less (by omega)
end Go.Proofs.YtcinjckajnnhmaaGreat
set_option linter.unusedSimpArgs false
set_option linter.unusedVariables false
namespace Go.Proofs.YtcinjckajnnhmaaGreat
open Go.RowKit Go.WideShapes Go.ChangeShapes
attribute [local go_sem] Oper.semAt_some
set_option maxRecDepth 100000 in
theorem side_any (a n b m : Nat) (hb : b < 4294967296) (hn : n ≤ 31) (w : World) : Calls Tryz.prog 186 #[.agg #[.int .u32 (a : Int), .int .i64 (n : Int)], .agg #[.int .u32 (b : Int), .int .i64 (m : Int)]] w fun e w' => e = .returned (.int .i64 ((bitN b n : Nat) : Int)) ∧ Below w.heap.size w w' := by
  have HB := hide (blkBelow2 w (.cells #[.int .u32 (a : Int), .int .i64 (n : Int)] 24) (.cells #[.int .u32 (b : Int), .int .i64 (m : Int)] 24))
  obtain ⟨k0, k1, k2, k3⟩ := boxes w (.int .u32 (a : Int)) (.int .i64 (n : Int)) (.int .u32 (b : Int)) (.int .i64 (m : Int)) 24 24
  have HBi := hide (fun W => bit_in b n hb hn W)
  clear k0 k1 k2 k3
  go_enter Tryz.func186, Tryz.ntmps186
  go_wp2_with fail
  refine (HBi.out _).mono ?_
  rintro e w1 ⟨rfl, rfl⟩
  go_wp2
  go_ret
  exact ⟨rfl, HB.out⟩
theorem covB_pg {a n b m : Nat} (ha : PG a n) (hb : PG b m) : covB a (n : Int) b (m : Int) = decide (CvN a n b m) := by
  have h1 := ha.2.1
  have h2 := hb.2.1
  have h3 := ha.2.2
  have h4 := hb.2.2
  unfold covB hasB goodB
  simp only [Int.toNat_natCast, h3, h4, BEq.rfl, Bool.and_true]
  rw [Bool.eq_iff_iff]
  simp only [Bool.and_eq_true, decide_eq_true_eq, beq_iff_eq]
  unfold CvN
  constructor
  · rintro ⟨⟨h5, h6⟩, h7, h8⟩
    exact ⟨by omega, h8⟩
  · rintro ⟨h5, h6⟩
    exact ⟨⟨⟨by omega, by omega⟩, by omega⟩, ⟨by omega, by omega⟩, h6⟩
theorem cov_pg {a n b m : Nat} (ha : PG a n) (hb : PG b m) (w : World) : Calls Tryz.prog 185 #[.agg #[.int .u32 (a : Int), .int .i64 (n : Int)], .agg #[.int .u32 (b : Int), .int .i64 (m : Int)]] w (GoodP (decide (CvN a n b m)) w) := by
  rw [← covB_pg ha hb]
  exact Covers_any a n b m ha.1 hb.1 (by omega) (by have := ha.2.1; omega) (by omega) (by have := hb.2.1; omega) w
theorem good_pg {a n : Nat} (h : PG a n) : goodB a (n : Int) = true := by
  have h1 := h.2.1
  have h2 := h.2.2
  unfold goodB
  simp only [Int.toNat_natCast, h2, BEq.rfl, Bool.and_true, Bool.and_eq_true, decide_eq_true_eq]
  omega
theorem blkBelow3q (w : World) (o1 o2 o3 : Obj) : Below w.heap.size w (((w.alloc o1).alloc o2).alloc o3) := (blkBelow2 w o1 o2).alloc (by simp; omega) _
end Go.Proofs.YtcinjckajnnhmaaGreat
set_option linter.unusedSimpArgs false
set_option linter.unusedVariables false
namespace Go.Proofs.YtcinjckajnnhmaaGreat
open Go.RowKit Go.WideShapes Go.ChangeShapes
attribute [local go_sem] Oper.semAt_some
/-- The node of a prefix. -/
def trFind {α : Type} (c k : Nat) : Tr α → Tr α
  | .nil => .nil
  | .nd b a n v l r => if CvN a n c k then (if a = c ∧ n = k then .nd b a n v l r else if bitN c n = 0 then trFind c k l else trFind c k r) else .nil
/-- How far down a node stands: for a measure. -/
def trDown (a : Act) (w : World) : Nat := match a.tmps.getD 5 undef with
  | .pointer (some p) => 33 - cellNat w ⟨p.block, 1, none⟩
  | _ => 0
def trRank {α : Type} : Tr α → Nat
  | .nil => 0
  | .nd _ _ n _ _ _ => 33 - n
theorem trRank_in {α : Type} {a n i : Nat} {t : Tr α} (h : trIn a n i t) (hn : n ≤ 32) : trRank t < 33 - n := by
  cases t with
  | nil => show 0 < 33 - n; omega
  | nd b p m v l r => have := h.1; show 33 - m < 33 - n; omega
/-- A scope in whose midst the label stands that its jumps go to: one walk of what lies behind the label serves the first time and every jump. -/
theorem wp_scope_mid {P : Program} {Q : Exit → Act → World → Prop} {a : Act} {w : World} {c X : Code} (l : Nat) (J : Act → World → Prop) (μ : Act → World → Nat) (hf : findLabel c l = some (.seq .skip X))
    (first : (∀ a w, J a w → X.wp P (Exit.jump l J Q) a w) → c.wp P (Exit.jump l J Q) a w) (pass : ∀ a w, J a w → X.wp P (Exit.jump l (fun a' w' => J a' w' ∧ μ a' w' < μ a w) Q) a w) : (Code.scope c).wp P Q a w :=
  wp_scope_jumps l J μ hf (first fun a w h => wp_mono (pass a w h) fun e a w h => by cases e <;> first | exact h | exact ⟨h.1, h.2.1⟩) (fun a w h => wp_seq (wp_skip (pass a w h)))
theorem blkBelow1 (w : World) (o1 : Obj) : Below w.heap.size w (w.alloc o1) := (Below.refl _ w).alloc (Nat.le_refl _) _
end Go.Proofs.YtcinjckajnnhmaaGreat
set_option linter.unusedSimpArgs false
set_option linter.unusedVariables false
namespace Go.Proofs.YtcinjckajnnhmaaGreat
open Go.RowKit Go.WideShapes Go.ChangeShapes
attribute [local go_sem] Oper.semAt_some
theorem pg8 : PG 167772160 8 := ⟨by decide, by decide, by decide⟩
end Go.Proofs.YtcinjckajnnhmaaGreat
set_option linter.unusedSimpArgs false
set_option linter.unusedVariables false
namespace Go.Proofs.YtcinjckajnnhmaaGreat
open Go.RowKit Go.WideShapes Go.ChangeShapes
attribute [local go_sem] Oper.semAt_some
theorem lenB {l : List Value} (h0 : VOk 1 l) : ∃ v0, l = [v0] := by
  have h := h0.1
  clear h0
  obtain _ | ⟨v0, l⟩ := l
  · simp at h
  obtain _ | ⟨x, l⟩ := l
  · exact ⟨_, rfl⟩
  · simp at h
set_option maxRecDepth 100000 in
theorem countB_any {α : Type} {F : Nat → Prop} {R : World → List Value → α → Prop} (t : Tr α) (w : World) (h : TrW 1 249 F R w t) : Calls Tryz.prog 137 #[trPtr t] w fun e w' => e = .returned (.int .i64 (trCnt t : Int)) ∧ w' = w := by
  cases t with
  | nil =>
    show Calls Tryz.prog 137 #[.pointer none] w _
    go_enter Tryz.func137, Tryz.ntmps137
    go_wp2
    go_ret
    exact ⟨rfl, rfl⟩
  | nd b a n v l r =>
    obtain ⟨⟨vs, hv, hk, _⟩, _, _⟩ := h
    obtain ⟨v0, rfl⟩ := lenB hv
    show Calls Tryz.prog 137 #[.pointer (some ⟨b, 0, none⟩)] w _
    have z : w.cell? ⟨b, 4, none⟩ = some (.int .i64 ((trCnt l + trCnt r + (if v.isSome then 1 else 0) : Nat) : Int)) := hk.cell 4
    have HR : Hid (trCnt (.nd b a n v l r) = trCnt l + trCnt r + (if v.isSome then 1 else 0)) := hide rfl
    obtain ⟨c, hc⟩ : ∃ c, trCnt l + trCnt r + (if v.isSome then 1 else 0) = c := ⟨_, rfl⟩
    rw [hc] at z HR
    clear hk hc
    go_enter Tryz.func137, Tryz.ntmps137
    go_wp2
    go_ret
    exact ⟨by rw [HR.out]; rfl, rfl⟩
theorem trDownB {α : Type} {F : Nat → Prop} {R : World → List Value → α → Prop} {w : World} {s : Tr α} {a : Act} (h : TrW 1 249 F R w s) (e : a.tmps.getD 5 undef = trPtr s) : trDown a w = trRank s := by
  cases s with
  | nil => unfold trDown; rw [e]; rfl
  | nd b c n v l r =>
    obtain ⟨⟨vs, hv, hk, _⟩, _, _⟩ := h
    unfold trDown
    rw [e]
    have hz : w.cell? ⟨b, 1, none⟩ = some (.int .i64 (n : Int)) := hk.cell 1
    show 33 - cellNat w ⟨b, 1, none⟩ = 33 - n
    rw [cellNat_of hz]
def FindJB {α : Type} (F : Nat → Prop) (R : World → List Value → α → Prop) (g c k : Nat) (t : Tr α) (w : World) (a' : Act) (w' : World) : Prop := ∃ (s : Tr α) (xb : Nat) (l : List Value), a' = ⟨(.pointer (some ⟨g, 0, none⟩) :: .agg #[.int .u32 (c : Int), .int .i64 (k : Int)] :: undef :: .pointer (some ⟨xb, 0, none⟩) :: .pointer none :: trPtr s :: l).toArray, []⟩ ∧ l.length = 40 ∧
  TrW 1 249 F R w' s ∧ trWf s ∧ trFind c k s = trFind c k t ∧ Blk w' xb 24 #[.int .u32 (c : Int), .int .i64 (k : Int)] ∧ Below w.heap.size w w'
set_option maxRecDepth 100000 in
set_option maxHeartbeats 8000000 in
theorem findB_any {α : Type} {F : Nat → Prop} {R : World → List Value → α → Prop} (g c k : Nat) (t : Tr α) (w : World) (hc : PG c k) (hg : Blk w g 192 #[trPtr t]) (h : TrW 1 249 F R w t) (hw : trWf t) :
    Calls Tryz.prog 209 #[.pointer (some ⟨g, 0, none⟩), .agg #[.int .u32 (c : Int), .int .i64 (k : Int)]] w fun e w' => e = .returned (trPtr (trFind c k t)) ∧ Below w.heap.size w w' := by
  have HGd := hide (Good_any c (k : Int) hc.1 (by omega) (by have := hc.2.1; omega))
  rw [good_pg hc] at HGd
  unfold pfx at HGd
  obtain ⟨w0, hw0⟩ : ∃ w0, w.alloc (.cells #[.int .u32 (c : Int), .int .i64 (k : Int)] 24) = w0 := ⟨_, rfl⟩
  have hb0 : Below w.heap.size w w0 := hw0 ▸ blkBelow1 w _
  have HX0 : Hid (Blk w0 w.heap.size 24 #[.int .u32 (c : Int), .int .i64 (k : Int)]) := hide (hw0 ▸ Blk.new w _ _)
  have HB0 := hide hb0
  have HG := hide hg
  have HT := hide h
  have HWf := hide hw
  have HPc := hide hc
  have HW0 := hide hw0
  clear hw0 hb0 hg h hw hc
  go_enter Tryz.func209, Tryz.ntmps209
  have x0 : w0.cell? ⟨w.heap.size, 0, none⟩ = some (.int .u32 (c : Int)) := HX0.out.cell 0
  have x1 : w0.cell? ⟨w.heap.size, 1, none⟩ = some (.int .i64 (k : Int)) := HX0.out.cell 1
  go_wp2
  rw [HW0.out]
  refine wp_scope_mid 0 (FindJB F R g c k t w) trDown rfl ?_ ?_
  · intro HPass
    go_wp2_with fail
    refine (HGd.out _).mono ?_
    rintro e w1 ⟨rfl, hb1⟩
    have HB1 := hide (HB0.out.trans (hb1.mono HB0.out.size))
    have HX1 := hide (HX0.out.below hb1 HX0.out.lt)
    have z : w1.cell? ⟨g, 0, none⟩ = some (trPtr t) := (HG.out.below HB1.out HG.out.lt).cell 0
    clear hb1 x0 x1
    go_wp2
    go_step3
    rename_i hK
    refine hK _ _ (HPass _ _ ?_)
    refine ⟨t, w.heap.size, _, rfl, rfl, ?_⟩
    exact ⟨HT.out.chg (S := fun _ => False) (chg_below HB1.out) (by simp) (by simp), HWf.out, rfl, HX1.out, HB1.out⟩
  rintro a1 w2 ⟨s, xb, l0, rfl, hl0, hs, hsw, hsf, hxb, hb2⟩
  obtain ⟨u, rfl⟩ := list_fn hl0
  clear hl0 x0 x1
  rw [show (List.range 40).map u = [u 0, u 1, u 2, u 3, u 4, u 5, u 6, u 7, u 8, u 9, u 10, u 11, u 12, u 13, u 14, u 15, u 16, u 17, u 18, u 19, u 20, u 21, u 22, u 23, u 24, u 25, u 26, u 27, u 28, u 29, u 30, u 31, u 32, u 33, u 34, u 35, u 36, u 37, u 38, u 39] from rfl]
  have HX := hide hxb
  have HB2 := hide hb2
  have HSf := hide hsf
  clear hxb hb2 hsf HX0 HG HT HWf HGd
  cases s with
  | nil =>
    have e0 : trPtr (.nil : Tr α) = .pointer none := rfl
    rw [e0]
    have HR : Hid (trPtr (trFind c k t) = .pointer none) := hide (by rw [← HSf.out]; rfl)
    clear e0 hs hsw
    go_upto_region 4 with fail
    go_quiet (fail)
    go_wp2
    simp only [Exit.jump]
    go_ret
    exact ⟨by rw [HR.out]; rfl, below_drewN HB2.out _⟩
  | nd b a n v l r =>
    have e0 : trPtr (.nd b a n v l r) = .pointer (some ⟨b, 0, none⟩) := rfl
    rw [e0]
    clear e0
    obtain ⟨⟨vs, hv, hk, hval⟩, hl, hr⟩ := hs
    obtain ⟨v0, rfl⟩ := lenB hv
    obtain ⟨hga, hil, hir, hwl, hwr⟩ := hsw
    have HN := hide hk
    have HN0 := hide hk
    have HL := hide hl
    have HRr := hide hr
    have HGa := hide hga
    have HIl := hide hil
    have HIr := hide hir
    have HWl := hide hwl
    have HWr := hide hwr
    have HCv := hide (fun W => cov_pg hga HPc.out W)
    clear hk hl hr hga hil hir hwl hwr hv hval
    by_cases hcv : CvN a n c k
    · rw [decide_eq_true hcv] at HCv
      have HCvP := hide hcv
      clear hcv
      go_upto_region 4 with fail
      have Hmn := hide (show AllMono [(fun v _ => v = .pointer (some ⟨b, 0, none⟩)), (fun v _ => v = .bool false), (fun v _ => v = .bool false), (fun v _ => v = .pointer (some ⟨b, 0, none⟩)), (fun v _ => v = .pointer (some ⟨b, 0, none⟩)), (fun v _ => v = .pointer (some ⟨b, 0, none⟩)), (fun v _ => v = .agg #[.int .u32 (a : Int), .int .i64 (n : Int)]), (fun v _ => v = .agg #[.int .u32 (c : Int), .int .i64 (k : Int)]), (fun v _ => v = .bool true), (fun v _ => v = .bool false), (fun v _ => v = .bool false)] from ⟨fun _ _ _ _ h => h, fun _ _ _ _ h => h, fun _ _ _ _ h => h, fun _ _ _ _ h => h, fun _ _ _ _ h => h, fun _ _ _ _ h => h, fun _ _ _ _ h => h, fun _ _ _ _ h => h, fun _ _ _ _ h => h, fun _ _ _ _ h => h, fun _ _ _ _ h => h, trivial⟩)
      refine wp_region_rel _ (by kernel_rfl) (by kernel_rfl) (relMono _ Hmn.out) ⟨?_, ?_, ?_, ?_, ?_, ?_, ?_, ?_, ?_, ?_, ?_, trivial⟩ ?_
      · refine relStep_plain rfl ?_
        intro Ac w5 hp
        have hb := hp.bel
        have a5 : Ac.eval (.tmp 5) = .pointer (some ⟨b, 0, none⟩) := hp.out 5 (by rfl)
        have hc := evalC Ac; have hf := evalF Ac; have hgl := evalG Ac
        obtain ⟨ρ, hρ⟩ : ∃ ρ, Ac.eval = ρ := ⟨_, rfl⟩
        rw [hρ] at a5 hc hf hgl
        exact relPure hρ (.pointer (some ⟨b, 0, none⟩)) (by simp [go_sem, hc, hf, hgl, ↓IntWalk.iteOmega, a5, *]) rfl
      · refine relStep_plain rfl ?_
        intro Ac w5 hp
        have hb := hp.bel
        have a17 : Ac.eval (.tmp 17) = .pointer (some ⟨b, 0, none⟩) := hp.dep 0 (by kernel_rfl)
        have hc := evalC Ac; have hf := evalF Ac; have hgl := evalG Ac
        obtain ⟨ρ, hρ⟩ : ∃ ρ, Ac.eval = ρ := ⟨_, rfl⟩
        rw [hρ] at a17 hc hf hgl
        exact relPure hρ (.bool false) (by simp [go_sem, hc, hf, hgl, ↓IntWalk.iteOmega, a17, *]) rfl
      · refine relStep_plain rfl ?_
        intro Ac w5 hp
        have hb := hp.bel
        have a18 : Ac.eval (.tmp 18) = .bool false := hp.dep 1 (by kernel_rfl)
        have hc := evalC Ac; have hf := evalF Ac; have hgl := evalG Ac
        obtain ⟨ρ, hρ⟩ : ∃ ρ, Ac.eval = ρ := ⟨_, rfl⟩
        rw [hρ] at a18 hc hf hgl
        exact relPure hρ (.bool false) (by simp [go_sem, hc, hf, hgl, ↓IntWalk.iteOmega, a18, *]) rfl
      · refine relStep_guard (g := 2) (b := false) (x := false) rfl (by kernel_rfl) rfl (by kernel_rfl) rfl (fun _ _ h => h) ?_
        intro Ac w5 hp
        have hb := hp.bel
        have a5 : Ac.eval (.tmp 5) = .pointer (some ⟨b, 0, none⟩) := hp.out 5 (by rfl)
        have hc := evalC Ac; have hf := evalF Ac; have hgl := evalG Ac
        obtain ⟨ρ, hρ⟩ : ∃ ρ, Ac.eval = ρ := ⟨_, rfl⟩
        rw [hρ] at a5 hc hf hgl
        exact relPure hρ (.pointer (some ⟨b, 0, none⟩)) (by simp [go_sem, hc, hf, hgl, ↓IntWalk.iteOmega, a5, *]) rfl
      · refine relStep_guard (g := 2) (b := false) (x := false) rfl (by kernel_rfl) rfl (by kernel_rfl) rfl (fun _ _ h => h) ?_
        intro Ac w5 hp
        have hb := hp.bel
        have a20 : Ac.eval (.tmp 20) = .pointer (some ⟨b, 0, none⟩) := hp.dep 3 (by kernel_rfl)
        have hc := evalC Ac; have hf := evalF Ac; have hgl := evalG Ac
        obtain ⟨ρ, hρ⟩ : ∃ ρ, Ac.eval = ρ := ⟨_, rfl⟩
        rw [hρ] at a20 hc hf hgl
        exact relPure hρ (.pointer (some ⟨b, 0, none⟩)) (by simp [go_sem, hc, hf, hgl, ↓IntWalk.iteOmega, a20, *]) rfl
      · refine relStep_guard (g := 2) (b := false) (x := false) rfl (by kernel_rfl) rfl (by kernel_rfl) rfl (fun _ _ h => h) ?_
        intro Ac w5 hp
        have hb := hp.bel
        have a21 : Ac.eval (.tmp 21) = .pointer (some ⟨b, 0, none⟩) := hp.dep 4 (by kernel_rfl)
        have hc := evalC Ac; have hf := evalF Ac; have hgl := evalG Ac
        obtain ⟨ρ, hρ⟩ : ∃ ρ, Ac.eval = ρ := ⟨_, rfl⟩
        rw [hρ] at a21 hc hf hgl
        exact relPure hρ (.pointer (some ⟨b, 0, none⟩)) (by simp [go_sem, hc, hf, hgl, ↓IntWalk.iteOmega, a21, *]) rfl
      · refine relStep_guard (g := 2) (b := false) (x := false) rfl (by kernel_rfl) rfl (by kernel_rfl) rfl (fun _ _ h => h) ?_
        intro Ac w5 hp
        have hb := hp.bel
        have a22 : Ac.eval (.tmp 22) = .pointer (some ⟨b, 0, none⟩) := hp.dep 5 (by kernel_rfl)
        have hk5 := HN.out.below hb HN.out.lt
        have hx5 := HX.out.below hb HX.out.lt
        have y0 : w5.cell? ⟨b, 0, none⟩ = some (.int .u32 (a : Int)) := hk5.cell 0
        have y1 : w5.cell? ⟨b, 1, none⟩ = some (.int .i64 (n : Int)) := hk5.cell 1
        have x0 : w5.cell? ⟨xb, 0, none⟩ = some (.int .u32 (c : Int)) := hx5.cell 0
        have x1 : w5.cell? ⟨xb, 1, none⟩ = some (.int .i64 (k : Int)) := hx5.cell 1
        have hc := evalC Ac; have hf := evalF Ac; have hgl := evalG Ac
        obtain ⟨ρ, hρ⟩ : ∃ ρ, Ac.eval = ρ := ⟨_, rfl⟩
        rw [hρ] at a22 hc hf hgl
        exact relPure hρ (.agg #[.int .u32 (a : Int), .int .i64 (n : Int)]) (by simp [go_sem, hc, hf, hgl, ↓IntWalk.iteOmega, a22, *]) rfl
      · refine relStep_guard (g := 2) (b := false) (x := false) rfl (by kernel_rfl) rfl (by kernel_rfl) rfl (fun _ _ h => h) ?_
        intro Ac w5 hp
        have hb := hp.bel
        have a3 : Ac.eval (.tmp 3) = .pointer (some ⟨xb, 0, none⟩) := hp.out 3 (by rfl)
        have hk5 := HN.out.below hb HN.out.lt
        have hx5 := HX.out.below hb HX.out.lt
        have y0 : w5.cell? ⟨b, 0, none⟩ = some (.int .u32 (a : Int)) := hk5.cell 0
        have y1 : w5.cell? ⟨b, 1, none⟩ = some (.int .i64 (n : Int)) := hk5.cell 1
        have x0 : w5.cell? ⟨xb, 0, none⟩ = some (.int .u32 (c : Int)) := hx5.cell 0
        have x1 : w5.cell? ⟨xb, 1, none⟩ = some (.int .i64 (k : Int)) := hx5.cell 1
        have hc := evalC Ac; have hf := evalF Ac; have hgl := evalG Ac
        obtain ⟨ρ, hρ⟩ : ∃ ρ, Ac.eval = ρ := ⟨_, rfl⟩
        rw [hρ] at a3 hc hf hgl
        exact relPure hρ (.agg #[.int .u32 (c : Int), .int .i64 (k : Int)]) (by simp [go_sem, hc, hf, hgl, ↓IntWalk.iteOmega, a3, *]) rfl
      · refine relStep_guard (g := 2) (b := false) (x := false) rfl (by kernel_rfl) rfl (by kernel_rfl) rfl (fun _ _ h => h) ?_
        intro Ac w5 hp
        have hb := hp.bel
        have a23 : Ac.eval (.tmp 23) = .agg #[.int .u32 (a : Int), .int .i64 (n : Int)] := hp.dep 6 (by kernel_rfl)
        have a24 : Ac.eval (.tmp 24) = .agg #[.int .u32 (c : Int), .int .i64 (k : Int)] := hp.dep 7 (by kernel_rfl)
        have hc := evalC Ac; have hf := evalF Ac; have hgl := evalG Ac
        obtain ⟨ρ, hρ⟩ : ∃ ρ, Ac.eval = ρ := ⟨_, rfl⟩
        rw [hρ] at a23 a24 hc hf hgl
        refine relCall hρ 185 #[.agg #[.int .u32 (a : Int), .int .i64 (n : Int)], .agg #[.int .u32 (c : Int), .int .i64 (k : Int)]] (by simp [go_sem, hc, hf, hgl, ↓IntWalk.iteOmega, a23, a24, *]) ?_
        refine (HCv.out w5).mono ?_
        rintro e w6 ⟨rfl, hb6⟩
        exact ⟨_, rfl, rfl, hb6⟩
      · refine relStep_guard (g := 2) (b := false) (x := false) rfl (by kernel_rfl) rfl (by kernel_rfl) rfl (fun _ _ h => h) ?_
        intro Ac w5 hp
        have hb := hp.bel
        have a25 : Ac.eval (.tmp 25) = .bool true := hp.dep 8 (by kernel_rfl)
        have hc := evalC Ac; have hf := evalF Ac; have hgl := evalG Ac
        obtain ⟨ρ, hρ⟩ : ∃ ρ, Ac.eval = ρ := ⟨_, rfl⟩
        rw [hρ] at a25 hc hf hgl
        exact relPure hρ (.bool false) (by simp [go_sem, hc, hf, hgl, ↓IntWalk.iteOmega, a25, *]) rfl
      · refine relStep_plain rfl ?_
        intro Ac w5 hp
        have hb := hp.bel
        have a19 : Ac.eval (.tmp 19) = .bool false := hp.dep 2 (by kernel_rfl)
        have a26 : Ac.eval (.tmp 26) = .bool false := hp.dep 9 (by kernel_rfl)
        have hc := evalC Ac; have hf := evalF Ac; have hgl := evalG Ac
        obtain ⟨ρ, hρ⟩ : ∃ ρ, Ac.eval = ρ := ⟨_, rfl⟩
        rw [hρ] at a19 a26 hc hf hgl
        exact relPure hρ (.bool false) (by simp [go_sem, hc, hf, hgl, ↓IntWalk.iteOmega, a19, a26, *]) rfl
      intro u w7 hb7 hall
      have e27 : u 10 = .bool false := relAll_at hall (i := 10) (by decide +kernel)
      clear hall
      simp only [List.drop_succ_cons, List.drop_zero, List.take_succ_cons, List.take_zero, putAll, Act.put, List.setIfInBounds_toArray, List.set_cons_zero, List.set_cons_succ, Nat.zero_add, Nat.reduceAdd, e27]
      have HB7 := hide (HB2.out.trans (hb7.mono HB2.out.size))
      have HB27 := hide hb7
      have HX7 := hide (HX.out.below hb7 HX.out.lt)
      have HN7 := hide (HN.out.below hb7 HN.out.lt)
      clear hb7 HX HN
      have HN := hide HN7.out
      have HX := hide HX7.out
      clear HX7 HN7
      by_cases he : a = c ∧ n = k
      · obtain ⟨rfl, rfl⟩ := he
        have HR : Hid (trPtr (trFind a n t) = .pointer (some ⟨b, 0, none⟩)) := hide (by rw [← HSf.out, trFind, if_pos HCvP.out, if_pos ⟨rfl, rfl⟩]; rfl)
        go_upto_region 6 with fail
        have Hmn := hide (show AllMono [(fun v _ => v = .pointer (some ⟨b, 0, none⟩)), (fun v _ => v = .pointer (some ⟨b, 0, none⟩)), (fun v _ => v = .pointer (some ⟨b, 0, none⟩)), (fun v _ => v = .agg #[.int .u32 (a : Int), .int .i64 (n : Int)]), (fun v _ => v = .agg #[.int .u32 (a : Int), .int .i64 (n : Int)]), (fun v _ => v = .bool false)] from ⟨fun _ _ _ _ h => h, fun _ _ _ _ h => h, fun _ _ _ _ h => h, fun _ _ _ _ h => h, fun _ _ _ _ h => h, fun _ _ _ _ h => h, trivial⟩)
        refine wp_region_rel _ (by kernel_rfl) (by kernel_rfl) (relMono _ Hmn.out) ⟨?_, ?_, ?_, ?_, ?_, ?_, trivial⟩ ?_
        · refine relStep_plain rfl ?_
          intro Ac w5 hp
          have hb := hp.bel
          have a5 : Ac.eval (.tmp 5) = .pointer (some ⟨b, 0, none⟩) := hp.out 5 (by rfl)
          have hc := evalC Ac; have hf := evalF Ac; have hgl := evalG Ac
          obtain ⟨ρ, hρ⟩ : ∃ ρ, Ac.eval = ρ := ⟨_, rfl⟩
          rw [hρ] at a5 hc hf hgl
          exact relPure hρ (.pointer (some ⟨b, 0, none⟩)) (by simp [go_sem, hc, hf, hgl, ↓IntWalk.iteOmega, a5, *]) rfl
        · refine relStep_plain rfl ?_
          intro Ac w5 hp
          have hb := hp.bel
          have a28 : Ac.eval (.tmp 28) = .pointer (some ⟨b, 0, none⟩) := hp.dep 0 (by kernel_rfl)
          have hc := evalC Ac; have hf := evalF Ac; have hgl := evalG Ac
          obtain ⟨ρ, hρ⟩ : ∃ ρ, Ac.eval = ρ := ⟨_, rfl⟩
          rw [hρ] at a28 hc hf hgl
          exact relPure hρ (.pointer (some ⟨b, 0, none⟩)) (by simp [go_sem, hc, hf, hgl, ↓IntWalk.iteOmega, a28, *]) rfl
        · refine relStep_plain rfl ?_
          intro Ac w5 hp
          have hb := hp.bel
          have a29 : Ac.eval (.tmp 29) = .pointer (some ⟨b, 0, none⟩) := hp.dep 1 (by kernel_rfl)
          have hc := evalC Ac; have hf := evalF Ac; have hgl := evalG Ac
          obtain ⟨ρ, hρ⟩ : ∃ ρ, Ac.eval = ρ := ⟨_, rfl⟩
          rw [hρ] at a29 hc hf hgl
          exact relPure hρ (.pointer (some ⟨b, 0, none⟩)) (by simp [go_sem, hc, hf, hgl, ↓IntWalk.iteOmega, a29, *]) rfl
        · refine relStep_plain rfl ?_
          intro Ac w5 hp
          have hb := hp.bel
          have a30 : Ac.eval (.tmp 30) = .pointer (some ⟨b, 0, none⟩) := hp.dep 2 (by kernel_rfl)
          have hk5 := HN.out.below hb HN.out.lt
          have hx5 := HX.out.below hb HX.out.lt
          have y0 : w5.cell? ⟨b, 0, none⟩ = some (.int .u32 (a : Int)) := hk5.cell 0
          have y1 : w5.cell? ⟨b, 1, none⟩ = some (.int .i64 (n : Int)) := hk5.cell 1
          have x0 : w5.cell? ⟨xb, 0, none⟩ = some (.int .u32 (a : Int)) := hx5.cell 0
          have x1 : w5.cell? ⟨xb, 1, none⟩ = some (.int .i64 (n : Int)) := hx5.cell 1
          have hc := evalC Ac; have hf := evalF Ac; have hgl := evalG Ac
          obtain ⟨ρ, hρ⟩ : ∃ ρ, Ac.eval = ρ := ⟨_, rfl⟩
          rw [hρ] at a30 hc hf hgl
          exact relPure hρ (.agg #[.int .u32 (a : Int), .int .i64 (n : Int)]) (by simp [go_sem, hc, hf, hgl, ↓IntWalk.iteOmega, a30, *]) rfl
        · refine relStep_plain rfl ?_
          intro Ac w5 hp
          have hb := hp.bel
          have a3 : Ac.eval (.tmp 3) = .pointer (some ⟨xb, 0, none⟩) := hp.out 3 (by rfl)
          have hk5 := HN.out.below hb HN.out.lt
          have hx5 := HX.out.below hb HX.out.lt
          have y0 : w5.cell? ⟨b, 0, none⟩ = some (.int .u32 (a : Int)) := hk5.cell 0
          have y1 : w5.cell? ⟨b, 1, none⟩ = some (.int .i64 (n : Int)) := hk5.cell 1
          have x0 : w5.cell? ⟨xb, 0, none⟩ = some (.int .u32 (a : Int)) := hx5.cell 0
          have x1 : w5.cell? ⟨xb, 1, none⟩ = some (.int .i64 (n : Int)) := hx5.cell 1
          have hc := evalC Ac; have hf := evalF Ac; have hgl := evalG Ac
          obtain ⟨ρ, hρ⟩ : ∃ ρ, Ac.eval = ρ := ⟨_, rfl⟩
          rw [hρ] at a3 hc hf hgl
          exact relPure hρ (.agg #[.int .u32 (a : Int), .int .i64 (n : Int)]) (by simp [go_sem, hc, hf, hgl, ↓IntWalk.iteOmega, a3, *]) rfl
        · refine relStep_plain rfl ?_
          intro Ac w5 hp
          have hb := hp.bel
          have a31 : Ac.eval (.tmp 31) = .agg #[.int .u32 (a : Int), .int .i64 (n : Int)] := hp.dep 3 (by kernel_rfl)
          have a32 : Ac.eval (.tmp 32) = .agg #[.int .u32 (a : Int), .int .i64 (n : Int)] := hp.dep 4 (by kernel_rfl)
          have hc := evalC Ac; have hf := evalF Ac; have hgl := evalG Ac
          obtain ⟨ρ, hρ⟩ : ∃ ρ, Ac.eval = ρ := ⟨_, rfl⟩
          rw [hρ] at a31 a32 hc hf hgl
          exact relPure hρ (.bool false) (by simp [go_sem, hc, hf, hgl, ↓IntWalk.iteOmega, a31, a32, *]) rfl
        intro u w8 hb7 hall
        have e33 : u 5 = .bool false := relAll_at hall (i := 5) (by decide +kernel)
        clear hall
        simp only [List.drop_succ_cons, List.drop_zero, List.take_succ_cons, List.take_zero, putAll, Act.put, List.setIfInBounds_toArray, List.set_cons_zero, List.set_cons_succ, Nat.zero_add, Nat.reduceAdd, e33]
        have HB8 := hide (HB7.out.trans (hb7.mono HB7.out.size))
        clear hb7
        go_wp2
        simp only [Exit.jump]
        go_ret
        exact ⟨by rw [HR.out]; rfl, HB8.out⟩
      · have HNe := hide (show (a : Int) = (c : Int) → ¬ (n : Int) = (k : Int) from fun h1 h2 => he ⟨by omega, by omega⟩)
        have HE := hide he
        clear he
        have hlt : n < k := Nat.lt_of_le_of_ne HCvP.out.1 fun e => HE.out ⟨cvN_same HCvP.out HPc.out e, e⟩
        have hk32 := HPc.out.2.1
        have HSd := hide (fun W => side_any a n c k HPc.out.1 (by omega) W)
        have HRk := hide (show trDown ⟨(.pointer (some ⟨g, 0, none⟩) :: .agg #[.int .u32 (c : Int), .int .i64 (k : Int)] :: undef :: .pointer (some ⟨xb, 0, none⟩) :: .pointer none :: .pointer (some ⟨b, 0, none⟩) :: [u 0, u 1, u 2, u 3, u 4, u 5, u 6, u 7, u 8, u 9, u 10, u 11, u 12, u 13, u 14, u 15, u 16, u 17, u 18, u 19, u 20, u 21, u 22, u 23, u 24, u 25, u 26, u 27, u 28, u 29, u 30, u 31, u 32, u 33, u 34, u 35, u 36, u 37, u 38, u 39]).toArray, []⟩ w2 = 33 - n from congrArg (33 - ·) (cellNat_of (HN0.out.cell 1)))
        have HLt := hide hlt
        clear hlt hk32 HN0
        go_upto_region 6 with fail
        have Hmn := hide (show AllMono [(fun v _ => v = .pointer (some ⟨b, 0, none⟩)), (fun v _ => v = .pointer (some ⟨b, 0, none⟩)), (fun v _ => v = .pointer (some ⟨b, 0, none⟩)), (fun v _ => v = .agg #[.int .u32 (a : Int), .int .i64 (n : Int)]), (fun v _ => v = .agg #[.int .u32 (c : Int), .int .i64 (k : Int)]), (fun v _ => v = .bool true)] from ⟨fun _ _ _ _ h => h, fun _ _ _ _ h => h, fun _ _ _ _ h => h, fun _ _ _ _ h => h, fun _ _ _ _ h => h, fun _ _ _ _ h => h, trivial⟩)
        refine wp_region_rel _ (by kernel_rfl) (by kernel_rfl) (relMono _ Hmn.out) ⟨?_, ?_, ?_, ?_, ?_, ?_, trivial⟩ ?_
        · refine relStep_plain rfl ?_
          intro Ac w5 hp
          have hb := hp.bel
          have a5 : Ac.eval (.tmp 5) = .pointer (some ⟨b, 0, none⟩) := hp.out 5 (by rfl)
          have hc := evalC Ac; have hf := evalF Ac; have hgl := evalG Ac
          obtain ⟨ρ, hρ⟩ : ∃ ρ, Ac.eval = ρ := ⟨_, rfl⟩
          rw [hρ] at a5 hc hf hgl
          exact relPure hρ (.pointer (some ⟨b, 0, none⟩)) (by simp [go_sem, hc, hf, hgl, ↓IntWalk.iteOmega, a5, *]) rfl
        · refine relStep_plain rfl ?_
          intro Ac w5 hp
          have hb := hp.bel
          have a28 : Ac.eval (.tmp 28) = .pointer (some ⟨b, 0, none⟩) := hp.dep 0 (by kernel_rfl)
          have hc := evalC Ac; have hf := evalF Ac; have hgl := evalG Ac
          obtain ⟨ρ, hρ⟩ : ∃ ρ, Ac.eval = ρ := ⟨_, rfl⟩
          rw [hρ] at a28 hc hf hgl
          exact relPure hρ (.pointer (some ⟨b, 0, none⟩)) (by simp [go_sem, hc, hf, hgl, ↓IntWalk.iteOmega, a28, *]) rfl
        · refine relStep_plain rfl ?_
          intro Ac w5 hp
          have hb := hp.bel
          have a29 : Ac.eval (.tmp 29) = .pointer (some ⟨b, 0, none⟩) := hp.dep 1 (by kernel_rfl)
          have hc := evalC Ac; have hf := evalF Ac; have hgl := evalG Ac
          obtain ⟨ρ, hρ⟩ : ∃ ρ, Ac.eval = ρ := ⟨_, rfl⟩
          rw [hρ] at a29 hc hf hgl
          exact relPure hρ (.pointer (some ⟨b, 0, none⟩)) (by simp [go_sem, hc, hf, hgl, ↓IntWalk.iteOmega, a29, *]) rfl
        · refine relStep_plain rfl ?_
          intro Ac w5 hp
          have hb := hp.bel
          have a30 : Ac.eval (.tmp 30) = .pointer (some ⟨b, 0, none⟩) := hp.dep 2 (by kernel_rfl)
          have hk5 := HN.out.below hb HN.out.lt
          have hx5 := HX.out.below hb HX.out.lt
          have y0 : w5.cell? ⟨b, 0, none⟩ = some (.int .u32 (a : Int)) := hk5.cell 0
          have y1 : w5.cell? ⟨b, 1, none⟩ = some (.int .i64 (n : Int)) := hk5.cell 1
          have x0 : w5.cell? ⟨xb, 0, none⟩ = some (.int .u32 (c : Int)) := hx5.cell 0
          have x1 : w5.cell? ⟨xb, 1, none⟩ = some (.int .i64 (k : Int)) := hx5.cell 1
          have hc := evalC Ac; have hf := evalF Ac; have hgl := evalG Ac
          obtain ⟨ρ, hρ⟩ : ∃ ρ, Ac.eval = ρ := ⟨_, rfl⟩
          rw [hρ] at a30 hc hf hgl
          exact relPure hρ (.agg #[.int .u32 (a : Int), .int .i64 (n : Int)]) (by simp [go_sem, hc, hf, hgl, ↓IntWalk.iteOmega, a30, *]) rfl
        · refine relStep_plain rfl ?_
          intro Ac w5 hp
          have hb := hp.bel
          have a3 : Ac.eval (.tmp 3) = .pointer (some ⟨xb, 0, none⟩) := hp.out 3 (by rfl)
          have hk5 := HN.out.below hb HN.out.lt
          have hx5 := HX.out.below hb HX.out.lt
          have y0 : w5.cell? ⟨b, 0, none⟩ = some (.int .u32 (a : Int)) := hk5.cell 0
          have y1 : w5.cell? ⟨b, 1, none⟩ = some (.int .i64 (n : Int)) := hk5.cell 1
          have x0 : w5.cell? ⟨xb, 0, none⟩ = some (.int .u32 (c : Int)) := hx5.cell 0
          have x1 : w5.cell? ⟨xb, 1, none⟩ = some (.int .i64 (k : Int)) := hx5.cell 1
          have hc := evalC Ac; have hf := evalF Ac; have hgl := evalG Ac
          obtain ⟨ρ, hρ⟩ : ∃ ρ, Ac.eval = ρ := ⟨_, rfl⟩
          rw [hρ] at a3 hc hf hgl
          exact relPure hρ (.agg #[.int .u32 (c : Int), .int .i64 (k : Int)]) (by simp [go_sem, hc, hf, hgl, ↓IntWalk.iteOmega, a3, *]) rfl
        · refine relStep_plain rfl ?_
          intro Ac w5 hp
          have hb := hp.bel
          have a31 : Ac.eval (.tmp 31) = .agg #[.int .u32 (a : Int), .int .i64 (n : Int)] := hp.dep 3 (by kernel_rfl)
          have a32 : Ac.eval (.tmp 32) = .agg #[.int .u32 (c : Int), .int .i64 (k : Int)] := hp.dep 4 (by kernel_rfl)
          have hc := evalC Ac; have hf := evalF Ac; have hgl := evalG Ac
          obtain ⟨ρ, hρ⟩ : ∃ ρ, Ac.eval = ρ := ⟨_, rfl⟩
          rw [hρ] at a31 a32 hc hf hgl
          exact relPure hρ (.bool true) (by simp [go_sem, hc, hf, hgl, ↓IntWalk.iteOmega, a31, a32, *]; exact HNe.out) rfl
        intro u w8 hb7 hall
        have e33 : u 5 = .bool true := relAll_at hall (i := 5) (by decide +kernel)
        clear hall
        simp only [List.drop_succ_cons, List.drop_zero, List.take_succ_cons, List.take_zero, putAll, Act.put, List.setIfInBounds_toArray, List.set_cons_zero, List.set_cons_succ, Nat.zero_add, Nat.reduceAdd, e33]
        have HN8 := hide (HN.out.below hb7 HN.out.lt)
        have HX8 := hide (HX.out.below hb7 HX.out.lt)
        have HB28 := hide (HB27.out.trans (hb7.mono HB27.out.size))
        clear hb7 HN HX HB7 HB27
        have HN := hide HN8.out
        have HX := hide HX8.out
        clear HN8 HX8
        rcases bitN_01 c n with hbit | hbit
        all_goals
          have HBit := hide hbit
          clear hbit
          go_upto_region 7 with fail
        · skip
          have Hmn := hide (show AllMono [(fun v _ => v = .pointer (some ⟨b, 0, none⟩)), (fun v _ => v = .pointer (some ⟨b, 0, none⟩)), (fun v _ => v = .pointer (some ⟨b, 0, none⟩)), (fun v _ => v = .pointer (some ⟨b, 0, none⟩)), (fun v _ => v = .agg #[.int .u32 (a : Int), .int .i64 (n : Int)]), (fun v _ => v = .agg #[.int .u32 (c : Int), .int .i64 (k : Int)]), (fun v _ => v = .int .i64 0), (fun v _ => v = .pointer (some ⟨b, 0, none⟩)), (fun v _ => v = .pointer (some ⟨b, 5, none⟩)), (fun v _ => v = .pointer (some ⟨b, 5, none⟩)), (fun v _ => v = trPtr l)] from ⟨fun _ _ _ _ h => h, fun _ _ _ _ h => h, fun _ _ _ _ h => h, fun _ _ _ _ h => h, fun _ _ _ _ h => h, fun _ _ _ _ h => h, fun _ _ _ _ h => h, fun _ _ _ _ h => h, fun _ _ _ _ h => h, fun _ _ _ _ h => h, fun _ _ _ _ h => h, trivial⟩)
          refine wp_region_relT 11 _ (by kernel_rfl) (by kernel_rfl) (by kernel_rfl) (by kernel_rfl) (by kernel_rfl) (relMono _ Hmn.out) ⟨?_, ?_, ?_, ?_, ?_, ?_, ?_, ?_, ?_, ?_, ?_, trivial⟩ ?_
          · refine relStep_plain rfl ?_
            intro Ac w5 hp
            have hb := hp.bel
            have a5 : Ac.eval (.tmp 5) = .pointer (some ⟨b, 0, none⟩) := hp.out 5 (by rfl)
            have hc := evalC Ac; have hf := evalF Ac; have hgl := evalG Ac
            obtain ⟨ρ, hρ⟩ : ∃ ρ, Ac.eval = ρ := ⟨_, rfl⟩
            rw [hρ] at a5 hc hf hgl
            exact relPure hρ (.pointer (some ⟨b, 0, none⟩)) (by simp [go_sem, hc, hf, hgl, ↓IntWalk.iteOmega, a5, *]) rfl
          · refine relStep_plain rfl ?_
            intro Ac w5 hp
            have hb := hp.bel
            have a5 : Ac.eval (.tmp 5) = .pointer (some ⟨b, 0, none⟩) := hp.out 5 (by rfl)
            have hc := evalC Ac; have hf := evalF Ac; have hgl := evalG Ac
            obtain ⟨ρ, hρ⟩ : ∃ ρ, Ac.eval = ρ := ⟨_, rfl⟩
            rw [hρ] at a5 hc hf hgl
            exact relPure hρ (.pointer (some ⟨b, 0, none⟩)) (by simp [go_sem, hc, hf, hgl, ↓IntWalk.iteOmega, a5, *]) rfl
          · refine relStep_plain rfl ?_
            intro Ac w5 hp
            have hb := hp.bel
            have a35 : Ac.eval (.tmp 35) = .pointer (some ⟨b, 0, none⟩) := hp.dep 1 (by kernel_rfl)
            have hc := evalC Ac; have hf := evalF Ac; have hgl := evalG Ac
            obtain ⟨ρ, hρ⟩ : ∃ ρ, Ac.eval = ρ := ⟨_, rfl⟩
            rw [hρ] at a35 hc hf hgl
            exact relPure hρ (.pointer (some ⟨b, 0, none⟩)) (by simp [go_sem, hc, hf, hgl, ↓IntWalk.iteOmega, a35, *]) rfl
          · refine relStep_plain rfl ?_
            intro Ac w5 hp
            have hb := hp.bel
            have a36 : Ac.eval (.tmp 36) = .pointer (some ⟨b, 0, none⟩) := hp.dep 2 (by kernel_rfl)
            have hc := evalC Ac; have hf := evalF Ac; have hgl := evalG Ac
            obtain ⟨ρ, hρ⟩ : ∃ ρ, Ac.eval = ρ := ⟨_, rfl⟩
            rw [hρ] at a36 hc hf hgl
            exact relPure hρ (.pointer (some ⟨b, 0, none⟩)) (by simp [go_sem, hc, hf, hgl, ↓IntWalk.iteOmega, a36, *]) rfl
          · refine relStep_plain rfl ?_
            intro Ac w5 hp
            have hb := hp.bel
            have a37 : Ac.eval (.tmp 37) = .pointer (some ⟨b, 0, none⟩) := hp.dep 3 (by kernel_rfl)
            have hk5 := HN.out.below hb HN.out.lt
            have hx5 := HX.out.below hb HX.out.lt
            have y0 : w5.cell? ⟨b, 0, none⟩ = some (.int .u32 (a : Int)) := hk5.cell 0
            have y1 : w5.cell? ⟨b, 1, none⟩ = some (.int .i64 (n : Int)) := hk5.cell 1
            have y5 : w5.cell? ⟨b, 5, none⟩ = some (trPtr l) := hk5.cell 5
            have y6 : w5.cell? ⟨b, 6, none⟩ = some (trPtr r) := hk5.cell 6
            have x0 : w5.cell? ⟨xb, 0, none⟩ = some (.int .u32 (c : Int)) := hx5.cell 0
            have x1 : w5.cell? ⟨xb, 1, none⟩ = some (.int .i64 (k : Int)) := hx5.cell 1
            have hc := evalC Ac; have hf := evalF Ac; have hgl := evalG Ac
            obtain ⟨ρ, hρ⟩ : ∃ ρ, Ac.eval = ρ := ⟨_, rfl⟩
            rw [hρ] at a37 hc hf hgl
            exact relPure hρ (.agg #[.int .u32 (a : Int), .int .i64 (n : Int)]) (by simp [go_sem, hc, hf, hgl, ↓IntWalk.iteOmega, a37, *]) rfl
          · refine relStep_plain rfl ?_
            intro Ac w5 hp
            have hb := hp.bel
            have a3 : Ac.eval (.tmp 3) = .pointer (some ⟨xb, 0, none⟩) := hp.out 3 (by rfl)
            have hk5 := HN.out.below hb HN.out.lt
            have hx5 := HX.out.below hb HX.out.lt
            have y0 : w5.cell? ⟨b, 0, none⟩ = some (.int .u32 (a : Int)) := hk5.cell 0
            have y1 : w5.cell? ⟨b, 1, none⟩ = some (.int .i64 (n : Int)) := hk5.cell 1
            have y5 : w5.cell? ⟨b, 5, none⟩ = some (trPtr l) := hk5.cell 5
            have y6 : w5.cell? ⟨b, 6, none⟩ = some (trPtr r) := hk5.cell 6
            have x0 : w5.cell? ⟨xb, 0, none⟩ = some (.int .u32 (c : Int)) := hx5.cell 0
            have x1 : w5.cell? ⟨xb, 1, none⟩ = some (.int .i64 (k : Int)) := hx5.cell 1
            have hc := evalC Ac; have hf := evalF Ac; have hgl := evalG Ac
            obtain ⟨ρ, hρ⟩ : ∃ ρ, Ac.eval = ρ := ⟨_, rfl⟩
            rw [hρ] at a3 hc hf hgl
            exact relPure hρ (.agg #[.int .u32 (c : Int), .int .i64 (k : Int)]) (by simp [go_sem, hc, hf, hgl, ↓IntWalk.iteOmega, a3, *]) rfl
          · refine relStep_plain rfl ?_
            intro Ac w5 hp
            have hb := hp.bel
            have a38 : Ac.eval (.tmp 38) = .agg #[.int .u32 (a : Int), .int .i64 (n : Int)] := hp.dep 4 (by kernel_rfl)
            have a39 : Ac.eval (.tmp 39) = .agg #[.int .u32 (c : Int), .int .i64 (k : Int)] := hp.dep 5 (by kernel_rfl)
            have hc := evalC Ac; have hf := evalF Ac; have hgl := evalG Ac
            obtain ⟨ρ, hρ⟩ : ∃ ρ, Ac.eval = ρ := ⟨_, rfl⟩
            rw [hρ] at a38 a39 hc hf hgl
            refine relCall hρ 186 #[.agg #[.int .u32 (a : Int), .int .i64 (n : Int)], .agg #[.int .u32 (c : Int), .int .i64 (k : Int)]] (by simp [go_sem, hc, hf, hgl, ↓IntWalk.iteOmega, a38, a39, *]) ?_
            refine (HSd.out w5).mono ?_
            rintro e w6 ⟨rfl, hb6⟩
            exact ⟨_, rfl, by rw [HBit.out]; rfl, hb6⟩
          · refine relStep_plain rfl ?_
            intro Ac w5 hp
            have hb := hp.bel
            have a34 : Ac.eval (.tmp 34) = .pointer (some ⟨b, 0, none⟩) := hp.dep 0 (by kernel_rfl)
            have hc := evalC Ac; have hf := evalF Ac; have hgl := evalG Ac
            obtain ⟨ρ, hρ⟩ : ∃ ρ, Ac.eval = ρ := ⟨_, rfl⟩
            rw [hρ] at a34 hc hf hgl
            exact relPure hρ (.pointer (some ⟨b, 0, none⟩)) (by simp [go_sem, hc, hf, hgl, ↓IntWalk.iteOmega, a34, *]) rfl
          · refine relStep_plain rfl ?_
            intro Ac w5 hp
            have hb := hp.bel
            have a41 : Ac.eval (.tmp 41) = .pointer (some ⟨b, 0, none⟩) := hp.dep 7 (by kernel_rfl)
            have hc := evalC Ac; have hf := evalF Ac; have hgl := evalG Ac
            obtain ⟨ρ, hρ⟩ : ∃ ρ, Ac.eval = ρ := ⟨_, rfl⟩
            rw [hρ] at a41 hc hf hgl
            exact relPure hρ (.pointer (some ⟨b, 5, none⟩)) (by simp [go_sem, hc, hf, hgl, ↓IntWalk.iteOmega, a41, *]) rfl
          · refine relStep_plain rfl ?_
            intro Ac w5 hp
            have hb := hp.bel
            have a42 : Ac.eval (.tmp 42) = .pointer (some ⟨b, 5, none⟩) := hp.dep 8 (by kernel_rfl)
            have a40 : Ac.eval (.tmp 40) = .int .i64 0 := hp.dep 6 (by kernel_rfl)
            have hc := evalC Ac; have hf := evalF Ac; have hgl := evalG Ac
            obtain ⟨ρ, hρ⟩ : ∃ ρ, Ac.eval = ρ := ⟨_, rfl⟩
            rw [hρ] at a42 a40 hc hf hgl
            exact relPure hρ (.pointer (some ⟨b, 5, none⟩)) (by simp [go_sem, hc, hf, hgl, ↓IntWalk.iteOmega, a42, a40, *]) rfl
          · refine relStep_plain rfl ?_
            intro Ac w5 hp
            have hb := hp.bel
            have a43 : Ac.eval (.tmp 43) = .pointer (some ⟨b, 5, none⟩) := hp.dep 9 (by kernel_rfl)
            have hk5 := HN.out.below hb HN.out.lt
            have hx5 := HX.out.below hb HX.out.lt
            have y0 : w5.cell? ⟨b, 0, none⟩ = some (.int .u32 (a : Int)) := hk5.cell 0
            have y1 : w5.cell? ⟨b, 1, none⟩ = some (.int .i64 (n : Int)) := hk5.cell 1
            have y5 : w5.cell? ⟨b, 5, none⟩ = some (trPtr l) := hk5.cell 5
            have y6 : w5.cell? ⟨b, 6, none⟩ = some (trPtr r) := hk5.cell 6
            have x0 : w5.cell? ⟨xb, 0, none⟩ = some (.int .u32 (c : Int)) := hx5.cell 0
            have x1 : w5.cell? ⟨xb, 1, none⟩ = some (.int .i64 (k : Int)) := hx5.cell 1
            have hc := evalC Ac; have hf := evalF Ac; have hgl := evalG Ac
            obtain ⟨ρ, hρ⟩ : ∃ ρ, Ac.eval = ρ := ⟨_, rfl⟩
            rw [hρ] at a43 hc hf hgl
            exact relPure hρ (trPtr l) (by simp [go_sem, hc, hf, hgl, ↓IntWalk.iteOmega, a43, *]) rfl
          intro u w9 hb7 hall
          have e44 : u 10 = trPtr l := relAll_at hall (i := 10) (by decide +kernel)
          clear hall
          simp only [List.drop_succ_cons, List.drop_zero, List.take_succ_cons, List.take_zero, putAll, Act.put, List.setIfInBounds_toArray, List.set_cons_zero, List.set_cons_succ, Nat.zero_add, Nat.reduceAdd, e44]
          have HB9 := hide (HB28.out.trans (hb7.mono HB28.out.size))
          have HX9 := hide (HX.out.below hb7 HX.out.lt)
          clear hb7 HN HX
          go_wp2
          go_step3
          refine ⟨rfl, ⟨l, xb, _, rfl, rfl, HL.out.chg (S := fun _ => False) (chg_below HB9.out) (by simp) (by simp), HWl.out, ?_, HX9.out, HB2.out.trans (HB9.out.mono HB2.out.size)⟩, ?_⟩
          · rw [← HSf.out, trFind, if_pos HCvP.out, if_neg HE.out, if_pos HBit.out]
          · have h1 := trRank_in HIl.out HGa.out.2.1
            refine Nat.lt_of_le_of_lt (Nat.le_of_eq (trDownB (HL.out.chg (S := fun _ => False) (chg_below HB9.out) (by simp) (by simp)) ?_)) (Nat.lt_of_lt_of_eq h1 HRk.out.symm)
            rfl
        · skip
          have Hmn := hide (show AllMono [(fun v _ => v = .pointer (some ⟨b, 0, none⟩)), (fun v _ => v = .pointer (some ⟨b, 0, none⟩)), (fun v _ => v = .pointer (some ⟨b, 0, none⟩)), (fun v _ => v = .pointer (some ⟨b, 0, none⟩)), (fun v _ => v = .agg #[.int .u32 (a : Int), .int .i64 (n : Int)]), (fun v _ => v = .agg #[.int .u32 (c : Int), .int .i64 (k : Int)]), (fun v _ => v = .int .i64 1), (fun v _ => v = .pointer (some ⟨b, 0, none⟩)), (fun v _ => v = .pointer (some ⟨b, 5, none⟩)), (fun v _ => v = .pointer (some ⟨b, 6, none⟩)), (fun v _ => v = trPtr r)] from ⟨fun _ _ _ _ h => h, fun _ _ _ _ h => h, fun _ _ _ _ h => h, fun _ _ _ _ h => h, fun _ _ _ _ h => h, fun _ _ _ _ h => h, fun _ _ _ _ h => h, fun _ _ _ _ h => h, fun _ _ _ _ h => h, fun _ _ _ _ h => h, fun _ _ _ _ h => h, trivial⟩)
          refine wp_region_relT 11 _ (by kernel_rfl) (by kernel_rfl) (by kernel_rfl) (by kernel_rfl) (by kernel_rfl) (relMono _ Hmn.out) ⟨?_, ?_, ?_, ?_, ?_, ?_, ?_, ?_, ?_, ?_, ?_, trivial⟩ ?_
          · refine relStep_plain rfl ?_
            intro Ac w5 hp
            have hb := hp.bel
            have a5 : Ac.eval (.tmp 5) = .pointer (some ⟨b, 0, none⟩) := hp.out 5 (by rfl)
            have hc := evalC Ac; have hf := evalF Ac; have hgl := evalG Ac
            obtain ⟨ρ, hρ⟩ : ∃ ρ, Ac.eval = ρ := ⟨_, rfl⟩
            rw [hρ] at a5 hc hf hgl
            exact relPure hρ (.pointer (some ⟨b, 0, none⟩)) (by simp [go_sem, hc, hf, hgl, ↓IntWalk.iteOmega, a5, *]) rfl
          · refine relStep_plain rfl ?_
            intro Ac w5 hp
            have hb := hp.bel
            have a5 : Ac.eval (.tmp 5) = .pointer (some ⟨b, 0, none⟩) := hp.out 5 (by rfl)
            have hc := evalC Ac; have hf := evalF Ac; have hgl := evalG Ac
            obtain ⟨ρ, hρ⟩ : ∃ ρ, Ac.eval = ρ := ⟨_, rfl⟩
            rw [hρ] at a5 hc hf hgl
            exact relPure hρ (.pointer (some ⟨b, 0, none⟩)) (by simp [go_sem, hc, hf, hgl, ↓IntWalk.iteOmega, a5, *]) rfl
          · refine relStep_plain rfl ?_
            intro Ac w5 hp
            have hb := hp.bel
            have a35 : Ac.eval (.tmp 35) = .pointer (some ⟨b, 0, none⟩) := hp.dep 1 (by kernel_rfl)
            have hc := evalC Ac; have hf := evalF Ac; have hgl := evalG Ac
            obtain ⟨ρ, hρ⟩ : ∃ ρ, Ac.eval = ρ := ⟨_, rfl⟩
            rw [hρ] at a35 hc hf hgl
            exact relPure hρ (.pointer (some ⟨b, 0, none⟩)) (by simp [go_sem, hc, hf, hgl, ↓IntWalk.iteOmega, a35, *]) rfl
          · refine relStep_plain rfl ?_
            intro Ac w5 hp
            have hb := hp.bel
            have a36 : Ac.eval (.tmp 36) = .pointer (some ⟨b, 0, none⟩) := hp.dep 2 (by kernel_rfl)
            have hc := evalC Ac; have hf := evalF Ac; have hgl := evalG Ac
            obtain ⟨ρ, hρ⟩ : ∃ ρ, Ac.eval = ρ := ⟨_, rfl⟩
            rw [hρ] at a36 hc hf hgl
            exact relPure hρ (.pointer (some ⟨b, 0, none⟩)) (by simp [go_sem, hc, hf, hgl, ↓IntWalk.iteOmega, a36, *]) rfl
          · refine relStep_plain rfl ?_
            intro Ac w5 hp
            have hb := hp.bel
            have a37 : Ac.eval (.tmp 37) = .pointer (some ⟨b, 0, none⟩) := hp.dep 3 (by kernel_rfl)
            have hk5 := HN.out.below hb HN.out.lt
            have hx5 := HX.out.below hb HX.out.lt
            have y0 : w5.cell? ⟨b, 0, none⟩ = some (.int .u32 (a : Int)) := hk5.cell 0
            have y1 : w5.cell? ⟨b, 1, none⟩ = some (.int .i64 (n : Int)) := hk5.cell 1
            have y5 : w5.cell? ⟨b, 5, none⟩ = some (trPtr l) := hk5.cell 5
            have y6 : w5.cell? ⟨b, 6, none⟩ = some (trPtr r) := hk5.cell 6
            have x0 : w5.cell? ⟨xb, 0, none⟩ = some (.int .u32 (c : Int)) := hx5.cell 0
            have x1 : w5.cell? ⟨xb, 1, none⟩ = some (.int .i64 (k : Int)) := hx5.cell 1
            have hc := evalC Ac; have hf := evalF Ac; have hgl := evalG Ac
            obtain ⟨ρ, hρ⟩ : ∃ ρ, Ac.eval = ρ := ⟨_, rfl⟩
            rw [hρ] at a37 hc hf hgl
            exact relPure hρ (.agg #[.int .u32 (a : Int), .int .i64 (n : Int)]) (by simp [go_sem, hc, hf, hgl, ↓IntWalk.iteOmega, a37, *]) rfl
          · refine relStep_plain rfl ?_
            intro Ac w5 hp
            have hb := hp.bel
            have a3 : Ac.eval (.tmp 3) = .pointer (some ⟨xb, 0, none⟩) := hp.out 3 (by rfl)
            have hk5 := HN.out.below hb HN.out.lt
            have hx5 := HX.out.below hb HX.out.lt
            have y0 : w5.cell? ⟨b, 0, none⟩ = some (.int .u32 (a : Int)) := hk5.cell 0
            have y1 : w5.cell? ⟨b, 1, none⟩ = some (.int .i64 (n : Int)) := hk5.cell 1
            have y5 : w5.cell? ⟨b, 5, none⟩ = some (trPtr l) := hk5.cell 5
            have y6 : w5.cell? ⟨b, 6, none⟩ = some (trPtr r) := hk5.cell 6
            have x0 : w5.cell? ⟨xb, 0, none⟩ = some (.int .u32 (c : Int)) := hx5.cell 0
            have x1 : w5.cell? ⟨xb, 1, none⟩ = some (.int .i64 (k : Int)) := hx5.cell 1
            have hc := evalC Ac; have hf := evalF Ac; have hgl := evalG Ac
            obtain ⟨ρ, hρ⟩ : ∃ ρ, Ac.eval = ρ := ⟨_, rfl⟩
            rw [hρ] at a3 hc hf hgl
            exact relPure hρ (.agg #[.int .u32 (c : Int), .int .i64 (k : Int)]) (by simp [go_sem, hc, hf, hgl, ↓IntWalk.iteOmega, a3, *]) rfl
          · refine relStep_plain rfl ?_
            intro Ac w5 hp
            have hb := hp.bel
            have a38 : Ac.eval (.tmp 38) = .agg #[.int .u32 (a : Int), .int .i64 (n : Int)] := hp.dep 4 (by kernel_rfl)
            have a39 : Ac.eval (.tmp 39) = .agg #[.int .u32 (c : Int), .int .i64 (k : Int)] := hp.dep 5 (by kernel_rfl)
            have hc := evalC Ac; have hf := evalF Ac; have hgl := evalG Ac
            obtain ⟨ρ, hρ⟩ : ∃ ρ, Ac.eval = ρ := ⟨_, rfl⟩
            rw [hρ] at a38 a39 hc hf hgl
            refine relCall hρ 186 #[.agg #[.int .u32 (a : Int), .int .i64 (n : Int)], .agg #[.int .u32 (c : Int), .int .i64 (k : Int)]] (by simp [go_sem, hc, hf, hgl, ↓IntWalk.iteOmega, a38, a39, *]) ?_
            refine (HSd.out w5).mono ?_
            rintro e w6 ⟨rfl, hb6⟩
            exact ⟨_, rfl, by rw [HBit.out]; rfl, hb6⟩
          · refine relStep_plain rfl ?_
            intro Ac w5 hp
            have hb := hp.bel
            have a34 : Ac.eval (.tmp 34) = .pointer (some ⟨b, 0, none⟩) := hp.dep 0 (by kernel_rfl)
            have hc := evalC Ac; have hf := evalF Ac; have hgl := evalG Ac
            obtain ⟨ρ, hρ⟩ : ∃ ρ, Ac.eval = ρ := ⟨_, rfl⟩
            rw [hρ] at a34 hc hf hgl
            exact relPure hρ (.pointer (some ⟨b, 0, none⟩)) (by simp [go_sem, hc, hf, hgl, ↓IntWalk.iteOmega, a34, *]) rfl
          · refine relStep_plain rfl ?_
            intro Ac w5 hp
            have hb := hp.bel
            have a41 : Ac.eval (.tmp 41) = .pointer (some ⟨b, 0, none⟩) := hp.dep 7 (by kernel_rfl)
            have hc := evalC Ac; have hf := evalF Ac; have hgl := evalG Ac
            obtain ⟨ρ, hρ⟩ : ∃ ρ, Ac.eval = ρ := ⟨_, rfl⟩
            rw [hρ] at a41 hc hf hgl
            exact relPure hρ (.pointer (some ⟨b, 5, none⟩)) (by simp [go_sem, hc, hf, hgl, ↓IntWalk.iteOmega, a41, *]) rfl
          · refine relStep_plain rfl ?_
            intro Ac w5 hp
            have hb := hp.bel
            have a42 : Ac.eval (.tmp 42) = .pointer (some ⟨b, 5, none⟩) := hp.dep 8 (by kernel_rfl)
            have a40 : Ac.eval (.tmp 40) = .int .i64 1 := hp.dep 6 (by kernel_rfl)
            have hc := evalC Ac; have hf := evalF Ac; have hgl := evalG Ac
            obtain ⟨ρ, hρ⟩ : ∃ ρ, Ac.eval = ρ := ⟨_, rfl⟩
            rw [hρ] at a42 a40 hc hf hgl
            exact relPure hρ (.pointer (some ⟨b, 6, none⟩)) (by simp [go_sem, hc, hf, hgl, ↓IntWalk.iteOmega, a42, a40, *]) rfl
          · refine relStep_plain rfl ?_
            intro Ac w5 hp
            have hb := hp.bel
            have a43 : Ac.eval (.tmp 43) = .pointer (some ⟨b, 6, none⟩) := hp.dep 9 (by kernel_rfl)
            have hk5 := HN.out.below hb HN.out.lt
            have hx5 := HX.out.below hb HX.out.lt
            have y0 : w5.cell? ⟨b, 0, none⟩ = some (.int .u32 (a : Int)) := hk5.cell 0
            have y1 : w5.cell? ⟨b, 1, none⟩ = some (.int .i64 (n : Int)) := hk5.cell 1
            have y5 : w5.cell? ⟨b, 5, none⟩ = some (trPtr l) := hk5.cell 5
            have y6 : w5.cell? ⟨b, 6, none⟩ = some (trPtr r) := hk5.cell 6
            have x0 : w5.cell? ⟨xb, 0, none⟩ = some (.int .u32 (c : Int)) := hx5.cell 0
            have x1 : w5.cell? ⟨xb, 1, none⟩ = some (.int .i64 (k : Int)) := hx5.cell 1
            have hc := evalC Ac; have hf := evalF Ac; have hgl := evalG Ac
            obtain ⟨ρ, hρ⟩ : ∃ ρ, Ac.eval = ρ := ⟨_, rfl⟩
            rw [hρ] at a43 hc hf hgl
            exact relPure hρ (trPtr r) (by simp [go_sem, hc, hf, hgl, ↓IntWalk.iteOmega, a43, *]) rfl
          intro u w9 hb7 hall
          have e44 : u 10 = trPtr r := relAll_at hall (i := 10) (by decide +kernel)
          clear hall
          simp only [List.drop_succ_cons, List.drop_zero, List.take_succ_cons, List.take_zero, putAll, Act.put, List.setIfInBounds_toArray, List.set_cons_zero, List.set_cons_succ, Nat.zero_add, Nat.reduceAdd, e44]
          have HB9 := hide (HB28.out.trans (hb7.mono HB28.out.size))
          have HX9 := hide (HX.out.below hb7 HX.out.lt)
          clear hb7 HN HX
          go_wp2
          go_step3
          refine ⟨rfl, ⟨r, xb, _, rfl, rfl, HRr.out.chg (S := fun _ => False) (chg_below HB9.out) (by simp) (by simp), HWr.out, ?_, HX9.out, HB2.out.trans (HB9.out.mono HB2.out.size)⟩, ?_⟩
          · rw [← HSf.out, trFind, if_pos HCvP.out, if_neg HE.out, if_neg (by have := HBit.out; omega)]
          · have h1 := trRank_in HIr.out HGa.out.2.1
            refine Nat.lt_of_le_of_lt (Nat.le_of_eq (trDownB (HRr.out.chg (S := fun _ => False) (chg_below HB9.out) (by simp) (by simp)) ?_)) (Nat.lt_of_lt_of_eq h1 HRk.out.symm)
            rfl
    · rw [decide_eq_false hcv] at HCv
      have HR : Hid (trPtr (trFind c k t) = .pointer none) := hide (by rw [← HSf.out, trFind, if_neg hcv]; rfl)
      clear hcv
      go_upto_region 4 with fail
      have Hmn := hide (show AllMono [(fun v _ => v = .pointer (some ⟨b, 0, none⟩)), (fun v _ => v = .bool false), (fun v _ => v = .bool false), (fun v _ => v = .pointer (some ⟨b, 0, none⟩)), (fun v _ => v = .pointer (some ⟨b, 0, none⟩)), (fun v _ => v = .pointer (some ⟨b, 0, none⟩)), (fun v _ => v = .agg #[.int .u32 (a : Int), .int .i64 (n : Int)]), (fun v _ => v = .agg #[.int .u32 (c : Int), .int .i64 (k : Int)]), (fun v _ => v = .bool false), (fun v _ => v = .bool true), (fun v _ => v = .bool true)] from ⟨fun _ _ _ _ h => h, fun _ _ _ _ h => h, fun _ _ _ _ h => h, fun _ _ _ _ h => h, fun _ _ _ _ h => h, fun _ _ _ _ h => h, fun _ _ _ _ h => h, fun _ _ _ _ h => h, fun _ _ _ _ h => h, fun _ _ _ _ h => h, fun _ _ _ _ h => h, trivial⟩)
      refine wp_region_rel _ (by kernel_rfl) (by kernel_rfl) (relMono _ Hmn.out) ⟨?_, ?_, ?_, ?_, ?_, ?_, ?_, ?_, ?_, ?_, ?_, trivial⟩ ?_
      · refine relStep_plain rfl ?_
        intro Ac w5 hp
        have hb := hp.bel
        have a5 : Ac.eval (.tmp 5) = .pointer (some ⟨b, 0, none⟩) := hp.out 5 (by rfl)
        have hc := evalC Ac; have hf := evalF Ac; have hgl := evalG Ac
        obtain ⟨ρ, hρ⟩ : ∃ ρ, Ac.eval = ρ := ⟨_, rfl⟩
        rw [hρ] at a5 hc hf hgl
        exact relPure hρ (.pointer (some ⟨b, 0, none⟩)) (by simp [go_sem, hc, hf, hgl, ↓IntWalk.iteOmega, a5, *]) rfl
      · refine relStep_plain rfl ?_
        intro Ac w5 hp
        have hb := hp.bel
        have a17 : Ac.eval (.tmp 17) = .pointer (some ⟨b, 0, none⟩) := hp.dep 0 (by kernel_rfl)
        have hc := evalC Ac; have hf := evalF Ac; have hgl := evalG Ac
        obtain ⟨ρ, hρ⟩ : ∃ ρ, Ac.eval = ρ := ⟨_, rfl⟩
        rw [hρ] at a17 hc hf hgl
        exact relPure hρ (.bool false) (by simp [go_sem, hc, hf, hgl, ↓IntWalk.iteOmega, a17, *]) rfl
      · refine relStep_plain rfl ?_
        intro Ac w5 hp
        have hb := hp.bel
        have a18 : Ac.eval (.tmp 18) = .bool false := hp.dep 1 (by kernel_rfl)
        have hc := evalC Ac; have hf := evalF Ac; have hgl := evalG Ac
        obtain ⟨ρ, hρ⟩ : ∃ ρ, Ac.eval = ρ := ⟨_, rfl⟩
        rw [hρ] at a18 hc hf hgl
        exact relPure hρ (.bool false) (by simp [go_sem, hc, hf, hgl, ↓IntWalk.iteOmega, a18, *]) rfl
      · refine relStep_guard (g := 2) (b := false) (x := false) rfl (by kernel_rfl) rfl (by kernel_rfl) rfl (fun _ _ h => h) ?_
        intro Ac w5 hp
        have hb := hp.bel
        have a5 : Ac.eval (.tmp 5) = .pointer (some ⟨b, 0, none⟩) := hp.out 5 (by rfl)
        have hc := evalC Ac; have hf := evalF Ac; have hgl := evalG Ac
        obtain ⟨ρ, hρ⟩ : ∃ ρ, Ac.eval = ρ := ⟨_, rfl⟩
        rw [hρ] at a5 hc hf hgl
        exact relPure hρ (.pointer (some ⟨b, 0, none⟩)) (by simp [go_sem, hc, hf, hgl, ↓IntWalk.iteOmega, a5, *]) rfl
      · refine relStep_guard (g := 2) (b := false) (x := false) rfl (by kernel_rfl) rfl (by kernel_rfl) rfl (fun _ _ h => h) ?_
        intro Ac w5 hp
        have hb := hp.bel
        have a20 : Ac.eval (.tmp 20) = .pointer (some ⟨b, 0, none⟩) := hp.dep 3 (by kernel_rfl)
        have hc := evalC Ac; have hf := evalF Ac; have hgl := evalG Ac
        obtain ⟨ρ, hρ⟩ : ∃ ρ, Ac.eval = ρ := ⟨_, rfl⟩
        rw [hρ] at a20 hc hf hgl
        exact relPure hρ (.pointer (some ⟨b, 0, none⟩)) (by simp [go_sem, hc, hf, hgl, ↓IntWalk.iteOmega, a20, *]) rfl
      · refine relStep_guard (g := 2) (b := false) (x := false) rfl (by kernel_rfl) rfl (by kernel_rfl) rfl (fun _ _ h => h) ?_
        intro Ac w5 hp
        have hb := hp.bel
        have a21 : Ac.eval (.tmp 21) = .pointer (some ⟨b, 0, none⟩) := hp.dep 4 (by kernel_rfl)
        have hc := evalC Ac; have hf := evalF Ac; have hgl := evalG Ac
        obtain ⟨ρ, hρ⟩ : ∃ ρ, Ac.eval = ρ := ⟨_, rfl⟩
        rw [hρ] at a21 hc hf hgl
        exact relPure hρ (.pointer (some ⟨b, 0, none⟩)) (by simp [go_sem, hc, hf, hgl, ↓IntWalk.iteOmega, a21, *]) rfl
      · refine relStep_guard (g := 2) (b := false) (x := false) rfl (by kernel_rfl) rfl (by kernel_rfl) rfl (fun _ _ h => h) ?_
        intro Ac w5 hp
        have hb := hp.bel
        have a22 : Ac.eval (.tmp 22) = .pointer (some ⟨b, 0, none⟩) := hp.dep 5 (by kernel_rfl)
        have hk5 := HN.out.below hb HN.out.lt
        have hx5 := HX.out.below hb HX.out.lt
        have y0 : w5.cell? ⟨b, 0, none⟩ = some (.int .u32 (a : Int)) := hk5.cell 0
        have y1 : w5.cell? ⟨b, 1, none⟩ = some (.int .i64 (n : Int)) := hk5.cell 1
        have x0 : w5.cell? ⟨xb, 0, none⟩ = some (.int .u32 (c : Int)) := hx5.cell 0
        have x1 : w5.cell? ⟨xb, 1, none⟩ = some (.int .i64 (k : Int)) := hx5.cell 1
        have hc := evalC Ac; have hf := evalF Ac; have hgl := evalG Ac
        obtain ⟨ρ, hρ⟩ : ∃ ρ, Ac.eval = ρ := ⟨_, rfl⟩
        rw [hρ] at a22 hc hf hgl
        exact relPure hρ (.agg #[.int .u32 (a : Int), .int .i64 (n : Int)]) (by simp [go_sem, hc, hf, hgl, ↓IntWalk.iteOmega, a22, *]) rfl
      · refine relStep_guard (g := 2) (b := false) (x := false) rfl (by kernel_rfl) rfl (by kernel_rfl) rfl (fun _ _ h => h) ?_
        intro Ac w5 hp
        have hb := hp.bel
        have a3 : Ac.eval (.tmp 3) = .pointer (some ⟨xb, 0, none⟩) := hp.out 3 (by rfl)
        have hk5 := HN.out.below hb HN.out.lt
        have hx5 := HX.out.below hb HX.out.lt
        have y0 : w5.cell? ⟨b, 0, none⟩ = some (.int .u32 (a : Int)) := hk5.cell 0
        have y1 : w5.cell? ⟨b, 1, none⟩ = some (.int .i64 (n : Int)) := hk5.cell 1
        have x0 : w5.cell? ⟨xb, 0, none⟩ = some (.int .u32 (c : Int)) := hx5.cell 0
        have x1 : w5.cell? ⟨xb, 1, none⟩ = some (.int .i64 (k : Int)) := hx5.cell 1
        have hc := evalC Ac; have hf := evalF Ac; have hgl := evalG Ac
        obtain ⟨ρ, hρ⟩ : ∃ ρ, Ac.eval = ρ := ⟨_, rfl⟩
        rw [hρ] at a3 hc hf hgl
        exact relPure hρ (.agg #[.int .u32 (c : Int), .int .i64 (k : Int)]) (by simp [go_sem, hc, hf, hgl, ↓IntWalk.iteOmega, a3, *]) rfl
      · refine relStep_guard (g := 2) (b := false) (x := false) rfl (by kernel_rfl) rfl (by kernel_rfl) rfl (fun _ _ h => h) ?_
        intro Ac w5 hp
        have hb := hp.bel
        have a23 : Ac.eval (.tmp 23) = .agg #[.int .u32 (a : Int), .int .i64 (n : Int)] := hp.dep 6 (by kernel_rfl)
        have a24 : Ac.eval (.tmp 24) = .agg #[.int .u32 (c : Int), .int .i64 (k : Int)] := hp.dep 7 (by kernel_rfl)
        have hc := evalC Ac; have hf := evalF Ac; have hgl := evalG Ac
        obtain ⟨ρ, hρ⟩ : ∃ ρ, Ac.eval = ρ := ⟨_, rfl⟩
        rw [hρ] at a23 a24 hc hf hgl
        refine relCall hρ 185 #[.agg #[.int .u32 (a : Int), .int .i64 (n : Int)], .agg #[.int .u32 (c : Int), .int .i64 (k : Int)]] (by simp [go_sem, hc, hf, hgl, ↓IntWalk.iteOmega, a23, a24, *]) ?_
        refine (HCv.out w5).mono ?_
        rintro e w6 ⟨rfl, hb6⟩
        exact ⟨_, rfl, rfl, hb6⟩
      · refine relStep_guard (g := 2) (b := false) (x := false) rfl (by kernel_rfl) rfl (by kernel_rfl) rfl (fun _ _ h => h) ?_
        intro Ac w5 hp
        have hb := hp.bel
        have a25 : Ac.eval (.tmp 25) = .bool false := hp.dep 8 (by kernel_rfl)
        have hc := evalC Ac; have hf := evalF Ac; have hgl := evalG Ac
        obtain ⟨ρ, hρ⟩ : ∃ ρ, Ac.eval = ρ := ⟨_, rfl⟩
        rw [hρ] at a25 hc hf hgl
        exact relPure hρ (.bool true) (by simp [go_sem, hc, hf, hgl, ↓IntWalk.iteOmega, a25, *]) rfl
      · refine relStep_plain rfl ?_
        intro Ac w5 hp
        have hb := hp.bel
        have a19 : Ac.eval (.tmp 19) = .bool false := hp.dep 2 (by kernel_rfl)
        have a26 : Ac.eval (.tmp 26) = .bool true := hp.dep 9 (by kernel_rfl)
        have hc := evalC Ac; have hf := evalF Ac; have hgl := evalG Ac
        obtain ⟨ρ, hρ⟩ : ∃ ρ, Ac.eval = ρ := ⟨_, rfl⟩
        rw [hρ] at a19 a26 hc hf hgl
        exact relPure hρ (.bool true) (by simp [go_sem, hc, hf, hgl, ↓IntWalk.iteOmega, a19, a26, *]) rfl
      intro u w7 hb7 hall
      have e27 : u 10 = .bool true := relAll_at hall (i := 10) (by decide +kernel)
      clear hall
      simp only [List.drop_succ_cons, List.drop_zero, List.take_succ_cons, List.take_zero, putAll, Act.put, List.setIfInBounds_toArray, List.set_cons_zero, List.set_cons_succ, Nat.zero_add, Nat.reduceAdd, e27]
      have HB7 := hide (HB2.out.trans (hb7.mono HB2.out.size))
      clear hb7
      go_wp2
      simp only [Exit.jump]
      go_ret
      exact ⟨by rw [HR.out]; rfl, HB7.out⟩
set_option maxRecDepth 100000 in
theorem topB_any {α : Type} (g : Nat) (t : Tr α) (w : World) (hg : Blk w g 192 #[trPtr t]) : Calls Tryz.prog 136 #[.pointer (some ⟨g, 0, none⟩)] w fun e w' => e = .returned (trPtr t) ∧ w' = w := by
  have z : w.cell? ⟨g, 0, none⟩ = some (trPtr t) := hg.cell 0
  clear hg
  go_enter Tryz.func136, Tryz.ntmps136
  go_wp2
  go_ret
  exact ⟨rfl, rfl⟩
set_option maxRecDepth 100000 in
theorem topB_nil (w : World) : Calls Tryz.prog 136 #[.pointer none] w fun e w' => e = .returned (.pointer none) ∧ w' = w := by
  go_enter Tryz.func136, Tryz.ntmps136
  go_wp2
  go_ret
  exact ⟨rfl, rfl⟩
set_option maxRecDepth 100000 in
theorem newB_any (w : World) : Calls Tryz.prog 66 #[] w fun e w' => e = .returned (.pointer (some ⟨w.heap.size, 0, none⟩)) ∧ Blk w' w.heap.size 192 #[.pointer none] ∧ Below w.heap.size w w' := by
  have HB := hide (blkBelow1 w (.cells #[.pointer none] 192))
  have HK := hide (Blk.new w 192 #[.pointer none])
  go_enter Tryz.func66, Tryz.ntmps66
  go_wp2
  go_ret
  exact ⟨rfl, HK.out, HB.out⟩
set_option maxRecDepth 100000 in
theorem tlenB_any {α : Type} {F : Nat → Prop} {R : World → List Value → α → Prop} (g : Nat) (t : Tr α) (w : World) (hg : Blk w g 192 #[trPtr t]) (h : TrW 1 249 F R w t) : Calls Tryz.prog 75 #[.pointer (some ⟨g, 0, none⟩)] w fun e w' => e = .returned (.int .i64 (trCnt t : Int)) ∧ w' = w := by
  have HT := hide (topB_any g t w hg)
  have HC := hide (countB_any t w h)
  clear hg h
  go_enter Tryz.func75, Tryz.ntmps75
  go_wp2_with fail
  refine HT.out.mono ?_
  rintro e w1 ⟨rfl, rfl⟩
  go_wp2_with fail
  refine HC.out.mono ?_
  rintro e w2 ⟨rfl, rfl⟩
  go_wp2
  go_ret
  exact ⟨rfl, rfl⟩
set_option maxRecDepth 100000 in
set_option maxHeartbeats 4000000 in
theorem putnilB_any (a n : Nat) (vb : Bool) (w : World) :
    Calls Tryz.prog 211 #[.pointer none, .agg #[.int .u32 (a : Int), .int .i64 (n : Int)], .bool vb] w fun e w' => ∃ b, e = .returned (.pointer (some ⟨b, 0, none⟩)) ∧ w.heap.size ≤ b ∧ Blk w' b 249 (ndC a n [.bool vb] true 1 (.pointer none) (.pointer none)) ∧ Below w.heap.size w w' := by
  have HB := hide (blkBelow2 w (.cells #[.int .u32 (a : Int), .int .i64 (n : Int)] 24) (.cells (ndC a n [.bool vb] true 1 (.pointer none) (.pointer none)) 249))
  have HK : Hid (Blk ((w.alloc (.cells #[.int .u32 (a : Int), .int .i64 (n : Int)] 24)).alloc (.cells (ndC a n [.bool vb] true 1 (.pointer none) (.pointer none)) 249)) (w.heap.size + 1) 249 (ndC a n [.bool vb] true 1 (.pointer none) (.pointer none))) := hide (blk_new' _ _ (by simp))
  go_enter Tryz.func211, Tryz.ntmps211
  go_wp2
  go_ret
  exact ⟨w.heap.size + 1, rfl, by omega, HK.out, HB.out⟩
set_option maxRecDepth 100000 in
set_option maxHeartbeats 8000000 in
theorem puteB_any {α : Type} {F : Nat → Prop} {R : World → List Value → α → Prop} (g a n : Nat) (x : α) (vb : Bool) (w : World) (ha : PG a n) (hg : Blk w g 192 #[.pointer none]) (hF : ∀ k, F k → k < w.heap.size) (hv : FrS F none (fun w => R w [.bool vb] x) w) (hgF : ¬ F g) :
    Calls Tryz.prog 167 #[.pointer (some ⟨g, 0, none⟩), .agg #[.int .u32 (a : Int), .int .i64 (n : Int)], .bool vb] w fun e w' => e = .returned (.tuple #[.bool false, .bool false]) ∧ ∃ b, w.heap.size ≤ b ∧ Blk w' g 192 #[.pointer (some ⟨b, 0, none⟩)] ∧ TrA 1 249 F R w' (.nd b a n (some x) .nil .nil) ∧ ChgS (fun k => k = g) w w' := by
  obtain ⟨w0, hw0⟩ : ∃ w0, w.alloc (.cells #[.int .u32 (a : Int), .int .i64 (n : Int)] 24) = w0 := ⟨_, rfl⟩
  have hb0 : Below w.heap.size w w0 := hw0 ▸ blkBelow1 w _
  have HX0 : Hid (Blk w0 w.heap.size 24 #[.int .u32 (a : Int), .int .i64 (n : Int)]) := hide (hw0 ▸ Blk.new w _ _)
  have HGd := hide (Good_any a (n : Int) ha.1 (by omega) (by have := ha.2.1; omega))
  rw [good_pg ha] at HGd
  unfold pfx at HGd
  have HFd := hide (fun W (hb : Below w.heap.size w W) => findB_any (F := F) (R := R) g a n (.nil : Tr α) W ha (hg.below hb hg.lt) trivial trivial)
  have HG := hide hg
  have HW0 := hide hw0
  have HB0 := hide hb0
  have HFv := hide hv
  have HF := hide hF
  have HPa := hide ha
  have HgF := hide hgF
  clear hw0 hb0 hg hF hv ha hgF
  go_enter Tryz.func167, Tryz.ntmps167
  go_wp2_with fail
  rw [HW0.out]
  refine (HGd.out _).mono ?_
  rintro e w1 ⟨rfl, hb1⟩
  have HB1 := hide (HB0.out.trans (hb1.mono HB0.out.size))
  have HX1 := hide (HX0.out.below hb1 HX0.out.lt)
  have x0 : w1.cell? ⟨w.heap.size, 0, none⟩ = some (.int .u32 (a : Int)) := HX1.out.cell 0
  have x1 : w1.cell? ⟨w.heap.size, 1, none⟩ = some (.int .i64 (n : Int)) := HX1.out.cell 1
  clear hb1
  go_wp2_with fail
  refine (HFd.out _ HB1.out).mono ?_
  rintro e w2 ⟨rfl, hb2⟩
  have HB2 := hide (HB1.out.trans (hb2.mono HB1.out.size))
  have HX2 := hide (HX1.out.below hb2 HX1.out.lt)
  have HG2 := hide (HG.out.below HB2.out HG.out.lt)
  have e0 : trPtr (trFind a n (.nil : Tr α)) = .pointer none := rfl
  rw [e0]
  clear e0 hb2 x0 x1
  go_upto_region 7 with fail
  have Hmn := hide (show AllMono [(fun v _ => v = .pointer (some ⟨g, 0, none⟩)), (fun v _ => v = .pointer (some ⟨g, 0, none⟩)), (fun v _ => v = .pointer (some ⟨g, 0, none⟩)), (fun v _ => v = .pointer (some ⟨g, 0, none⟩)), (fun v _ => v = .pointer none), (fun v _ => v = .agg #[.int .u32 (a : Int), .int .i64 (n : Int)]), (fun v _ => v = .bool vb), (fun v W => ∃ b, v = .pointer (some ⟨b, 0, none⟩) ∧ w2.heap.size ≤ b ∧ Blk W b 249 (ndC a n [.bool vb] true 1 (.pointer none) (.pointer none))), (fun v _ => v = .pointer (some ⟨g, 0, none⟩)), (fun v _ => v = .pointer (some ⟨g, 0, none⟩))] from ⟨fun _ _ _ _ h => h, fun _ _ _ _ h => h, fun _ _ _ _ h => h, fun _ _ _ _ h => h, fun _ _ _ _ h => h, fun _ _ _ _ h => h, fun _ _ _ _ h => h, fun v W1 W2 hb ⟨b, e, h1, h2⟩ => ⟨b, e, h1, h2.below hb h2.lt⟩, fun _ _ _ _ h => h, fun _ _ _ _ h => h, trivial⟩)
  refine wp_region_relT 10 _ (by kernel_rfl) (by kernel_rfl) (by kernel_rfl) (by kernel_rfl) (by kernel_rfl) (relMono _ Hmn.out) ⟨?_, ?_, ?_, ?_, ?_, ?_, ?_, ?_, ?_, ?_, trivial⟩ ?_
  · refine relStep_plain rfl ?_
    intro Ac w5 hp
    have hb := hp.bel
    have a0 : Ac.eval (.tmp 0) = .pointer (some ⟨g, 0, none⟩) := hp.out 0 (by rfl)
    have hc := evalC Ac; have hf := evalF Ac; have hgl := evalG Ac
    obtain ⟨ρ, hρ⟩ : ∃ ρ, Ac.eval = ρ := ⟨_, rfl⟩
    rw [hρ] at a0 hc hf hgl
    exact relPure hρ (.pointer (some ⟨g, 0, none⟩)) (by simp [go_sem, hc, hf, hgl, ↓IntWalk.iteOmega, a0, *]) rfl
  · refine relStep_plain rfl ?_
    intro Ac w5 hp
    have hb := hp.bel
    have a0 : Ac.eval (.tmp 0) = .pointer (some ⟨g, 0, none⟩) := hp.out 0 (by rfl)
    have hc := evalC Ac; have hf := evalF Ac; have hgl := evalG Ac
    obtain ⟨ρ, hρ⟩ : ∃ ρ, Ac.eval = ρ := ⟨_, rfl⟩
    rw [hρ] at a0 hc hf hgl
    exact relPure hρ (.pointer (some ⟨g, 0, none⟩)) (by simp [go_sem, hc, hf, hgl, ↓IntWalk.iteOmega, a0, *]) rfl
  · refine relStep_plain rfl ?_
    intro Ac w5 hp
    have hb := hp.bel
    have a38 : Ac.eval (.tmp 38) = .pointer (some ⟨g, 0, none⟩) := hp.dep 1 (by kernel_rfl)
    have hc := evalC Ac; have hf := evalF Ac; have hgl := evalG Ac
    obtain ⟨ρ, hρ⟩ : ∃ ρ, Ac.eval = ρ := ⟨_, rfl⟩
    rw [hρ] at a38 hc hf hgl
    exact relPure hρ (.pointer (some ⟨g, 0, none⟩)) (by simp [go_sem, hc, hf, hgl, ↓IntWalk.iteOmega, a38, *]) rfl
  · refine relStep_plain rfl ?_
    intro Ac w5 hp
    have hb := hp.bel
    have a39 : Ac.eval (.tmp 39) = .pointer (some ⟨g, 0, none⟩) := hp.dep 2 (by kernel_rfl)
    have hc := evalC Ac; have hf := evalF Ac; have hgl := evalG Ac
    obtain ⟨ρ, hρ⟩ : ∃ ρ, Ac.eval = ρ := ⟨_, rfl⟩
    rw [hρ] at a39 hc hf hgl
    exact relPure hρ (.pointer (some ⟨g, 0, none⟩)) (by simp [go_sem, hc, hf, hgl, ↓IntWalk.iteOmega, a39, *]) rfl
  · refine relStep_plain rfl ?_
    intro Ac w5 hp
    have hb := hp.bel
    have a40 : Ac.eval (.tmp 40) = .pointer (some ⟨g, 0, none⟩) := hp.dep 3 (by kernel_rfl)
    have hg5 := HG2.out.below hb HG2.out.lt
    have z0 : w5.cell? ⟨g, 0, none⟩ = some (.pointer none) := hg5.cell 0
    have hc := evalC Ac; have hf := evalF Ac; have hgl := evalG Ac
    obtain ⟨ρ, hρ⟩ : ∃ ρ, Ac.eval = ρ := ⟨_, rfl⟩
    rw [hρ] at a40 hc hf hgl
    exact relPure hρ (.pointer none) (by simp [go_sem, hc, hf, hgl, ↓IntWalk.iteOmega, a40, *]) rfl
  · refine relStep_plain rfl ?_
    intro Ac w5 hp
    have hb := hp.bel
    have a4 : Ac.eval (.tmp 4) = .pointer (some ⟨w.heap.size, 0, none⟩) := hp.out 4 (by rfl)
    have hx5 := HX2.out.below hb HX2.out.lt
    have x0 : w5.cell? ⟨w.heap.size, 0, none⟩ = some (.int .u32 (a : Int)) := hx5.cell 0
    have x1 : w5.cell? ⟨w.heap.size, 1, none⟩ = some (.int .i64 (n : Int)) := hx5.cell 1
    have hc := evalC Ac; have hf := evalF Ac; have hgl := evalG Ac
    obtain ⟨ρ, hρ⟩ : ∃ ρ, Ac.eval = ρ := ⟨_, rfl⟩
    rw [hρ] at a4 hc hf hgl
    exact relPure hρ (.agg #[.int .u32 (a : Int), .int .i64 (n : Int)]) (by simp [go_sem, hc, hf, hgl, ↓IntWalk.iteOmega, a4, *]) rfl
  · refine relStep_plain rfl ?_
    intro Ac w5 hp
    have hb := hp.bel
    have a2 : Ac.eval (.tmp 2) = .bool vb := hp.out 2 (by rfl)
    have hc := evalC Ac; have hf := evalF Ac; have hgl := evalG Ac
    obtain ⟨ρ, hρ⟩ : ∃ ρ, Ac.eval = ρ := ⟨_, rfl⟩
    rw [hρ] at a2 hc hf hgl
    exact relPure hρ (.bool vb) (by simp [go_sem, hc, hf, hgl, ↓IntWalk.iteOmega, a2, *]) rfl
  · refine relStep_plain rfl ?_
    intro Ac w5 hp
    have hb := hp.bel
    have a41 : Ac.eval (.tmp 41) = .pointer none := hp.dep 4 (by kernel_rfl)
    have a42 : Ac.eval (.tmp 42) = .agg #[.int .u32 (a : Int), .int .i64 (n : Int)] := hp.dep 5 (by kernel_rfl)
    have a43 : Ac.eval (.tmp 43) = .bool vb := hp.dep 6 (by kernel_rfl)
    have hc := evalC Ac; have hf := evalF Ac; have hgl := evalG Ac
    obtain ⟨ρ, hρ⟩ : ∃ ρ, Ac.eval = ρ := ⟨_, rfl⟩
    rw [hρ] at a41 a42 a43 hc hf hgl
    refine relCall hρ 211 #[.pointer none, .agg #[.int .u32 (a : Int), .int .i64 (n : Int)], .bool vb] (by simp [go_sem, hc, hf, hgl, ↓IntWalk.iteOmega, a41, a42, a43, *]) ?_
    refine (putnilB_any a n vb w5).mono ?_
    rintro e w6 ⟨b, rfl, hb2, hk2, hb6⟩
    exact ⟨_, rfl, ⟨b, rfl, Nat.le_trans hp.bel.size hb2, hk2⟩, hb6⟩
  · refine relStep_plain rfl ?_
    intro Ac w5 hp
    have hb := hp.bel
    have a37 : Ac.eval (.tmp 37) = .pointer (some ⟨g, 0, none⟩) := hp.dep 0 (by kernel_rfl)
    have hc := evalC Ac; have hf := evalF Ac; have hgl := evalG Ac
    obtain ⟨ρ, hρ⟩ : ∃ ρ, Ac.eval = ρ := ⟨_, rfl⟩
    rw [hρ] at a37 hc hf hgl
    exact relPure hρ (.pointer (some ⟨g, 0, none⟩)) (by simp [go_sem, hc, hf, hgl, ↓IntWalk.iteOmega, a37, *]) rfl
  · refine relStep_plain rfl ?_
    intro Ac w5 hp
    have hb := hp.bel
    have a45 : Ac.eval (.tmp 45) = .pointer (some ⟨g, 0, none⟩) := hp.dep 8 (by kernel_rfl)
    have hc := evalC Ac; have hf := evalF Ac; have hgl := evalG Ac
    obtain ⟨ρ, hρ⟩ : ∃ ρ, Ac.eval = ρ := ⟨_, rfl⟩
    rw [hρ] at a45 hc hf hgl
    exact relPure hρ (.pointer (some ⟨g, 0, none⟩)) (by simp [go_sem, hc, hf, hgl, ↓IntWalk.iteOmega, a45, *]) rfl
  intro u w7 hb7 hall
  obtain ⟨b44, e44, hb44, hk44⟩ := relAll_at hall (i := 7) (by decide +kernel)
  change u 7 = _ at e44
  have e46 : u 9 = .pointer (some ⟨g, 0, none⟩) := relAll_at hall (i := 9) (by decide +kernel)
  clear hall
  simp only [List.drop_succ_cons, List.drop_zero, List.take_succ_cons, List.take_zero, putAll, Act.put, List.setIfInBounds_toArray, List.set_cons_zero, List.set_cons_succ, Nat.zero_add, Nat.reduceAdd, e44, e46]
  have HB7 := hide (HB2.out.trans (hb7.mono HB2.out.size))
  have HG7 := hide (HG2.out.below hb7 HG2.out.lt)
  have HK7 := hide hk44
  have hbg : w.heap.size ≤ b44 := Nat.le_trans HB2.out.size hb44
  have hgl := HG.out.lt
  have HKs : Hid (∀ u : Value, Blk (w7.setCell ⟨g, 0, none⟩ u) b44 249 (ndC a n [.bool vb] true 1 (.pointer none) (.pointer none))) := hide fun u => HK7.out.far (p := ⟨g, 0, none⟩) (by show b44 ≠ g; omega) u
  have HGs : Hid (∀ u : Value, Blk (w7.setCell ⟨g, 0, none⟩ u) g 192 #[u]) := hide fun u => HG7.out.set_ 0 u
  have HCs : Hid (∀ u : Value, ChgS (fun k => k = g) w (w7.setCell ⟨g, 0, none⟩ u)) := hide fun u => chg_trans (chg_below HB7.out) (chg_set (S := fun k => k = g) (p := ⟨g, 0, none⟩) rfl u) (fun k h => .inl h)
  have zg : w7.cell? ⟨g, 0, none⟩ = some (.pointer none) := HG7.out.cell 0
  have zgf := HG7.out.frozen 0
  clear hb7 hk44 hb44
  go_wp2
  go_ret2
  refine ⟨rfl, b44, hbg, HGs.out _, ⟨⟨⟨[.bool vb], ⟨rfl, by simp [Value.oneCell']⟩, HKs.out _, fun y hy => ?_⟩, trivial, trivial⟩, ⟨HPa.out, trivial, trivial, trivial, trivial⟩, by simp [trB], ?_⟩, HCs.out _⟩
  · injection hy with hy
    subst hy
    exact frs_chg HFv.out (HCs.out _) (fun k hk e => HgF.out (e ▸ hk))
  · intro k hk hFk
    simp only [trB, List.append_nil, List.mem_singleton] at hk
    subst hk
    have := HF.out _ hFk
    omega
end Go.Proofs.YtcinjckajnnhmaaGreat
set_option linter.unusedSimpArgs false
set_option linter.unusedVariables false
namespace Go.Proofs.YtcinjckajnnhmaaGreat
open Go.RowKit Go.WideShapes Go.ChangeShapes
attribute [local go_sem] Oper.semAt_some
set_option maxRecDepth 100000 in
theorem clonePList_nil (w : World) : Calls Tryz.prog 120 #[.slice none 0 0] w fun e w' => e = .returned (.slice none 0 0) ∧ w' = w := by
  have hnil := fun w => Lib.run_eql_slice_nil (P := Tryz.prog) w
  go_enter Tryz.func120, Tryz.ntmps120
  go_wp2
  go_ret
  exact ⟨rfl, rfl⟩
set_option maxRecDepth 100000 in
theorem cloneAList_nil (w : World) : Calls Tryz.prog 121 #[.slice none 0 0] w fun e w' => e = .returned (.slice none 0 0) ∧ w' = w := by
  have hnil := fun w => Lib.run_eql_slice_nil (P := Tryz.prog) w
  go_enter Tryz.func121, Tryz.ntmps121
  go_wp2
  go_ret
  exact ⟨rfl, rfl⟩
set_option maxRecDepth 100000 in
theorem cloneCList_nil (w : World) : Calls Tryz.prog 122 #[.slice none 0 0] w fun e w' => e = .returned (.slice none 0 0) ∧ w' = w := by
  have hnil := fun w => Lib.run_eql_slice_nil (P := Tryz.prog) w
  go_enter Tryz.func122, Tryz.ntmps122
  go_wp2
  go_ret
  exact ⟨rfl, rfl⟩
set_option maxRecDepth 100000 in
theorem cloneRMap_nil (w : World) : Calls Tryz.prog 123 #[.slice none 0 0] w fun e w' => e = .returned (.slice none 0 0) ∧ w' = w := by
  have hnil := fun w => Lib.run_eql_slice_nil (P := Tryz.prog) w
  go_enter Tryz.func123, Tryz.ntmps123
  go_wp2
  go_ret
  exact ⟨rfl, rfl⟩
set_option maxRecDepth 100000 in
set_option maxHeartbeats 8000000 in
theorem ownLists_zero (w : World) : Calls Tryz.prog 65 #[.agg #[.slice none 0 0, .slice none 0 0, .slice none 0 0, .slice none 0 0]] w fun e w' => e = .returned (.agg #[.slice none 0 0, .slice none 0 0, .slice none 0 0, .slice none 0 0]) ∧ Below w.heap.size w w' := by
  obtain ⟨w1, hw1⟩ : ∃ w1, (w.alloc (.cells #[.slice none 0 0, .slice none 0 0, .slice none 0 0, .slice none 0 0] 38)).alloc (.cells #[.slice none 0 0, .slice none 0 0, .slice none 0 0, .slice none 0 0] 38) = w1 := ⟨_, rfl⟩
  have hb1 : Below w.heap.size w w1 := hw1 ▸ blkBelow2 w _ _
  have HK : Hid (Blk w1 w.heap.size 38 #[.slice none 0 0, .slice none 0 0, .slice none 0 0, .slice none 0 0]) := hide (hw1 ▸ (Blk.new w _ _).alloc _)
  have HZ : Hid (Blk w1 (w.heap.size + 1) 38 #[.slice none 0 0, .slice none 0 0, .slice none 0 0, .slice none 0 0]) := hide (hw1 ▸ blk_new' _ _ (by simp))
  have HB1 := hide hb1
  have HW1 := hide hw1
  clear hw1 hb1
  go_enter Tryz.func65, Tryz.ntmps65
  go_upto_region 1 with fail
  rw [HW1.out]
  have Hmn := hide (show AllMono [(fun v _ => v = .pointer (some ⟨w.heap.size, 0, none⟩)), (fun v _ => v = .slice none 0 0), (fun v _ => v = .slice none 0 0), (fun v _ => v = .pointer (some ⟨w.heap.size, 1, none⟩)), (fun v _ => v = .slice none 0 0), (fun v _ => v = .slice none 0 0), (fun v _ => v = .pointer (some ⟨w.heap.size, 2, none⟩)), (fun v _ => v = .slice none 0 0), (fun v _ => v = .slice none 0 0), (fun v _ => v = .pointer (some ⟨w.heap.size, 3, none⟩)), (fun v _ => v = .slice none 0 0), (fun v _ => v = .slice none 0 0), (fun v _ => v = .agg #[.slice none 0 0, .slice none 0 0, .slice none 0 0, .slice none 0 0]), (fun v w => ∃ R, v = .pointer (some ⟨R, 0, none⟩) ∧ Blk w R 38 #[.slice none 0 0, .slice none 0 0, .slice none 0 0, .slice none 0 0] ∧ w1.heap.size ≤ R)] from ⟨fun _ _ _ _ h => h, fun _ _ _ _ h => h, fun _ _ _ _ h => h, fun _ _ _ _ h => h, fun _ _ _ _ h => h, fun _ _ _ _ h => h, fun _ _ _ _ h => h, fun _ _ _ _ h => h, fun _ _ _ _ h => h, fun _ _ _ _ h => h, fun _ _ _ _ h => h, fun _ _ _ _ h => h, fun _ _ _ _ h => h, fun v w w2 hb ⟨R, e, h, h2⟩ => ⟨R, e, h.below hb h.lt, h2⟩, trivial⟩)
  refine wp_region_relT 14 _ (by kernel_rfl) (by kernel_rfl) (by kernel_rfl) (by kernel_rfl) (by kernel_rfl) (relMono _ Hmn.out) ⟨?_, ?_, ?_, ?_, ?_, ?_, ?_, ?_, ?_, ?_, ?_, ?_, ?_, ?_, trivial⟩ ?_
  · refine relStep_plain rfl ?_
    intro Ac w5 hp
    have hb := hp.bel
    have a1 : Ac.eval (.tmp 1) = .pointer (some ⟨w.heap.size, 0, none⟩) := hp.out 1 (by rfl)
    have hc := evalC Ac; have hf := evalF Ac; have hgl := evalG Ac
    obtain ⟨ρ, hρ⟩ : ∃ ρ, Ac.eval = ρ := ⟨_, rfl⟩
    rw [hρ] at a1 hc hf hgl
    exact relPure hρ (.pointer (some ⟨w.heap.size, 0, none⟩)) (by simp [go_sem, hc, hf, hgl, ↓IntWalk.iteOmega, a1, *]) rfl
  · refine relStep_plain rfl ?_
    intro Ac w5 hp
    have hb := hp.bel
    have a16 : Ac.eval (.tmp 16) = .pointer (some ⟨w.heap.size, 0, none⟩) := hp.dep 0 (by kernel_rfl)
    have hx5 := HK.out.below hb HK.out.lt
    have x0 : w5.cell? ⟨w.heap.size, 0, none⟩ = some (.slice none 0 0) := hx5.cell 0
    have x1 : w5.cell? ⟨w.heap.size, 1, none⟩ = some (.slice none 0 0) := hx5.cell 1
    have x2 : w5.cell? ⟨w.heap.size, 2, none⟩ = some (.slice none 0 0) := hx5.cell 2
    have x3 : w5.cell? ⟨w.heap.size, 3, none⟩ = some (.slice none 0 0) := hx5.cell 3
    have hc := evalC Ac; have hf := evalF Ac; have hgl := evalG Ac
    obtain ⟨ρ, hρ⟩ : ∃ ρ, Ac.eval = ρ := ⟨_, rfl⟩
    rw [hρ] at a16 hc hf hgl
    exact relPure hρ (.slice none 0 0) (by simp [go_sem, hc, hf, hgl, ↓IntWalk.iteOmega, a16, *]) rfl
  · refine relStep_plain rfl ?_
    intro Ac w5 hp
    have hb := hp.bel
    have a17 : Ac.eval (.tmp 17) = .slice none 0 0 := hp.dep 1 (by kernel_rfl)
    have hc := evalC Ac; have hf := evalF Ac; have hgl := evalG Ac
    obtain ⟨ρ, hρ⟩ : ∃ ρ, Ac.eval = ρ := ⟨_, rfl⟩
    rw [hρ] at a17 hc hf hgl
    refine relCall hρ 120 #[.slice none 0 0] (by simp [go_sem, hc, hf, hgl, ↓IntWalk.iteOmega, a17, *]) ?_
    refine (clonePList_nil w5).mono ?_
    rintro e w6 ⟨rfl, rfl⟩
    exact ⟨_, rfl, rfl, Below.refl _ _⟩
  · refine relStep_plain rfl ?_
    intro Ac w5 hp
    have hb := hp.bel
    have a1 : Ac.eval (.tmp 1) = .pointer (some ⟨w.heap.size, 0, none⟩) := hp.out 1 (by rfl)
    have hc := evalC Ac; have hf := evalF Ac; have hgl := evalG Ac
    obtain ⟨ρ, hρ⟩ : ∃ ρ, Ac.eval = ρ := ⟨_, rfl⟩
    rw [hρ] at a1 hc hf hgl
    exact relPure hρ (.pointer (some ⟨w.heap.size, 1, none⟩)) (by simp [go_sem, hc, hf, hgl, ↓IntWalk.iteOmega, a1, *]) rfl
  · refine relStep_plain rfl ?_
    intro Ac w5 hp
    have hb := hp.bel
    have a19 : Ac.eval (.tmp 19) = .pointer (some ⟨w.heap.size, 1, none⟩) := hp.dep 3 (by kernel_rfl)
    have hx5 := HK.out.below hb HK.out.lt
    have x0 : w5.cell? ⟨w.heap.size, 0, none⟩ = some (.slice none 0 0) := hx5.cell 0
    have x1 : w5.cell? ⟨w.heap.size, 1, none⟩ = some (.slice none 0 0) := hx5.cell 1
    have x2 : w5.cell? ⟨w.heap.size, 2, none⟩ = some (.slice none 0 0) := hx5.cell 2
    have x3 : w5.cell? ⟨w.heap.size, 3, none⟩ = some (.slice none 0 0) := hx5.cell 3
    have hc := evalC Ac; have hf := evalF Ac; have hgl := evalG Ac
    obtain ⟨ρ, hρ⟩ : ∃ ρ, Ac.eval = ρ := ⟨_, rfl⟩
    rw [hρ] at a19 hc hf hgl
    exact relPure hρ (.slice none 0 0) (by simp [go_sem, hc, hf, hgl, ↓IntWalk.iteOmega, a19, *]) rfl
  · refine relStep_plain rfl ?_
    intro Ac w5 hp
    have hb := hp.bel
    have a20 : Ac.eval (.tmp 20) = .slice none 0 0 := hp.dep 4 (by kernel_rfl)
    have hc := evalC Ac; have hf := evalF Ac; have hgl := evalG Ac
    obtain ⟨ρ, hρ⟩ : ∃ ρ, Ac.eval = ρ := ⟨_, rfl⟩
    rw [hρ] at a20 hc hf hgl
    refine relCall hρ 121 #[.slice none 0 0] (by simp [go_sem, hc, hf, hgl, ↓IntWalk.iteOmega, a20, *]) ?_
    refine (cloneAList_nil w5).mono ?_
    rintro e w6 ⟨rfl, rfl⟩
    exact ⟨_, rfl, rfl, Below.refl _ _⟩
  · refine relStep_plain rfl ?_
    intro Ac w5 hp
    have hb := hp.bel
    have a1 : Ac.eval (.tmp 1) = .pointer (some ⟨w.heap.size, 0, none⟩) := hp.out 1 (by rfl)
    have hc := evalC Ac; have hf := evalF Ac; have hgl := evalG Ac
    obtain ⟨ρ, hρ⟩ : ∃ ρ, Ac.eval = ρ := ⟨_, rfl⟩
    rw [hρ] at a1 hc hf hgl
    exact relPure hρ (.pointer (some ⟨w.heap.size, 2, none⟩)) (by simp [go_sem, hc, hf, hgl, ↓IntWalk.iteOmega, a1, *]) rfl
  · refine relStep_plain rfl ?_
    intro Ac w5 hp
    have hb := hp.bel
    have a22 : Ac.eval (.tmp 22) = .pointer (some ⟨w.heap.size, 2, none⟩) := hp.dep 6 (by kernel_rfl)
    have hx5 := HK.out.below hb HK.out.lt
    have x0 : w5.cell? ⟨w.heap.size, 0, none⟩ = some (.slice none 0 0) := hx5.cell 0
    have x1 : w5.cell? ⟨w.heap.size, 1, none⟩ = some (.slice none 0 0) := hx5.cell 1
    have x2 : w5.cell? ⟨w.heap.size, 2, none⟩ = some (.slice none 0 0) := hx5.cell 2
    have x3 : w5.cell? ⟨w.heap.size, 3, none⟩ = some (.slice none 0 0) := hx5.cell 3
    have hc := evalC Ac; have hf := evalF Ac; have hgl := evalG Ac
    obtain ⟨ρ, hρ⟩ : ∃ ρ, Ac.eval = ρ := ⟨_, rfl⟩
    rw [hρ] at a22 hc hf hgl
    exact relPure hρ (.slice none 0 0) (by simp [go_sem, hc, hf, hgl, ↓IntWalk.iteOmega, a22, *]) rfl
  · refine relStep_plain rfl ?_
    intro Ac w5 hp
    have hb := hp.bel
    have a23 : Ac.eval (.tmp 23) = .slice none 0 0 := hp.dep 7 (by kernel_rfl)
    have hc := evalC Ac; have hf := evalF Ac; have hgl := evalG Ac
    obtain ⟨ρ, hρ⟩ : ∃ ρ, Ac.eval = ρ := ⟨_, rfl⟩
    rw [hρ] at a23 hc hf hgl
    refine relCall hρ 122 #[.slice none 0 0] (by simp [go_sem, hc, hf, hgl, ↓IntWalk.iteOmega, a23, *]) ?_
    refine (cloneCList_nil w5).mono ?_
    rintro e w6 ⟨rfl, rfl⟩
    exact ⟨_, rfl, rfl, Below.refl _ _⟩
  · refine relStep_plain rfl ?_
    intro Ac w5 hp
    have hb := hp.bel
    have a1 : Ac.eval (.tmp 1) = .pointer (some ⟨w.heap.size, 0, none⟩) := hp.out 1 (by rfl)
    have hc := evalC Ac; have hf := evalF Ac; have hgl := evalG Ac
    obtain ⟨ρ, hρ⟩ : ∃ ρ, Ac.eval = ρ := ⟨_, rfl⟩
    rw [hρ] at a1 hc hf hgl
    exact relPure hρ (.pointer (some ⟨w.heap.size, 3, none⟩)) (by simp [go_sem, hc, hf, hgl, ↓IntWalk.iteOmega, a1, *]) rfl
  · refine relStep_plain rfl ?_
    intro Ac w5 hp
    have hb := hp.bel
    have a25 : Ac.eval (.tmp 25) = .pointer (some ⟨w.heap.size, 3, none⟩) := hp.dep 9 (by kernel_rfl)
    have hx5 := HK.out.below hb HK.out.lt
    have x0 : w5.cell? ⟨w.heap.size, 0, none⟩ = some (.slice none 0 0) := hx5.cell 0
    have x1 : w5.cell? ⟨w.heap.size, 1, none⟩ = some (.slice none 0 0) := hx5.cell 1
    have x2 : w5.cell? ⟨w.heap.size, 2, none⟩ = some (.slice none 0 0) := hx5.cell 2
    have x3 : w5.cell? ⟨w.heap.size, 3, none⟩ = some (.slice none 0 0) := hx5.cell 3
    have hc := evalC Ac; have hf := evalF Ac; have hgl := evalG Ac
    obtain ⟨ρ, hρ⟩ : ∃ ρ, Ac.eval = ρ := ⟨_, rfl⟩
    rw [hρ] at a25 hc hf hgl
    exact relPure hρ (.slice none 0 0) (by simp [go_sem, hc, hf, hgl, ↓IntWalk.iteOmega, a25, *]) rfl
  · refine relStep_plain rfl ?_
    intro Ac w5 hp
    have hb := hp.bel
    have a26 : Ac.eval (.tmp 26) = .slice none 0 0 := hp.dep 10 (by kernel_rfl)
    have hc := evalC Ac; have hf := evalF Ac; have hgl := evalG Ac
    obtain ⟨ρ, hρ⟩ : ∃ ρ, Ac.eval = ρ := ⟨_, rfl⟩
    rw [hρ] at a26 hc hf hgl
    refine relCall hρ 123 #[.slice none 0 0] (by simp [go_sem, hc, hf, hgl, ↓IntWalk.iteOmega, a26, *]) ?_
    refine (cloneRMap_nil w5).mono ?_
    rintro e w6 ⟨rfl, rfl⟩
    exact ⟨_, rfl, rfl, Below.refl _ _⟩
  · refine relStep_plain rfl ?_
    intro Ac w5 hp
    have hb := hp.bel
    have a18 : Ac.eval (.tmp 18) = .slice none 0 0 := hp.dep 2 (by kernel_rfl)
    have a21 : Ac.eval (.tmp 21) = .slice none 0 0 := hp.dep 5 (by kernel_rfl)
    have a24 : Ac.eval (.tmp 24) = .slice none 0 0 := hp.dep 8 (by kernel_rfl)
    have a27 : Ac.eval (.tmp 27) = .slice none 0 0 := hp.dep 11 (by kernel_rfl)
    have hc := evalC Ac; have hf := evalF Ac; have hgl := evalG Ac
    obtain ⟨ρ, hρ⟩ : ∃ ρ, Ac.eval = ρ := ⟨_, rfl⟩
    rw [hρ] at a18 a21 a24 a27 hc hf hgl
    exact relPure hρ (.agg #[.slice none 0 0, .slice none 0 0, .slice none 0 0, .slice none 0 0]) (by simp [go_sem, hc, hf, hgl, ↓IntWalk.iteOmega, a18, a21, a24, a27, *]) rfl
  · refine relStep_plain rfl ?_
    intro Ac w5 hp
    have hb := hp.bel
    have hc := evalC Ac; have hf := evalF Ac; have hgl := evalG Ac
    obtain ⟨ρ, hρ⟩ : ∃ ρ, Ac.eval = ρ := ⟨_, rfl⟩
    rw [hρ] at hc hf hgl
    exact relVal hρ (.pointer (some ⟨w5.heap.size, 0, none⟩)) (w5.alloc (.cells #[.slice none 0 0, .slice none 0 0, .slice none 0 0, .slice none 0 0] 38)) (by simp [go_sem, hc, hf, hgl, ↓IntWalk.iteOmega, *]) ⟨_, rfl, Blk.new w5 _ _, hb.size⟩ ((Below.refl _ _).alloc (Nat.le_refl _) _)
  intro u w2 hb7 hall
  have e28 : u 12 = .agg #[.slice none 0 0, .slice none 0 0, .slice none 0 0, .slice none 0 0] := relAll_at hall (i := 12) (by decide +kernel)
  obtain ⟨R3, e3, hR3, hRb3⟩ := relAll_at hall (i := 13) (by decide +kernel)
  change u 13 = _ at e3
  clear hall
  simp only [List.drop_succ_cons, List.drop_zero, List.take_succ_cons, List.take_zero, putAll, Act.put, List.setIfInBounds_toArray, List.set_cons_zero, List.set_cons_succ, Nat.zero_add, Nat.reduceAdd, e28, e3]
  have HB2 := hide (HB1.out.trans (hb7.mono HB1.out.size))
  have HZ2 := hide (HZ.out.below hb7 HZ.out.lt)
  have HR2 := hide hR3
  have hRb : w1.heap.size ≤ R3 := hRb3
  have hs1 := HB1.out.size
  have hzl := HZ.out.lt
  clear hb7 hR3 hRb3
  have r0 : w2.cell? ⟨R3, 0, none⟩ = some (.slice none 0 0) := HR2.out.cell 0
  have r1 : w2.cell? ⟨R3, 1, none⟩ = some (.slice none 0 0) := HR2.out.cell 1
  have r2 : w2.cell? ⟨R3, 2, none⟩ = some (.slice none 0 0) := HR2.out.cell 2
  have r3 : w2.cell? ⟨R3, 3, none⟩ = some (.slice none 0 0) := HR2.out.cell 3
  have rf := fun i => HR2.out.frozen i
  go_upto_region 2 with fail
  change Code.wp _ _ _ _ (w2.setCells R3 0 [.slice none 0 0, .slice none 0 0, .slice none 0 0, .slice none 0 0])
  obtain ⟨w3, hw3⟩ : ∃ W, w2.setCells R3 0 [.slice none 0 0, .slice none 0 0, .slice none 0 0, .slice none 0 0] = W := ⟨_, rfl⟩
  have HR3 := hide (hw3 ▸ blk_sets [.slice none 0 0, .slice none 0 0, .slice none 0 0, .slice none 0 0] [] [.slice none 0 0, .slice none 0 0, .slice none 0 0, .slice none 0 0] HR2.out rfl : Blk w3 R3 38 #[.slice none 0 0, .slice none 0 0, .slice none 0 0, .slice none 0 0])
  have HZ3 := hide (hw3 ▸ blk_sets_far (by omega) [.slice none 0 0, .slice none 0 0, .slice none 0 0, .slice none 0 0] 0 HZ2.out : Blk w3 (w.heap.size + 1) 38 #[.slice none 0 0, .slice none 0 0, .slice none 0 0, .slice none 0 0])
  have HB3 : Hid (Below w.heap.size w w3) := hide (hw3 ▸ below_clear (by omega) _ _ HB2.out)
  rw [hw3]
  clear hw3 rf r0 r1 r2 r3
  have r0 : w3.cell? ⟨R3, 0, none⟩ = some (.slice none 0 0) := HR3.out.cell 0
  have r1 : w3.cell? ⟨R3, 1, none⟩ = some (.slice none 0 0) := HR3.out.cell 1
  have r2 : w3.cell? ⟨R3, 2, none⟩ = some (.slice none 0 0) := HR3.out.cell 2
  have r3 : w3.cell? ⟨R3, 3, none⟩ = some (.slice none 0 0) := HR3.out.cell 3
  have z0 : w3.cell? ⟨w.heap.size + 1, 0, none⟩ = some (.slice none 0 0) := HZ3.out.cell 0
  have z1 : w3.cell? ⟨w.heap.size + 1, 1, none⟩ = some (.slice none 0 0) := HZ3.out.cell 1
  have z2 : w3.cell? ⟨w.heap.size + 1, 2, none⟩ = some (.slice none 0 0) := HZ3.out.cell 2
  have z3 : w3.cell? ⟨w.heap.size + 1, 3, none⟩ = some (.slice none 0 0) := HZ3.out.cell 3
  have zf := fun i => HZ3.out.frozen i
  go_wp2
  go_loopw [32] (fun iv wr => iv = .int .i64 0 ∧ wr = w3) (fun _ _ => 0)
  case atStart => exact ⟨rfl, rfl⟩
  case round =>
  obtain ⟨rfl, hwr⟩ := hrel
  have hwr' := hwr.symm
  subst hwr'
  clear hwr
  go_wp2
  go_loopw [49] (fun iv wr => iv = .int .i64 0 ∧ wr = w3) (fun _ _ => 0)
  case atStart => exact ⟨rfl, rfl⟩
  case round =>
  obtain ⟨rfl, hwr⟩ := hrel
  have hwr' := hwr.symm
  subst hwr'
  clear hwr
  go_wp2
  go_loopw [91] (fun iv wr => iv = .int .i64 0 ∧ wr = w3) (fun _ _ => 0)
  case atStart => exact ⟨rfl, rfl⟩
  case round =>
  obtain ⟨rfl, hwr⟩ := hrel
  have hwr' := hwr.symm
  subst hwr'
  clear hwr
  go_wp2
  go_loopw [133] (fun iv wr => iv = .int .i64 0 ∧ wr = w3) (fun _ _ => 0)
  case atStart => exact ⟨rfl, rfl⟩
  case round =>
  obtain ⟨rfl, hwr⟩ := hrel
  have hwr' := hwr.symm
  subst hwr'
  clear hwr
  go_wp2
  change bodyPost _ _ _ _ _ (w3.setCells (w.heap.size + 1) 0 [.slice none 0 0, .slice none 0 0, .slice none 0 0, .slice none 0 0])
  obtain ⟨wF, hwF⟩ : ∃ x, w3.setCells (w.heap.size + 1) 0 [.slice none 0 0, .slice none 0 0, .slice none 0 0, .slice none 0 0] = x := ⟨_, rfl⟩
  have HFk := hide (hwF ▸ blk_sets [.slice none 0 0, .slice none 0 0, .slice none 0 0, .slice none 0 0] [] [.slice none 0 0, .slice none 0 0, .slice none 0 0, .slice none 0 0] HZ3.out rfl : Blk wF (w.heap.size + 1) 38 #[.slice none 0 0, .slice none 0 0, .slice none 0 0, .slice none 0 0])
  have HFb : Hid (Below w.heap.size w wF) := hide (hwF ▸ below_clear (Nat.le_succ _) _ _ HB3.out)
  rw [hwF]
  clear hwF zf z0 z1 z2 z3 r0 r1 r2 r3
  have q0 : wF.cell? ⟨w.heap.size + 1, 0, none⟩ = some (.slice none 0 0) := HFk.out.cell 0
  have q1 : wF.cell? ⟨w.heap.size + 1, 1, none⟩ = some (.slice none 0 0) := HFk.out.cell 1
  have q2 : wF.cell? ⟨w.heap.size + 1, 2, none⟩ = some (.slice none 0 0) := HFk.out.cell 2
  have q3 : wF.cell? ⟨w.heap.size + 1, 3, none⟩ = some (.slice none 0 0) := HFk.out.cell 3
  refine bodyPost_ret (v := .agg #[.slice none 0 0, .slice none 0 0, .slice none 0 0, .slice none 0 0]) (by simp [results, Tryz.results65, go_sem, q0, q1, q2, q3]) rfl ⟨rfl, HFb.out⟩
set_option maxRecDepth 100000 in
set_option maxHeartbeats 8000000 in
theorem permits_nil (L1 L2 L3 L5 : Option Addr × Nat × Nat) (pa pl : Int) (X : AT) (hp0 : X.path = []) (hc0 : X.comms = []) (v : Value) (w : World) (hv : AtR w X v) :
    Calls Tryz.prog 71 #[.agg (liC L1 L2 L3 L5), .string ⟨#[]⟩, .agg #[.int .u32 pa, .int .i64 pl], v] w (GoodP true w) := by
  obtain ⟨A, n, c, B, m, d, rfl, hP, hC⟩ := hv
  obtain ⟨w1, hw1⟩ : ∃ w1, ((w.alloc (.cells (liC L1 L2 L3 L5) 38)).alloc (.cells #[.int .u32 pa, .int .i64 pl] 24)).alloc (.cells #[.int .i64 X.has, .int .i64 X.org, .slice A n c, .int .u32 X.hop, .int .u32 X.med, .int .u32 X.pref, .int .u32 X.aas, .int .u32 X.aid, .slice B m d] 28) = w1 := ⟨_, rfl⟩
  have hb1 : Below w.heap.size w w1 := hw1 ▸ blkBelow3q w _ _ _
  have HL : Hid (Blk w1 w.heap.size 38 (liC L1 L2 L3 L5)) := hide (hw1 ▸ ((Blk.new w _ _).alloc _).alloc _)
  have HQ : Hid (Blk w1 (w.heap.size + 1) 24 #[.int .u32 pa, .int .i64 pl]) := hide (hw1 ▸ (blk_new' _ _ (by simp)).alloc _)
  have HA : Hid (Blk w1 (w.heap.size + 1 + 1) 28 #[.int .i64 X.has, .int .i64 X.org, .slice A n c, .int .u32 X.hop, .int .u32 X.med, .int .u32 X.pref, .int .u32 X.aas, .int .u32 X.aid, .slice B m d]) := hide (hw1 ▸ blk_new' _ _ (by simp))
  have HE := hide (evalE0_any L1 L2 L3 L5 pa pl X hp0 hc0 (atV X.has X.org A n c X.hop X.med X.pref X.aas X.aid B m d) w1 ⟨A, n, c, B, m, d, rfl, hP.below sgMono hb1, hC.below hb1⟩)
  have HB1 := hide hb1
  have HW1 := hide hw1
  clear hw1 hb1 hP hC hp0 hc0
  have l0 : w1.cell? ⟨w.heap.size, 0, none⟩ = some (.slice L1.1 L1.2.1 L1.2.2) := HL.out.cell 0
  have l1 : w1.cell? ⟨w.heap.size, 1, none⟩ = some (.slice L2.1 L2.2.1 L2.2.2) := HL.out.cell 1
  have l2 : w1.cell? ⟨w.heap.size, 2, none⟩ = some (.slice L3.1 L3.2.1 L3.2.2) := HL.out.cell 2
  have l3 : w1.cell? ⟨w.heap.size, 3, none⟩ = some (.slice L5.1 L5.2.1 L5.2.2) := HL.out.cell 3
  have p0 : w1.cell? ⟨w.heap.size + 1, 0, none⟩ = some (.int .u32 pa) := HQ.out.cell 0
  have p1 : w1.cell? ⟨w.heap.size + 1, 1, none⟩ = some (.int .i64 pl) := HQ.out.cell 1
  have x0 : w1.cell? ⟨w.heap.size + 1 + 1, 0, none⟩ = some (.int .i64 X.has) := HA.out.cell 0
  have x1 : w1.cell? ⟨w.heap.size + 1 + 1, 1, none⟩ = some (.int .i64 X.org) := HA.out.cell 1
  have x2 : w1.cell? ⟨w.heap.size + 1 + 1, 2, none⟩ = some (.slice A n c) := HA.out.cell 2
  have x3 : w1.cell? ⟨w.heap.size + 1 + 1, 3, none⟩ = some (.int .u32 X.hop) := HA.out.cell 3
  have x4 : w1.cell? ⟨w.heap.size + 1 + 1, 4, none⟩ = some (.int .u32 X.med) := HA.out.cell 4
  have x5 : w1.cell? ⟨w.heap.size + 1 + 1, 5, none⟩ = some (.int .u32 X.pref) := HA.out.cell 5
  have x6 : w1.cell? ⟨w.heap.size + 1 + 1, 6, none⟩ = some (.int .u32 X.aas) := HA.out.cell 6
  have x7 : w1.cell? ⟨w.heap.size + 1 + 1, 7, none⟩ = some (.int .u32 X.aid) := HA.out.cell 7
  have x8 : w1.cell? ⟨w.heap.size + 1 + 1, 8, none⟩ = some (.slice B m d) := HA.out.cell 8
  go_enter Tryz.func71, Tryz.ntmps71
  go_wp2_with fail
  rw [HW1.out]
  refine HE.out.mono ?_
  rintro e w2 ⟨v2, rfl, ⟨A6, n6, c6, xs6, B6, m6, d6, rfl, hl6, hu6⟩, hb2⟩
  have HB2 := hide (HB1.out.trans (hb2.mono HB1.out.size))
  have HB3 : Hid (∀ o, Below w.heap.size w (w2.alloc o)) := hide fun o => HB2.out.alloc HB2.out.size o
  clear hb2 hl6 hu6 l0 l1 l2 l3 p0 p1 x0 x1 x2 x3 x4 x5 x6 x7 x8
  go_wp2
  go_ret
  exact ⟨rfl, HB3.out _⟩
end Go.Proofs.YtcinjckajnnhmaaGreat
set_option linter.unusedSimpArgs false
set_option linter.unusedVariables false
namespace Go.Proofs.YtcinjckajnnhmaaGreat
open Go.RowKit Go.WideShapes Go.ChangeShapes
attribute [local go_sem] Oper.semAt_some
/-- Nothing is told of a value. -/
def RU (_ : World) (_ : List Value) (_ : Nat) : Prop := True
theorem ru_frs {w : World} {vs : List Value} : FrS (fun _ => False) none (fun w => RU w vs 0) w := fun _ _ => trivial
theorem tra_below {α : Type} {sz : Nat} {T : TypeId} {R : World → List Value → α → Prop} {w w' : World} {t : Tr α} (h : TrA sz T (fun _ => False) R w t) (hb : Below w.heap.size w w') : TrA sz T (fun _ => False) R w' t := h.chg (S := fun _ => False) (chg_below hb) (fun _ _ h => h) (fun _ h => h.elim)
end Go.Proofs.YtcinjckajnnhmaaGreat
set_option linter.unusedSimpArgs false
set_option linter.unusedVariables false
namespace Go.Proofs.YtcinjckajnnhmaaGreat
open Go.RowKit Go.WideShapes Go.ChangeShapes
attribute [local go_sem] Oper.semAt_some
def at0 : AT := ⟨0, 0, [], 0, 0, 0, 0, 0, []⟩
end Go.Proofs.YtcinjckajnnhmaaGreat
set_option linter.unusedSimpArgs false
set_option linter.unusedVariables false
namespace Go.Proofs.YtcinjckajnnhmaaGreat
open Go.RowKit Go.WideShapes Go.ChangeShapes
attribute [local go_sem] Oper.semAt_some
set_option maxRecDepth 100000 in
theorem blenNil (w : World) : Calls Tryz.prog 75 #[.pointer none] w fun e w' => e = .returned (.int .i64 0) ∧ w' = w := by
  go_enter Tryz.func75, Tryz.ntmps75
  go_wp2_with fail
  refine (topB_nil w).mono ?_
  rintro e w1 ⟨rfl, rfl⟩
  go_wp2_with fail
  refine (countB_any (α := Nat) (F := fun _ => False) (R := RU) .nil _ trivial).mono ?_
  rintro e w2 ⟨rfl, rfl⟩
  go_wp2
  go_ret
  exact ⟨rfl, rfl⟩
set_option maxRecDepth 100000 in
theorem beachNil (f : Value) (w : World) : Calls Tryz.prog 138 #[.pointer none, f] w fun e w' => e = .returned (.tuple #[]) ∧ w' = w := by
  go_enter Tryz.func138, Tryz.ntmps138
  go_wp2
  refine bodyPost_ret (results_none rfl _ _ _) rfl ?_
  exact ⟨rfl, rfl⟩
set_option maxRecDepth 100000 in
theorem ballNil (w : World) : Calls Tryz.prog 76 #[.pointer none] w fun e w' => e = .returned (.slice none 0 0) ∧ Below w.heap.size w w' := by
  obtain ⟨w0, hw0⟩ : ∃ w0, w.alloc (.cells #[.slice none 0 0] 45) = w0 := ⟨_, rfl⟩
  have HB : Hid (Below w.heap.size w w0) := hide (hw0 ▸ blkBelow1 w _)
  have HX : Hid (Blk w0 w.heap.size 45 #[.slice none 0 0]) := hide (hw0 ▸ Blk.new w _ _)
  have HW := hide hw0
  clear hw0
  go_enter Tryz.func76, Tryz.ntmps76
  go_wp2_with fail
  rw [HW.out]
  refine (topB_nil w0).mono ?_
  rintro e w1 ⟨rfl, rfl⟩
  go_wp2_with fail
  refine (beachNil _ w1).mono ?_
  rintro e w2 ⟨rfl, rfl⟩
  have x0 : w2.cell? ⟨w.heap.size, 0, none⟩ = some (.slice none 0 0) := HX.out.cell 0
  go_wp2
  go_ret
  exact ⟨rfl, HB.out⟩
end Go.Proofs.YtcinjckajnnhmaaGreat
set_option linter.unusedSimpArgs false
set_option linter.unusedVariables false
namespace Go.Proofs.YtcinjckajnnhmaaGreat
open Go.RowKit Go.WideShapes Go.ChangeShapes Go.Maps
attribute [local go_sem] Oper.semAt_some
set_option maxRecDepth 100000 in
theorem idxR_nil (f : Value) (w : World) : Calls Tryz.prog 222 #[.slice none 0 0, f] w fun e w' => e = .returned (.int .i64 (-1)) ∧ w' = w := by
  go_enter Tryz.func222, Tryz.ntmps222
  go_wp2
  go_loopw [8] (fun iv wr => iv = .int .i64 0 ∧ wr = w) (fun _ _ => 0)
  case atStart => exact ⟨rfl, rfl⟩
  case round =>
  obtain ⟨rfl, hwr⟩ := hrel
  have hwr' := hwr.symm
  subst hwr'
  clear hwr
  go_wp2
  go_ret
  exact ⟨rfl, rfl⟩
set_option maxRecDepth 100000 in
theorem findR_nil (s : ByteArray) (g : FuncId) (w : World) : Calls Tryz.prog 182 #[.slice none 0 0, .string s, .func (.func g) #[] #[]] w fun e w' => e = .returned (.pointer none) ∧ Below w.heap.size w w' := by
  obtain ⟨w1, hw1⟩ : ∃ w1, (w.alloc (.cells #[.string s] 9)).alloc (.cells #[.func (.func g) #[] #[]] 245) = w1 := ⟨_, rfl⟩
  have HB1 : Hid (Below w.heap.size w w1) := hide (hw1 ▸ blkBelow2 w _ _)
  have HW1 := hide hw1
  clear hw1
  go_enter Tryz.func182, Tryz.ntmps182
  go_wp2_with fail
  rw [HW1.out]
  refine (idxR_nil _ w1).mono ?_
  rintro e w2 ⟨rfl, rfl⟩
  go_wp2
  go_ret
  exact ⟨rfl, HB1.out⟩
set_option maxRecDepth 100000 in
set_option maxHeartbeats 8000000 in
theorem evalMiss_any (L1 L2 L3 : Option Addr × Nat × Nat) (pa pl : Int) (X : AT) (hp0 : X.path = []) (hc0 : X.comms = []) (v : Value) (w : World) (hv : AtR w X v) :
    Calls Tryz.prog 133 #[.agg (liC L1 L2 L3 (none, 0, 0)), .string ⟨#[120]⟩, .agg #[.int .u32 pa, .int .i64 pl], v] w (EvP X false w) := by
  obtain ⟨A, n, c, B, m, d, rfl, hP, hC⟩ := hv
  obtain ⟨w0, hw0⟩ : ∃ w0, ((((w.alloc (.cells (liC L1 L2 L3 (none, 0, 0)) 38)).alloc (.cells #[.int .u32 pa, .int .i64 pl] 24)).alloc (.cells (atC X.has X.org A n c X.hop X.med X.pref X.aas X.aid B m d) 28)).alloc (.cells zeroC 28)) = w0 := ⟨_, rfl⟩
  have hb0 : Below w.heap.size w w0 := hw0 ▸ ((((Below.refl _ w).alloc (Nat.le_refl _) _).alloc (by simp) _).alloc (by simp; omega) _).alloc (by simp; omega) _
  have HK : Hid (Blk w0 (w.heap.size + 1 + 1 + 1) 28 zeroC) := hide (hw0 ▸ blk_new' _ _ (by simp))
  have HN := hide (fun W (hb : Below w0.heap.size w0 W) => setZn_any X hp0 hc0 (atV X.has X.org A n c X.hop X.med X.pref X.aas X.aid B m d) W ⟨A, n, c, B, m, d, rfl, (hP.below sgMono hb0).below sgMono hb, (hC.below hb0).below hb⟩)
  have HLs : Hid (Blk w0 w.heap.size 38 (liC L1 L2 L3 (none, 0, 0))) := hide (hw0 ▸ (((Blk.new w _ _).alloc _).alloc _).alloc _)
  have HAt : Hid (Blk w0 (w.heap.size + 1 + 1) 28 (atC X.has X.org A n c X.hop X.med X.pref X.aas X.aid B m d)) := hide (hw0 ▸ (blk_new' _ _ (by simp)).alloc _)
  have HB0 := hide hb0
  have HW0 := hide hw0
  clear hw0 hb0 hP hC hp0 hc0
  go_enter Tryz.func133, Tryz.ntmps133
  have y3 : w0.cell? ⟨w.heap.size, 3, none⟩ = some (.slice none 0 0) := HLs.out.cell 3
  have yf := fun i => HLs.out.frozen i
  obtain ⟨q0, q1, q2, q3, q4, q5, q6, q7, q8⟩ := blk9 HAt.out
  go_wp2_with fail
  rw [HW0.out]
  refine (findR_nil ⟨#[120]⟩ _ w0).mono ?_
  rintro e w0' ⟨rfl, hb0'⟩
  have HN' := hide (HN.out w0' hb0')
  have HK := hide (HK.out.below hb0' HK.out.lt)
  have HB0 := hide (HB0.out.trans (hb0'.mono HB0.out.size))
  have HAt := hide (HAt.out.below hb0' HAt.out.lt)
  clear y3 yf q0 q1 q2 q3 q4 q5 q6 q7 q8 hb0'
  obtain ⟨q0, q1, q2, q3, q4, q5, q6, q7, q8⟩ := blk9 HAt.out
  go_wp2_with fail
  refine HN'.out.mono ?_
  rintro e w1 ⟨v, rfl, ho, hb⟩
  obtain ⟨A1, n1, c1, xs1, B1, m1, d1, rfl, hl, hu⟩ := ho
  have hlt : w.heap.size + 1 + 1 + 1 < w0'.heap.size := HK.out.lt
  have HK1 := hide (HK.out.below hb hlt)
  have HB1 := hide (HB0.out.trans (hb.mono HB0.out.size))
  have HO := hide (show AtO w0'.heap.size w1 X (atV X.has X.org A1 n1 c1 X.hop X.med X.pref X.aas X.aid B1 m1 d1) from ⟨A1, n1, c1, xs1, B1, m1, d1, rfl, hl, hu⟩)
  obtain ⟨z0, z1, z2, z3, z4, z5, z6, z7, z8⟩ := blk9 HK1.out
  have zf := fun i => HK1.out.frozen i
  clear hl hu hb
  go_wp2
  change bodyPost _ _ _ _ _ (w1.setCells (w.heap.size + 1 + 1 + 1) 0 [.int .i64 X.has, .int .i64 X.org, .slice A1 n1 c1, .int .u32 X.hop, .int .u32 X.med, .int .u32 X.pref, .int .u32 X.aas, .int .u32 X.aid, .slice B1 m1 d1])
  obtain ⟨wF, hwF⟩ : ∃ x, w1.setCells (w.heap.size + 1 + 1 + 1) 0 [.int .i64 X.has, .int .i64 X.org, .slice A1 n1 c1, .int .u32 X.hop, .int .u32 X.med, .int .u32 X.pref, .int .u32 X.aas, .int .u32 X.aid, .slice B1 m1 d1] = x := ⟨_, rfl⟩
  have HFk := hide (hwF ▸ blk9_set HK1.out : Blk wF (w.heap.size + 1 + 1 + 1) 28 (atC X.has X.org A1 n1 c1 X.hop X.med X.pref X.aas X.aid B1 m1 d1))
  have HFo := hide (hwF ▸ AtO.sets _ 0 HO.out hlt : AtO w0'.heap.size wF X (atV X.has X.org A1 n1 c1 X.hop X.med X.pref X.aas X.aid B1 m1 d1))
  have HFb := hide (hwF ▸ below_sets _ 0 HB1.out (by omega) : Below w.heap.size w wF)
  rw [hwF]
  clear hwF z0 z1 z2 z3 z4 z5 z6 z7 z8 zf
  obtain ⟨z0, z1, z2, z3, z4, z5, z6, z7, z8⟩ := blk9 HFk.out
  exact bodyPost_ret (v := .tuple #[atV X.has X.org A1 n1 c1 X.hop X.med X.pref X.aas X.aid B1 m1 d1, .bool false]) (by simp [results, Tryz.results133, go_sem, z0, z1, z2, z3, z4, z5, z6, z7, z8]) rfl ⟨_, rfl, HFo.out.less (b' := w.heap.size) (by omega), HFb.out⟩
set_option maxRecDepth 100000 in
set_option maxHeartbeats 8000000 in
theorem permits_x (L1 L2 L3 : Option Addr × Nat × Nat) (pa pl : Int) (X : AT) (hp0 : X.path = []) (hc0 : X.comms = []) (v : Value) (w : World) (hv : AtR w X v) :
    Calls Tryz.prog 71 #[.agg (liC L1 L2 L3 (none, 0, 0)), .string ⟨#[120]⟩, .agg #[.int .u32 pa, .int .i64 pl], v] w (GoodP false w) := by
  obtain ⟨A, n, c, B, m, d, rfl, hP, hC⟩ := hv
  obtain ⟨w1, hw1⟩ : ∃ w1, ((w.alloc (.cells (liC L1 L2 L3 (none, 0, 0)) 38)).alloc (.cells #[.int .u32 pa, .int .i64 pl] 24)).alloc (.cells #[.int .i64 X.has, .int .i64 X.org, .slice A n c, .int .u32 X.hop, .int .u32 X.med, .int .u32 X.pref, .int .u32 X.aas, .int .u32 X.aid, .slice B m d] 28) = w1 := ⟨_, rfl⟩
  have hb1 : Below w.heap.size w w1 := hw1 ▸ blkBelow3q w _ _ _
  have HL : Hid (Blk w1 w.heap.size 38 (liC L1 L2 L3 (none, 0, 0))) := hide (hw1 ▸ ((Blk.new w _ _).alloc _).alloc _)
  have HQ : Hid (Blk w1 (w.heap.size + 1) 24 #[.int .u32 pa, .int .i64 pl]) := hide (hw1 ▸ (blk_new' _ _ (by simp)).alloc _)
  have HA : Hid (Blk w1 (w.heap.size + 1 + 1) 28 #[.int .i64 X.has, .int .i64 X.org, .slice A n c, .int .u32 X.hop, .int .u32 X.med, .int .u32 X.pref, .int .u32 X.aas, .int .u32 X.aid, .slice B m d]) := hide (hw1 ▸ blk_new' _ _ (by simp))
  have HE := hide (evalMiss_any L1 L2 L3 pa pl X hp0 hc0 (atV X.has X.org A n c X.hop X.med X.pref X.aas X.aid B m d) w1 ⟨A, n, c, B, m, d, rfl, hP.below sgMono hb1, hC.below hb1⟩)
  have HB1 := hide hb1
  have HW1 := hide hw1
  clear hw1 hb1 hP hC hp0 hc0
  have l0 : w1.cell? ⟨w.heap.size, 0, none⟩ = some (.slice L1.1 L1.2.1 L1.2.2) := HL.out.cell 0
  have l1 : w1.cell? ⟨w.heap.size, 1, none⟩ = some (.slice L2.1 L2.2.1 L2.2.2) := HL.out.cell 1
  have l2 : w1.cell? ⟨w.heap.size, 2, none⟩ = some (.slice L3.1 L3.2.1 L3.2.2) := HL.out.cell 2
  have l3 : w1.cell? ⟨w.heap.size, 3, none⟩ = some (.slice none 0 0) := HL.out.cell 3
  have p0 : w1.cell? ⟨w.heap.size + 1, 0, none⟩ = some (.int .u32 pa) := HQ.out.cell 0
  have p1 : w1.cell? ⟨w.heap.size + 1, 1, none⟩ = some (.int .i64 pl) := HQ.out.cell 1
  have x0 : w1.cell? ⟨w.heap.size + 1 + 1, 0, none⟩ = some (.int .i64 X.has) := HA.out.cell 0
  have x1 : w1.cell? ⟨w.heap.size + 1 + 1, 1, none⟩ = some (.int .i64 X.org) := HA.out.cell 1
  have x2 : w1.cell? ⟨w.heap.size + 1 + 1, 2, none⟩ = some (.slice A n c) := HA.out.cell 2
  have x3 : w1.cell? ⟨w.heap.size + 1 + 1, 3, none⟩ = some (.int .u32 X.hop) := HA.out.cell 3
  have x4 : w1.cell? ⟨w.heap.size + 1 + 1, 4, none⟩ = some (.int .u32 X.med) := HA.out.cell 4
  have x5 : w1.cell? ⟨w.heap.size + 1 + 1, 5, none⟩ = some (.int .u32 X.pref) := HA.out.cell 5
  have x6 : w1.cell? ⟨w.heap.size + 1 + 1, 6, none⟩ = some (.int .u32 X.aas) := HA.out.cell 6
  have x7 : w1.cell? ⟨w.heap.size + 1 + 1, 7, none⟩ = some (.int .u32 X.aid) := HA.out.cell 7
  have x8 : w1.cell? ⟨w.heap.size + 1 + 1, 8, none⟩ = some (.slice B m d) := HA.out.cell 8
  go_enter Tryz.func71, Tryz.ntmps71
  go_wp2_with fail
  rw [HW1.out]
  refine HE.out.mono ?_
  rintro e w2 ⟨v2, rfl, ⟨A6, n6, c6, xs6, B6, m6, d6, rfl, hl6, hu6⟩, hb2⟩
  have HB2 := hide (HB1.out.trans (hb2.mono HB1.out.size))
  have HB3 : Hid (∀ o, Below w.heap.size w (w2.alloc o)) := hide fun o => HB2.out.alloc HB2.out.size o
  clear hb2 hl6 hu6 l0 l1 l2 l3 p0 p1 x0 x1 x2 x3 x4 x5 x6 x7 x8
  go_wp2
  go_ret
  exact ⟨rfl, HB3.out _⟩
/-- How a tree's pointer reads in a map. -/
def RPm : Value → Option (DataW Unit × List MemPlace) := fun v => match v with
  | .pointer none => some (.lit (.bool false), [])
  | .pointer (some ⟨b, 0, none⟩) => some (.lit (.int .i64 (b : Nat)), [])
  | _ => none
theorem rp_nil {v : Value} {ps : List MemPlace} (h : RPm v = some (.lit (.bool false), ps)) : v = .pointer none := by
  unfold RPm at h
  split at h
  · rfl
  · simp at h
  · simp at h
theorem rp_ptr {v : Value} {b : Nat} {ps : List MemPlace} (h : RPm v = some (.lit (.int .i64 (b : Nat)), ps)) : v = .pointer (some ⟨b, 0, none⟩) := by
  unfold RPm at h
  split at h
  · simp at h
  · simp at h
    obtain ⟨h, _⟩ := h
    have h' := Int.ofNat.inj h
    subst h'
    rfl
  · simp at h
theorem zeroTp (w : World) : (zeroValue 108).run Tryz.prog w = .ok (.pointer none) w := by kernel_rfl
abbrev MpW (w : World) (b n : Nat) (D : DataW Unit) : Prop := w.ownsMap Tryz.prog 9 RPm b n D
theorem mp_get {w : World} {b n : Nat} {D : DataW Unit} (h : MpW w b n D) (s : ByteArray) (hs : s.size ≤ maxLen) : ∃ v ps, (Instr.lookup 105 (.map (some b)) (.string s) false).run Tryz.prog w = .ok v w ∧ RPm v = some (D.atKey (.string s.data.toList) (.lit (.bool false)), ps) :=
  h.lookup (string_keyed Tryz.underlying9) Tryz.underlying105 (zeroTp w) rfl (Go.WideMaps.keyOf_string_mk Tryz.underlying9 hs)
theorem mp_get0 {w : World} {b : Nat} (h : MpW w b 0 (.map [])) (s : ByteArray) (hs : s.size ≤ maxLen) : (Instr.lookup 105 (.map (some b)) (.string s) false).run Tryz.prog w = .ok (.pointer none) w := by
  obtain ⟨v, ps, h1, h2⟩ := mp_get h s hs
  rw [rp_nil (ps := ps) h2] at h1
  exact h1
theorem mpw_below {w w' : World} {b n : Nat} {D : DataW Unit} (h : MpW w b n D) (hb : Below w.heap.size w w') : MpW w' b n D := by
  obtain ⟨es, cl, h1, h2⟩ := h
  exact ⟨es, cl, (hb.block b (World.ownsMap.lt ⟨es, cl, h1, h2⟩)).trans h1, h2⟩
abbrev kE : Lit := .string []
abbrev kX : Lit := .string [120]
abbrev DP (g : Nat) : DataW Unit := .lit (.int .i64 (g : Nat))
theorem at1X (g : Nat) : ((DataW.map [] : DataW Unit).put kE (DP g)).atKey kX (.lit (.bool false)) = .lit (.bool false) := by rfl
theorem at2E (g h : Nat) : (((DataW.map [] : DataW Unit).put kE (DP g)).put kX (DP h)).atKey kE (.lit (.bool false)) = DP g := by rfl
theorem at2X (g h : Nat) : (((DataW.map [] : DataW Unit).put kE (DP g)).put kX (DP h)).atKey kX (.lit (.bool false)) = DP h := by rfl
theorem mp_get1X {w : World} {b g : Nat} (h : MpW w b 1 ((DataW.map []).put kE (DP g))) : (Instr.lookup 105 (.map (some b)) (.string ⟨#[120]⟩) false).run Tryz.prog w = .ok (.pointer none) w := by
  obtain ⟨v, ps, h1, h2⟩ := mp_get h ⟨#[120]⟩ (by decide)
  rw [rp_nil (ps := ps) (h2.trans (congrArg (fun d => some (d, ps)) (at1X g)))] at h1
  exact h1
theorem mp_get2E {w : World} {b g k : Nat} (h : MpW w b 2 (((DataW.map []).put kE (DP g)).put kX (DP k))) : (Instr.lookup 105 (.map (some b)) (.string ⟨#[]⟩) false).run Tryz.prog w = .ok (.pointer (some ⟨g, 0, none⟩)) w := by
  obtain ⟨v, ps, h1, h2⟩ := mp_get h ⟨#[]⟩ (by decide)
  rw [rp_ptr (ps := ps) (h2.trans (congrArg (fun d => some (d, ps)) (at2E g k)))] at h1
  exact h1
theorem mp_get2X {w : World} {b g k : Nat} (h : MpW w b 2 (((DataW.map []).put kE (DP g)).put kX (DP k))) : (Instr.lookup 105 (.map (some b)) (.string ⟨#[120]⟩) false).run Tryz.prog w = .ok (.pointer (some ⟨k, 0, none⟩)) w := by
  obtain ⟨v, ps, h1, h2⟩ := mp_get h ⟨#[120]⟩ (by decide)
  rw [rp_ptr (ps := ps) (h2.trans (congrArg (fun d => some (d, ps)) (at2X g k)))] at h1
  exact h1
end Go.Proofs.YtcinjckajnnhmaaGreat
set_option linter.unusedSimpArgs false
set_option linter.unusedVariables false
namespace Go.Proofs.YtcinjckajnnhmaaGreat
open Go.RowKit Go.WideShapes Go.ChangeShapes Go.Maps
attribute [local go_sem] Oper.semAt_some
theorem strInfo9 : (Tryz.prog.info? 9).map (fun i => (i.zero, i.size, i.bytes)) = some (some (.string ⟨#[]⟩), 1, 16) := by kernel_rfl
/-- A watch in memory: its names, its map, its trees (empty ones). -/
structure WT (w : World) (B tb mb : Nat) (A : Option Addr) (k c : Nat) (xs : List Value) (D : DataW Unit) (gs : List Nat) : Prop where
  ft : Blk w tb 107 #[.slice none 0 0, .slice none 0 0, .slice none 0 0, .slice none 0 0, .slice A k c, .map (some mb)]
  own : w.ownsRow B 9 1 (.slice A k c) k xs
  mp : MpW w mb k D
  tr : ∀ g ∈ gs, Blk w g 192 #[.pointer none]
theorem WT.below {w w' : World} {B tb mb : Nat} {A : Option Addr} {k c : Nat} {xs : List Value} {D : DataW Unit} {gs : List Nat} (h : WT w B tb mb A k c xs D gs) (hb : Below w.heap.size w w') : WT w' B tb mb A k c xs D gs :=
  ⟨h.ft.below hb h.ft.lt, own_below h.own hb, mpw_below h.mp hb, fun g hg => (h.tr g hg).below hb (h.tr g hg).lt⟩
set_option maxRecDepth 100000 in
set_option maxHeartbeats 8000000 in
theorem wnew0 (w : World) : Calls Tryz.prog 10 #[.agg #[.slice none 0 0, .slice none 0 0, .slice none 0 0, .slice none 0 0], .slice none 0 0] w fun e w' => ∃ tb mb, e = .returned (.pointer (some ⟨tb, 0, none⟩)) ∧ Blk w' tb 107 #[.slice none 0 0, .slice none 0 0, .slice none 0 0, .slice none 0 0, .slice none 0 0, .map (some mb)] ∧ MpW w' mb 0 (.map []) ∧ Below w.heap.size w w' := by
  have hmm := @run_makeMap Tryz.prog
  obtain ⟨i0, hi, hz0, hz1, hz2⟩ := info_parts strInfo9
  obtain ⟨w1, hw1⟩ : ∃ w1, w.alloc (.cells #[.slice none 0 0, .slice none 0 0, .slice none 0 0, .slice none 0 0] 38) = w1 := ⟨_, rfl⟩
  have hb1 : Below w.heap.size w w1 := hw1 ▸ blkBelow1 w _
  have HL : Hid (Blk w1 w.heap.size 38 #[.slice none 0 0, .slice none 0 0, .slice none 0 0, .slice none 0 0]) := hide (hw1 ▸ Blk.new w _ _)
  have l0 : w1.cell? ⟨w.heap.size, 0, none⟩ = some (.slice none 0 0) := HL.out.cell 0
  have l1 : w1.cell? ⟨w.heap.size, 1, none⟩ = some (.slice none 0 0) := HL.out.cell 1
  have l2 : w1.cell? ⟨w.heap.size, 2, none⟩ = some (.slice none 0 0) := HL.out.cell 2
  have l3 : w1.cell? ⟨w.heap.size, 3, none⟩ = some (.slice none 0 0) := HL.out.cell 3
  have HB1 := hide hb1
  have HW1 := hide hw1
  clear hw1 hb1
  go_enter Tryz.func10, Tryz.ntmps10
  go_wp2_with fail
  rw [HW1.out]
  refine (ownLists_zero w1).mono ?_
  rintro e w2 ⟨rfl, hb2⟩
  have HB2 := hide (HB1.out.trans (hb2.mono HB1.out.size))
  clear hb2 l0 l1 l2 l3
  go_upto_region 2 with fail
  obtain ⟨w5, hw5⟩ : ∃ w5, (w2.alloc (.map #[] 0)).alloc (.cells #[.slice none 0 0, .slice none 0 0, .slice none 0 0, .slice none 0 0, .slice none 0 0, .map (some w2.heap.size)] 107) = w5 := ⟨_, rfl⟩
  have hb5 : Below w2.heap.size w2 w5 := hw5 ▸ blkBelow2 w2 _ _
  have HM5 : Hid (MpW w5 w2.heap.size 0 (.map [])) := hide (hw5 ▸ (World.ownsMap_made w2 _ _ _).alloc _)
  have HT5 : Hid (Blk w5 (w2.heap.size + 1) 107 #[.slice none 0 0, .slice none 0 0, .slice none 0 0, .slice none 0 0, .slice none 0 0, .map (some w2.heap.size)]) := hide (hw5 ▸ blk_new' _ _ (by simp))
  have HB5 := hide (HB2.out.trans (hb5.mono HB2.out.size))
  have HW5 := hide hw5
  have hs5 : w2.heap.size + 1 < w5.heap.size := HT5.out.lt
  obtain ⟨mb, hmb⟩ : ∃ g, w2.heap.size = g := ⟨_, rfl⟩
  clear hw5 hb5 hmb
  rw [HW5.out]
  go_wp2
  go_loopw [15] (fun iv wr => iv = .int .i64 0 ∧ wr = w5) (fun _ _ => 0)
  case atStart => exact ⟨rfl, rfl⟩
  case round =>
  obtain ⟨rfl, hwr⟩ := hrel
  have hwr' := hwr.symm
  subst hwr'
  clear hwr
  go_wp2
  go_ret
  exact ⟨_, _, rfl, HT5.out, HM5.out, HB5.out⟩
theorem own_ne {w : World} {base n size g : Nat} {e t : TypeId} {v : Value} {xs : List Value} {cs : Array Value} (h : w.ownsRow base e size v n xs) (hk : Blk w g t cs) (hne : t ≠ e) : some g ≠ v.ownBlock := by
  intro he
  rcases h.2 with ⟨rfl, _⟩ | ⟨r, cap, cur, rfl, _, h3, _⟩
  · simp [Value.ownBlock] at he
  · simp only [Value.ownBlock, Option.some.injEq] at he
    subst he
    have h4 : w.heap[g]? = some (.cells cs t (0, 0)) := hk
    rw [h4] at h3
    cases h3
    exact hne rfl
theorem own_grownM {w w' : World} {base n size m : Nat} {e : TypeId} {v : Value} {xs : List Value} (h : w.ownsRow base e size v n xs) (hg : w.grownBy w' (some m)) (hm : m < base) : w'.ownsRow base e size v n xs := by
  refine ⟨h.1, ?_⟩
  rcases h.2 with h2 | ⟨r, cap, cur, h1, h2, h3, h4⟩
  · exact .inl h2
  · exact .inr ⟨r, cap, cur, h1, h2, (hg.block r (Blk.lt (cs := cur) (t := e) h3) (by simp; omega)).trans h3, h4⟩
theorem mpw_set {w : World} {b n g i : Nat} {D : DataW Unit} (h : MpW w b n D) (hne : b < g) (v : Value) : MpW (w.setCell ⟨g, i, none⟩ v) b n D := by
  obtain ⟨es, cl, h1, h2⟩ := h
  exact ⟨es, cl, (Below.heap_setCell w ⟨g, i, none⟩ v b (by simp only; omega)).trans h1, h2⟩
set_option maxRecDepth 100000 in
set_option maxHeartbeats 8000000 in
theorem wnew2 (rb : Nat) (w : World) (hr : Blk w rb 9 #[.string ⟨#[]⟩, .string ⟨#[120]⟩]) : Calls Tryz.prog 10 #[.agg #[.slice none 0 0, .slice none 0 0, .slice none 0 0, .slice none 0 0], .slice (some ⟨rb, 0, none⟩) 2 2] w fun e w' => ∃ tb mb B A c g h, e = .returned (.pointer (some ⟨tb, 0, none⟩)) ∧ WT w' B tb mb A 2 c [.string ⟨#[]⟩, .string ⟨#[120]⟩] (((DataW.map []).put kE (DP g)).put kX (DP h)) [g, h] ∧ w.heap.size ≤ g ∧ g < h ∧ Below w.heap.size w w' := by
  have hmm := @run_makeMap Tryz.prog
  obtain ⟨i0, hi, hz0, hz1, hz2⟩ := info_parts strInfo9
  obtain ⟨w1, hw1⟩ : ∃ w1, w.alloc (.cells #[.slice none 0 0, .slice none 0 0, .slice none 0 0, .slice none 0 0] 38) = w1 := ⟨_, rfl⟩
  have hb1 : Below w.heap.size w w1 := hw1 ▸ blkBelow1 w _
  have HL : Hid (Blk w1 w.heap.size 38 #[.slice none 0 0, .slice none 0 0, .slice none 0 0, .slice none 0 0]) := hide (hw1 ▸ Blk.new w _ _)
  have l0 : w1.cell? ⟨w.heap.size, 0, none⟩ = some (.slice none 0 0) := HL.out.cell 0
  have l1 : w1.cell? ⟨w.heap.size, 1, none⟩ = some (.slice none 0 0) := HL.out.cell 1
  have l2 : w1.cell? ⟨w.heap.size, 2, none⟩ = some (.slice none 0 0) := HL.out.cell 2
  have l3 : w1.cell? ⟨w.heap.size, 3, none⟩ = some (.slice none 0 0) := HL.out.cell 3
  have HRr : Hid (∀ W, Below w.heap.size w W → Blk W rb 9 #[.string ⟨#[]⟩, .string ⟨#[120]⟩]) := hide (fun W hb => hr.below hb hr.lt)
  have HB1 := hide hb1
  have HW1 := hide hw1
  clear hw1 hb1 hr
  go_enter Tryz.func10, Tryz.ntmps10
  go_wp2_with fail
  rw [HW1.out]
  refine (ownLists_zero w1).mono ?_
  rintro e w2 ⟨rfl, hb2⟩
  have HB2 := hide (HB1.out.trans (hb2.mono HB1.out.size))
  clear hb2 l0 l1 l2 l3
  go_upto_region 2 with fail
  obtain ⟨w5, hw5⟩ : ∃ w5, (w2.alloc (.map #[] 0)).alloc (.cells #[.slice none 0 0, .slice none 0 0, .slice none 0 0, .slice none 0 0, .slice none 0 0, .map (some w2.heap.size)] 107) = w5 := ⟨_, rfl⟩
  rw [hw5]
  have hb5 : Below w2.heap.size w2 w5 := hw5 ▸ blkBelow2 w2 _ _
  obtain ⟨mb, hmb⟩ : ∃ g, w2.heap.size = g := ⟨_, rfl⟩
  obtain ⟨tb, htb⟩ : ∃ g, mb + 1 = g := ⟨_, rfl⟩
  have HM5 : Hid (MpW w5 mb 0 (.map [])) := hide (hmb ▸ hw5 ▸ (World.ownsMap_made w2 _ _ _).alloc _)
  have HT5 : Hid (Blk w5 tb 107 #[.slice none 0 0, .slice none 0 0, .slice none 0 0, .slice none 0 0, .slice none 0 0, .map (some mb)]) := hide (htb ▸ hmb ▸ hw5 ▸ blk_new' _ _ (by simp))
  have HB5 := hide (HB2.out.trans (hb5.mono HB2.out.size))
  have HBr := hide HB5.out
  have hlt5 : w.heap.size ≤ w5.heap.size := HB5.out.size
  have hmb5 : w.heap.size ≤ mb := hmb ▸ HB2.out.size
  rw [hmb, htb]
  have htm : mb < tb := by omega
  have Hmt := hide htm
  have Hmb5 : Hid (mb < w5.heap.size) := hide (Nat.lt_trans htm HT5.out.lt)
  have Hlt5 := hide hlt5
  have Hmbl : Hid (w.heap.size ≤ mb) := hide hmb5
  have Hmt2 : Hid (w.heap.size ≤ tb) := hide (by omega)
  have HT3lt : Hid (tb < w5.heap.size) := hide HT5.out.lt
  clear hw5 hb5 hmb htb
  go_wp2
  go_loopw [15] (fun iv wr => (iv = .int .i64 0 ∧ wr = w5) ∨ (iv = .int .i64 1 ∧ ∃ A c g, WT wr w5.heap.size tb mb A 1 c [.string ⟨#[]⟩] ((DataW.map []).put kE (DP g)) [g] ∧ w5.heap.size ≤ g ∧ Below w.heap.size w wr) ∨ (iv = .int .i64 2 ∧ ∃ A c g h, WT wr w5.heap.size tb mb A 2 c [.string ⟨#[]⟩, .string ⟨#[120]⟩] (((DataW.map []).put kE (DP g)).put kX (DP h)) [g, h] ∧ w5.heap.size ≤ g ∧ g < h ∧ Below w.heap.size w wr)) (fun iv _ => 2 - (intOf iv).toNat)
  case atStart => exact .inl ⟨rfl, rfl⟩
  case round =>
    rcases hrel with ⟨rfl, hwr⟩ | ⟨rfl, A, c, g, h1, hgl, hbl⟩ | ⟨rfl, A, c, g, h, h1, hgl, hgh, hbl⟩
    · have hwr' := hwr.symm
      subst hwr'
      clear hwr
      have HTa := HT5
      have HMa : Hid (MpW w5 mb 0 (.map [])) := HM5
      have HBa := HB5
      obtain ⟨v4, hv4⟩ : ∃ v : Value, .slice none 0 0 = v := ⟨_, rfl⟩
      have HOw : Hid (w5.ownsRow w5.heap.size 9 1 v4 0 []) := hide (hv4 ▸ World.ownsRow_nil _ _ _ _)
      have HT4 : Hid (w5.cell? ⟨tb, 4, none⟩ = some v4) := hide (hv4 ▸ HTa.out.cell 4)
      clear hv4
      have hget := mp_get0 HM5.out ⟨#[]⟩ (by decide)
      have hBs : w5.heap.size ≤ w5.heap.size := Nat.le_refl _
      have HBs := hide hBs
      have HRn : Hid (w5.cell? ⟨rb, 0, none⟩ = some (.string ⟨#[]⟩)) := hide ((HRr.out w5 HBr.out).cell 0)
      have rn := HRn.out
      have t4 : w5.cell? ⟨tb, 4, none⟩ = some v4 := HT4.out
      have t5 : w5.cell? ⟨tb, 5, none⟩ = some (.map (some mb)) := HTa.out.cell 5
      have tf := fun i => HTa.out.frozen i
      have hneT : some tb ≠ Value.ownBlock v4 := own_ne HOw.out HTa.out (by decide)
      have hneM : some mb ≠ Value.ownBlock v4 := fun e => by have h1 := own_low_block HOw.out mb e.symm; have h2 := Hmb5.out; omega
      have HNt := hide hneT
      have HNm := hide hneM
      clear hneT hneM
      go_upto_region 7 with (at_builtin; refine wpList_append_any _ rfl (.tmp 30) (.tmp 32) 39 rfl w5.heap.size 9 i0 _ 1 16 Tryz.underlying39 hi hz0 hz1 hz2 rfl (by decide) v4 0 [] rfl (HOw.out.alloc _) (w5.heap.size + 1) (some ⟨w5.heap.size, 0, none⟩) 1 1 [.string ⟨#[]⟩] rfl (reads_blkN (Blk.new _ _ _) (by simp) rfl rfl) (by simp [Value.oneCell']) (by unfold maxLen; omega) (by omega) (by simp <;> omega) ?_; intro v' w3 hown' hgrow hat; have HG3 := hide ((World.grownBy_alloc w5 _ _).trans hgrow); obtain ⟨A', c', rfl⟩ := own_slice hown'; have HO3 := hide hown'; have HT3 := hide (HTa.out.grown HG3.out HNt.out); have HM3 := hide (HMa.out.kept HG3.out HNm.out); have HB3 := hide (HBa.out.grown HG3.out HBa.out.size (fun k hk => Nat.le_trans Hlt5.out (own_low_block HOw.out k hk))); have t4 : w3.cell? ⟨tb, 4, none⟩ = some (.slice none 0 0) := HT3.out.cell 4; have tf := fun i => HT3.out.frozen i; clear hown' hgrow hat)
      obtain ⟨w6, hw6⟩ : ∃ x, w3.setCell ⟨tb, 4, none⟩ (.slice A' 1 c') = x := ⟨_, rfl⟩
      have HT6 : Hid (Blk w6 tb 107 #[.slice none 0 0, .slice none 0 0, .slice none 0 0, .slice none 0 0, .slice A' 1 c', .map (some mb)]) := hide (hw6 ▸ HT3.out.set_ 4 _)
      have HM6 : Hid (MpW w6 mb 0 (.map [])) := hide (hw6 ▸ mpw_set HM3.out Hmt.out _)
      have HB6 : Hid (Below w.heap.size w w6) := hide (hw6 ▸ HB3.out.setCell (by have := Hmt2.out; omega) _)
      have HO6 : Hid (w6.ownsRow w5.heap.size 9 1 (.slice A' 1 c') 1 [.string ⟨#[]⟩]) := hide (hw6 ▸ own_set HO3.out (fun e => own_ne HO3.out HT3.out (by decide) e.symm) _)
      have Hs6 : Hid (w5.heap.size ≤ w6.heap.size) := hide (hw6 ▸ (by simp; exact Nat.le_trans HBs.out HG3.out.size))
      rw [hw6]
      clear hw6 t4 t5 tf rn hget
      have Hmn := hide (show AllMono [(fun v _ => v = .pointer (some ⟨tb, 0, none⟩)), (fun v _ => v = .pointer (some ⟨tb, 0, none⟩)), (fun v _ => v = .pointer (some ⟨tb, 5, none⟩)), (fun v _ => v = .map (some mb)), (fun v _ => v = .string ⟨#[]⟩), (fun v W => ∃ R, v = .pointer (some ⟨R, 0, none⟩) ∧ Blk W R 192 #[.pointer none] ∧ w6.heap.size ≤ R)] from ⟨fun _ _ _ _ h => h, fun _ _ _ _ h => h, fun _ _ _ _ h => h, fun _ _ _ _ h => h, fun _ _ _ _ h => h, fun v W1 W2 hb ⟨R, e, h, h2⟩ => ⟨R, e, h.below hb h.lt, h2⟩, trivial⟩)
      refine wp_region_relT 6 _ (by kernel_rfl) (by kernel_rfl) (by kernel_rfl) (by kernel_rfl) (by kernel_rfl) (relMono _ Hmn.out) ⟨?_, ?_, ?_, ?_, ?_, ?_, trivial⟩ ?_
      · refine relStep_plain rfl ?_
        intro Ac w5 hp
        have hb := hp.bel
        have a5 : Ac.eval (.tmp 5) = .pointer (some ⟨tb, 0, none⟩) := hp.out 5 (by rfl)
        have hc := evalC Ac; have hf := evalF Ac; have hgl := evalG Ac
        obtain ⟨ρ, hρ⟩ : ∃ ρ, Ac.eval = ρ := ⟨_, rfl⟩
        rw [hρ] at a5 hc hf hgl
        exact relPure hρ (.pointer (some ⟨tb, 0, none⟩)) (by simp [go_sem, hc, hf, hgl, ↓IntWalk.iteOmega, a5, *]) rfl
      · refine relStep_plain rfl ?_
        intro Ac w5 hp
        have hb := hp.bel
        have a36 : Ac.eval (.tmp 36) = .pointer (some ⟨tb, 0, none⟩) := hp.dep 0 (by kernel_rfl)
        have hc := evalC Ac; have hf := evalF Ac; have hgl := evalG Ac
        obtain ⟨ρ, hρ⟩ : ∃ ρ, Ac.eval = ρ := ⟨_, rfl⟩
        rw [hρ] at a36 hc hf hgl
        exact relPure hρ (.pointer (some ⟨tb, 0, none⟩)) (by simp [go_sem, hc, hf, hgl, ↓IntWalk.iteOmega, a36, *]) rfl
      · refine relStep_plain rfl ?_
        intro Ac w5 hp
        have hb := hp.bel
        have a37 : Ac.eval (.tmp 37) = .pointer (some ⟨tb, 0, none⟩) := hp.dep 1 (by kernel_rfl)
        have hc := evalC Ac; have hf := evalF Ac; have hgl := evalG Ac
        obtain ⟨ρ, hρ⟩ : ∃ ρ, Ac.eval = ρ := ⟨_, rfl⟩
        rw [hρ] at a37 hc hf hgl
        exact relPure hρ (.pointer (some ⟨tb, 5, none⟩)) (by simp [go_sem, hc, hf, hgl, ↓IntWalk.iteOmega, a37, *]) rfl
      · refine relStep_plain rfl ?_
        intro Ac w5 hp
        have hb := hp.bel
        have a38 : Ac.eval (.tmp 38) = .pointer (some ⟨tb, 5, none⟩) := hp.dep 2 (by kernel_rfl)
        have ht5 := HT6.out.below hb HT6.out.lt
        have t5 : w5.cell? ⟨tb, 5, none⟩ = some (.map (some mb)) := ht5.cell 5
        have hc := evalC Ac; have hf := evalF Ac; have hgl := evalG Ac
        obtain ⟨ρ, hρ⟩ : ∃ ρ, Ac.eval = ρ := ⟨_, rfl⟩
        rw [hρ] at a38 hc hf hgl
        exact relPure hρ (.map (some mb)) (by simp [go_sem, hc, hf, hgl, ↓IntWalk.iteOmega, a38, *]) rfl
      · refine relStep_plain rfl ?_
        intro Ac w5 hp
        have hb := hp.bel
        have a7 : Ac.eval (.tmp 7) = .string ⟨#[]⟩ := hp.out 7 (by rfl)
        have hc := evalC Ac; have hf := evalF Ac; have hgl := evalG Ac
        obtain ⟨ρ, hρ⟩ : ∃ ρ, Ac.eval = ρ := ⟨_, rfl⟩
        rw [hρ] at a7 hc hf hgl
        exact relPure hρ (.string ⟨#[]⟩) (by simp [go_sem, hc, hf, hgl, ↓IntWalk.iteOmega, a7, *]) rfl
      · refine relStep_plain rfl ?_
        intro Ac w5 hp
        have hb := hp.bel
        have hc := evalC Ac; have hf := evalF Ac; have hgl := evalG Ac
        obtain ⟨ρ, hρ⟩ : ∃ ρ, Ac.eval = ρ := ⟨_, rfl⟩
        rw [hρ] at hc hf hgl
        refine relCall hρ 66 #[] (by simp [go_sem, hc, hf, hgl, ↓IntWalk.iteOmega, *]) ?_
        refine (newB_any w5).mono ?_
        rintro e w6 ⟨rfl, hk6, hb6⟩
        exact ⟨_, rfl, ⟨_, rfl, hk6, hb.size⟩, hb6⟩
      intro u w8 hb7 hall
      have e39 : u 3 = .map (some mb) := relAll_at hall (i := 3) (by decide +kernel)
      have e40 : u 4 = .string ⟨#[]⟩ := relAll_at hall (i := 4) (by decide +kernel)
      obtain ⟨gN, e41, hgN, hgNl⟩ := relAll_at hall (i := 5) (by decide +kernel)
      change u 5 = _ at e41
      clear hall
      simp only [List.drop_succ_cons, List.drop_zero, List.take_succ_cons, List.take_zero, putAll, Act.put, List.setIfInBounds_toArray, List.set_cons_zero, List.set_cons_succ, Nat.zero_add, Nat.reduceAdd, e39, e40, e41]
      have HT8 := hide (HT6.out.below hb7 HT6.out.lt)
      have HM8 := hide (mpw_below HM6.out hb7)
      have HB8 := hide (HB6.out.trans (hb7.mono HB6.out.size))
      have HO8 := hide (own_below HO6.out hb7)
      have HgN := hide hgN
      have hs6 : w5.heap.size ≤ w6.heap.size := Hs6.out
      have HgNl : Hid (w5.heap.size ≤ gN) := hide (Nat.le_trans hs6 hgNl)
      clear hb7 hgN
      go_wp2_with (at_mapUpdate; refine wpList_mapUpdate_own _ rfl _ _ _ 105 rfl 9 108 (string_keyed Tryz.underlying9) Tryz.underlying105 RPm mb 0 (.map []) rfl HM8.out (by unfold maxLen; omega) _ _ kE rfl rfl (Go.WideMaps.keyOf_string_mk (s := ⟨#[]⟩) Tryz.underlying9 (by decide)) (DP gN) [] rfl ?_; intro w9 hown9 hgrow9; have HG9 := hide hgrow9; have HM9 := hide hown9; clear hown9 hgrow9)
      have HT9 := hide (HT8.out.grown HG9.out (by simp; have := Hmt.out; omega))
      have HB9 : Hid (Below w.heap.size w w9) := hide (HB8.out.grown HG9.out HB8.out.size (fun k hk => by cases hk; exact Hmbl.out))
      have HO9 : Hid (w9.ownsRow w5.heap.size 9 1 (.slice A' 1 c') 1 [.string ⟨#[]⟩]) := hide (own_grownM HO8.out HG9.out Hmb5.out)
      have HgN9 := hide (HgN.out.grown HG9.out (by simp; have := HgNl.out; have := Hmb5.out; omega))
      go_roundw
      case rel => exact .inr (.inl ⟨rfl, A', c', gN, ⟨HT9.out, HO9.out, HM9.out, fun q hq => by obtain rfl := List.mem_singleton.1 hq; exact HgN9.out⟩, HgNl.out, HB9.out⟩)
      case measure => simp [intOf]
    · have hbr := hbl
      have hsl : w5.heap.size ≤ wr.heap.size := Nat.le_trans hgl (Nat.le_of_lt (h1.tr g (by simp)).lt)
      have Hgl := hide hgl
      have Hgt : Hid (tb ≠ g) := hide (by have := HT3lt.out; omega)
      have HTa := hide h1.ft
      have HMa := hide h1.mp
      have HOw := hide h1.own
      have HTr := hide (h1.tr g (by simp))
      have HBa := hide hbl
      have hget := mp_get1X h1.mp
      have hBs : w5.heap.size ≤ wr.heap.size := hsl
      clear h1 hbl
      have HBs := hide hBs
      have HRn : Hid (wr.cell? ⟨rb, 1, none⟩ = some (.string ⟨#[120]⟩)) := hide ((HRr.out wr hbr).cell 1)
      have rn := HRn.out
      have t4 : wr.cell? ⟨tb, 4, none⟩ = some (.slice A 1 c) := HTa.out.cell 4
      have t5 : wr.cell? ⟨tb, 5, none⟩ = some (.map (some mb)) := HTa.out.cell 5
      have tf := fun i => HTa.out.frozen i
      have hneT : some tb ≠ Value.ownBlock (.slice A 1 c) := own_ne HOw.out HTa.out (by decide)
      have hneM : some mb ≠ Value.ownBlock (.slice A 1 c) := fun e => by have h1 := own_low_block HOw.out mb e.symm; have h2 := Hmb5.out; omega
      have HNt := hide hneT
      have HNm := hide hneM
      clear hneT hneM
      go_upto_region 7 with (at_builtin; refine wpList_append_any _ rfl (.tmp 30) (.tmp 32) 39 rfl w5.heap.size 9 i0 _ 1 16 Tryz.underlying39 hi hz0 hz1 hz2 rfl (by decide) (.slice A 1 c) 1 [.string ⟨#[]⟩] rfl (HOw.out.alloc _) (wr.heap.size + 1) (some ⟨wr.heap.size, 0, none⟩) 1 1 [.string ⟨#[120]⟩] rfl (reads_blkN (Blk.new _ _ _) (by simp) rfl rfl) (by simp [Value.oneCell']) (by unfold maxLen; omega) (by omega) (by simp <;> omega) ?_; intro v' w3 hown' hgrow hat; have HG3 := hide ((World.grownBy_alloc wr _ _).trans hgrow); obtain ⟨A', c', rfl⟩ := own_slice hown'; have HO3 := hide hown'; have HT3 := hide (HTa.out.grown HG3.out HNt.out); have HM3 := hide (HMa.out.kept HG3.out HNm.out); have HB3 := hide (HBa.out.grown HG3.out HBa.out.size (fun k hk => Nat.le_trans Hlt5.out (own_low_block HOw.out k hk))); have HTr3 := hide (HTr.out.grown HG3.out (own_ne HOw.out HTr.out (by decide))); have t4 : w3.cell? ⟨tb, 4, none⟩ = some (.slice A 1 c) := HT3.out.cell 4; have tf := fun i => HT3.out.frozen i; clear hown' hgrow hat)
      obtain ⟨w6, hw6⟩ : ∃ x, w3.setCell ⟨tb, 4, none⟩ (.slice A' 2 c') = x := ⟨_, rfl⟩
      have HT6 : Hid (Blk w6 tb 107 #[.slice none 0 0, .slice none 0 0, .slice none 0 0, .slice none 0 0, .slice A' 2 c', .map (some mb)]) := hide (hw6 ▸ HT3.out.set_ 4 _)
      have HM6 : Hid (MpW w6 mb 1 ((DataW.map []).put kE (DP g))) := hide (hw6 ▸ mpw_set HM3.out Hmt.out _)
      have HB6 : Hid (Below w.heap.size w w6) := hide (hw6 ▸ HB3.out.setCell (by have := Hmt2.out; omega) _)
      have HO6 : Hid (w6.ownsRow w5.heap.size 9 1 (.slice A' 2 c') 2 [.string ⟨#[]⟩, .string ⟨#[120]⟩]) := hide (hw6 ▸ own_set HO3.out (fun e => own_ne HO3.out HT3.out (by decide) e.symm) _)
      have HTr6 : Hid (Blk w6 g 192 #[.pointer none]) := hide (hw6 ▸ HTr3.out.far (fun e => Hgt.out e.symm) _)
      have Hs6 : Hid (w5.heap.size ≤ w6.heap.size) := hide (hw6 ▸ (by simp; exact Nat.le_trans HBs.out HG3.out.size))
      rw [hw6]
      clear hw6 t4 t5 tf rn hget
      have Hmn := hide (show AllMono [(fun v _ => v = .pointer (some ⟨tb, 0, none⟩)), (fun v _ => v = .pointer (some ⟨tb, 0, none⟩)), (fun v _ => v = .pointer (some ⟨tb, 5, none⟩)), (fun v _ => v = .map (some mb)), (fun v _ => v = .string ⟨#[120]⟩), (fun v W => ∃ R, v = .pointer (some ⟨R, 0, none⟩) ∧ Blk W R 192 #[.pointer none] ∧ w6.heap.size ≤ R)] from ⟨fun _ _ _ _ h => h, fun _ _ _ _ h => h, fun _ _ _ _ h => h, fun _ _ _ _ h => h, fun _ _ _ _ h => h, fun v W1 W2 hb ⟨R, e, h, h2⟩ => ⟨R, e, h.below hb h.lt, h2⟩, trivial⟩)
      refine wp_region_relT 6 _ (by kernel_rfl) (by kernel_rfl) (by kernel_rfl) (by kernel_rfl) (by kernel_rfl) (relMono _ Hmn.out) ⟨?_, ?_, ?_, ?_, ?_, ?_, trivial⟩ ?_
      · refine relStep_plain rfl ?_
        intro Ac w5 hp
        have hb := hp.bel
        have a5 : Ac.eval (.tmp 5) = .pointer (some ⟨tb, 0, none⟩) := hp.out 5 (by rfl)
        have hc := evalC Ac; have hf := evalF Ac; have hgl := evalG Ac
        obtain ⟨ρ, hρ⟩ : ∃ ρ, Ac.eval = ρ := ⟨_, rfl⟩
        rw [hρ] at a5 hc hf hgl
        exact relPure hρ (.pointer (some ⟨tb, 0, none⟩)) (by simp [go_sem, hc, hf, hgl, ↓IntWalk.iteOmega, a5, *]) rfl
      · refine relStep_plain rfl ?_
        intro Ac w5 hp
        have hb := hp.bel
        have a36 : Ac.eval (.tmp 36) = .pointer (some ⟨tb, 0, none⟩) := hp.dep 0 (by kernel_rfl)
        have hc := evalC Ac; have hf := evalF Ac; have hgl := evalG Ac
        obtain ⟨ρ, hρ⟩ : ∃ ρ, Ac.eval = ρ := ⟨_, rfl⟩
        rw [hρ] at a36 hc hf hgl
        exact relPure hρ (.pointer (some ⟨tb, 0, none⟩)) (by simp [go_sem, hc, hf, hgl, ↓IntWalk.iteOmega, a36, *]) rfl
      · refine relStep_plain rfl ?_
        intro Ac w5 hp
        have hb := hp.bel
        have a37 : Ac.eval (.tmp 37) = .pointer (some ⟨tb, 0, none⟩) := hp.dep 1 (by kernel_rfl)
        have hc := evalC Ac; have hf := evalF Ac; have hgl := evalG Ac
        obtain ⟨ρ, hρ⟩ : ∃ ρ, Ac.eval = ρ := ⟨_, rfl⟩
        rw [hρ] at a37 hc hf hgl
        exact relPure hρ (.pointer (some ⟨tb, 5, none⟩)) (by simp [go_sem, hc, hf, hgl, ↓IntWalk.iteOmega, a37, *]) rfl
      · refine relStep_plain rfl ?_
        intro Ac w5 hp
        have hb := hp.bel
        have a38 : Ac.eval (.tmp 38) = .pointer (some ⟨tb, 5, none⟩) := hp.dep 2 (by kernel_rfl)
        have ht5 := HT6.out.below hb HT6.out.lt
        have t5 : w5.cell? ⟨tb, 5, none⟩ = some (.map (some mb)) := ht5.cell 5
        have hc := evalC Ac; have hf := evalF Ac; have hgl := evalG Ac
        obtain ⟨ρ, hρ⟩ : ∃ ρ, Ac.eval = ρ := ⟨_, rfl⟩
        rw [hρ] at a38 hc hf hgl
        exact relPure hρ (.map (some mb)) (by simp [go_sem, hc, hf, hgl, ↓IntWalk.iteOmega, a38, *]) rfl
      · refine relStep_plain rfl ?_
        intro Ac w5 hp
        have hb := hp.bel
        have a7 : Ac.eval (.tmp 7) = .string ⟨#[120]⟩ := hp.out 7 (by rfl)
        have hc := evalC Ac; have hf := evalF Ac; have hgl := evalG Ac
        obtain ⟨ρ, hρ⟩ : ∃ ρ, Ac.eval = ρ := ⟨_, rfl⟩
        rw [hρ] at a7 hc hf hgl
        exact relPure hρ (.string ⟨#[120]⟩) (by simp [go_sem, hc, hf, hgl, ↓IntWalk.iteOmega, a7, *]) rfl
      · refine relStep_plain rfl ?_
        intro Ac w5 hp
        have hb := hp.bel
        have hc := evalC Ac; have hf := evalF Ac; have hgl := evalG Ac
        obtain ⟨ρ, hρ⟩ : ∃ ρ, Ac.eval = ρ := ⟨_, rfl⟩
        rw [hρ] at hc hf hgl
        refine relCall hρ 66 #[] (by simp [go_sem, hc, hf, hgl, ↓IntWalk.iteOmega, *]) ?_
        refine (newB_any w5).mono ?_
        rintro e w6 ⟨rfl, hk6, hb6⟩
        exact ⟨_, rfl, ⟨_, rfl, hk6, hb.size⟩, hb6⟩
      intro u w8 hb7 hall
      have e39 : u 3 = .map (some mb) := relAll_at hall (i := 3) (by decide +kernel)
      have e40 : u 4 = .string ⟨#[120]⟩ := relAll_at hall (i := 4) (by decide +kernel)
      obtain ⟨gN, e41, hgN, hgNl⟩ := relAll_at hall (i := 5) (by decide +kernel)
      change u 5 = _ at e41
      clear hall
      simp only [List.drop_succ_cons, List.drop_zero, List.take_succ_cons, List.take_zero, putAll, Act.put, List.setIfInBounds_toArray, List.set_cons_zero, List.set_cons_succ, Nat.zero_add, Nat.reduceAdd, e39, e40, e41]
      have HT8 := hide (HT6.out.below hb7 HT6.out.lt)
      have HM8 := hide (mpw_below HM6.out hb7)
      have HB8 := hide (HB6.out.trans (hb7.mono HB6.out.size))
      have HO8 := hide (own_below HO6.out hb7)
      have HgN := hide hgN
      have hs6 : w5.heap.size ≤ w6.heap.size := Hs6.out
      have HgNl : Hid (w5.heap.size ≤ gN) := hide (Nat.le_trans hs6 hgNl)
      have HTr8 := hide (HTr6.out.below hb7 HTr6.out.lt)
      have Hgh : Hid (g < gN) := hide (Nat.lt_of_lt_of_le HTr6.out.lt hgNl)
      clear hb7 hgN
      go_wp2_with (at_mapUpdate; refine wpList_mapUpdate_own _ rfl _ _ _ 105 rfl 9 108 (string_keyed Tryz.underlying9) Tryz.underlying105 RPm mb 1 ((DataW.map []).put kE (DP g)) rfl HM8.out (by unfold maxLen; omega) _ _ kX rfl rfl (Go.WideMaps.keyOf_string_mk (s := ⟨#[120]⟩) Tryz.underlying9 (by decide)) (DP gN) [] rfl ?_; intro w9 hown9 hgrow9; have HG9 := hide hgrow9; have HM9 := hide hown9; clear hown9 hgrow9)
      have HT9 := hide (HT8.out.grown HG9.out (by simp; have := Hmt.out; omega))
      have HB9 : Hid (Below w.heap.size w w9) := hide (HB8.out.grown HG9.out HB8.out.size (fun k hk => by cases hk; exact Hmbl.out))
      have HO9 : Hid (w9.ownsRow w5.heap.size 9 1 (.slice A' 2 c') 2 [.string ⟨#[]⟩, .string ⟨#[120]⟩]) := hide (own_grownM HO8.out HG9.out Hmb5.out)
      have HgN9 := hide (HgN.out.grown HG9.out (by simp; have := HgNl.out; have := Hmb5.out; omega))
      have HTr9 := hide (HTr8.out.grown HG9.out (by simp; have := Hgl.out; have := Hmb5.out; omega))
      go_roundw
      case rel => exact .inr (.inr ⟨rfl, A', c', g, gN, ⟨HT9.out, HO9.out, HM9.out, fun q hq => by rcases List.mem_cons.1 hq with rfl | hq; exact HTr9.out; obtain rfl := List.mem_singleton.1 hq; exact HgN9.out⟩, Hgl.out, Hgh.out, HB9.out⟩)
      case measure => simp [intOf]
    · have HW := hide h1
      have HBl := hide hbl
      clear h1 hbl
      go_wp2
      go_ret
      exact ⟨tb, mb, w5.heap.size, A, c, g, h, rfl, HW.out, by omega, hgh, HBl.out⟩
end Go.Proofs.YtcinjckajnnhmaaGreat
