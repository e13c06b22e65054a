import Derived.Test.YtcinjckajnnhmaaGreatRi3
import Derived.WalkKit
import Derived.ProofKit
import Derived.OpenShut
import Derived.Below
import Derived.Laws.OwnMore
import Derived.Laws.Rows
import Derived.Laws.MakeOwn
import Derived.Deep.AppendLies
import Derived.Deep.Draws
import Derived.Deep.OwnRows
import Derived.Deep.QuietTactic
import Derived.Maps.AppendAt
import Derived.RegionTactic
import Derived.OwnWalk
import Derived.ChangeSame
import Derived.Outline
import Derived.BigQuiet
import Derived.WalkMore
import Derived.ScopeJumps
import Derived.WalkLawsBesides
import Derived.WalkSpells
import Derived.Laws.BitsLemmas
import Derived.Laws.BitsAllLaws
import Derived.WideKeyArgs
import Derived.Deep.DeepHandedRow
import Derived.Deep.DeepWitnessRowRef
import Derived.Lib.LaidTab
import Derived.Lib.AppendIntMem
import Derived.LaidMore
import Derived.MakeChecks
import Derived.Lib.Itoa
import Derived.Lib.ItoaMem
import Derived.Deep.Quiet
import Derived.Deep.Slices
import Derived.BigRegion
import Derived.Orders
import Derived.OrdersIn
import Derived.RangeFuncCalls
import Derived.Shelf.RegionOpen
import Derived.StillTailTactics
import Derived.Lib.PathFns
import Derived.Lib.IndexBytes
import Derived.RangeFuncWrites
import Derived.RangeFuncNested
import Derived.RangeFuncBound
import Derived.RangeFuncLeaves
import Derived.RangeFuncBox
import Derived.Shelf.Abstract
import Derived.OwnWalkIn
import Derived.TacticsInMore
import Derived.LoopNIn
import Derived.LoopIn
import Derived.Lib.SmallJoins
import Derived.Lib.ParseIntBCases
import Derived.Lib.IndexMore
import Derived.Shelf.Vars
import Derived.Lib.AtoiAllCases
import Derived.SliceStrings
import Derived.Deep.RegionLaw
import Derived.Sort.LotA
import Derived.BigRegionIn
import Derived.Deep.RegionHeld3
import Derived.RangeFuncOwn
import Derived.Sort.WalkA6
import Derived.Sort.WalkB3
import Derived.Sort.WalkC4
import Derived.Sort.WalkA14
import Derived.Sort.Walk11
import Derived.Sort.Walk7
import Derived.Sort.Walk13
import Derived.Sort.Row
import Derived.Lib.Walk
import Derived.Lib.Strings
import Derived.BigGuard
import Derived.BigCall
import Derived.CellFam
import Derived.Deep.LoopGhost
import Derived.Sort.LotC
import Derived.Deep.RegionWith
import Derived.RowKit
import Derived.Sort.LotD3
import Derived.Sort.LotD4
import Derived.Sort.Grow
import Derived.Sort.AtCall
import Derived.Sort.LotD5
import Derived.Laws.Bits64
import Derived.Laws.Bits64b
import Derived.Sort.EncStr
import Derived.Sort.LotD1
import Derived.Sort.LotB
import Derived.Deep.Cut
import Derived.Sort.Walk13a
import Derived.Sort.AssemblyPlain
import Derived.Shelf.Spec.SlicesInsertGrow
import Derived.Deep.MidRow
import Derived.Lib.RowBridge
import Derived.Laws.CopyOwn
import Derived.Lib.AppendZerosOnto
import Derived.Deep.DeepCutAuto
import Derived.Lib.Bytealg
import Derived.Shelf.Strings.SplitShaped
import Derived.Shelf.Strings.Prefix
import Derived.Shelf.Small.Strs
import Derived.Lib.QuietBelow
set_option linter.unusedSimpArgs false
set_option linter.unusedVariables false
namespace Go.Proofs.YtcinjckajnnhmaaGreat
open Go.RowKit Go.WideShapes Go.ChangeShapes
attribute [local go_sem] Oper.semAt_some
def cutA (x : AT) : AT := ⟨x.has, x.org, cutP x.path, x.hop, x.med, x.pref, x.aas, x.aid, x.comms.take 260⟩
abbrev bxC (X : AT) (x2 x8 : Value) : Array Value := #[.int .i64 X.has, .int .i64 X.org, x2, .int .u32 X.hop, .int .u32 X.med, .int .u32 X.pref, .int .u32 X.aas, .int .u32 X.aid, x8]
def SlA (b : Nat) (P : List SG) (v : Value) (W : World) : Prop := ∃ A n c xs, v = .slice A n c ∧ LOw 2 133 sgR W b b A n c P xs
def SlB (b : Nat) (C : List Nat) (v : Value) (W : World) : Prop := ∃ B m d, v = .slice B m d ∧ FrB b none (fun w => U32s w B m d C) W
def BxA (H : Nat) (X : AT) (W : World) : Prop := ∃ x2 x8, Blk W H 28 (bxC X x2 x8) ∧ Blk W (H + 1) 28 zeroC
def StA (H b : Nat) (X : AT) (P : List SG) (W : World) : Prop := ∃ x2 x8, Blk W H 28 (bxC X x2 x8) ∧ Blk W (H + 1) 28 zeroC ∧ SlA b P x2 W
def StB (H b : Nat) (X : AT) (C : List Nat) (W : World) : Prop := ∃ x2 x8, Blk W H 28 (bxC X x2 x8) ∧ Blk W (H + 1) 28 zeroC ∧ SlB b C x8 W
section
variable {H b i : Nat} {X : AT} {P : List SG} {C : List Nat} {v u : Value} {W W' : World}
theorem SlA.below (h : SlA b P v W) (hb : Below W.heap.size W W') : SlA b P v W' := by
  obtain ⟨A, n, c, xs, e, hl⟩ := h
  exact ⟨A, n, c, xs, e, hl.below hb⟩
theorem SlB.below (h : SlB b C v W) (hb : Below W.heap.size W W') : SlB b C v W' := by
  obtain ⟨A, n, c, e, hl⟩ := h
  exact ⟨A, n, c, e, hl.below hb⟩
theorem SlA.setv (h : SlA b P v W) (hH : H < b) : SlA b P v (W.setCell ⟨H, i, none⟩ u) := by
  obtain ⟨A, n, c, xs, e, hl⟩ := h
  exact ⟨A, n, c, xs, e, hl.set hH hH u⟩
theorem SlB.setv (h : SlB b C v W) (hH : H < b) : SlB b C v (W.setCell ⟨H, i, none⟩ u) := by
  obtain ⟨A, n, c, e, hl⟩ := h
  exact ⟨A, n, c, e, hl.set (p := ⟨H, i, none⟩) hH u⟩
theorem BxA.lt_ (h : BxA H X W) : H < W.heap.size := by
  obtain ⟨x2, x8, h, _⟩ := h
  exact h.lt
theorem blk_up {t : TypeId} {cs : Array Value} (h : Blk W (H + 1) t cs) : Blk (W.setCell ⟨H, i, none⟩ u) (H + 1) t cs := h.far (p := ⟨H, i, none⟩) (by show H + 1 ≠ H; omega) u
theorem BxA.below (h : BxA H X W) (hb : Below W.heap.size W W') : BxA H X W' := by
  obtain ⟨x2, x8, h, hz⟩ := h
  exact ⟨x2, x8, h.below hb h.lt, hz.below hb hz.lt⟩
theorem BxA.set2 (h : BxA H X W) (u : Value) : BxA H X (W.setCell ⟨H, 2, none⟩ u) := by
  obtain ⟨x2, x8, h, hz⟩ := h
  exact ⟨u, x8, h.set_ 2 u, blk_up hz⟩
theorem BxA.set8 (h : BxA H X W) (u : Value) : BxA H X (W.setCell ⟨H, 8, none⟩ u) := by
  obtain ⟨x2, x8, h, hz⟩ := h
  exact ⟨x2, u, h.set_ 8 u, blk_up hz⟩
theorem StA.below (h : StA H b X P W) (hb : Below W.heap.size W W') : StA H b X P W' := by
  obtain ⟨x2, x8, h, hz, hs⟩ := h
  exact ⟨x2, x8, h.below hb h.lt, hz.below hb hz.lt, hs.below hb⟩
theorem StB.below (h : StB H b X C W) (hb : Below W.heap.size W W') : StB H b X C W' := by
  obtain ⟨x2, x8, h, hz, hs⟩ := h
  exact ⟨x2, x8, h.below hb h.lt, hz.below hb hz.lt, hs.below hb⟩
theorem StA.set8 (h : StA H b X P W) (hH : H < b) : StA H b X P (W.setCell ⟨H, 8, none⟩ u) := by
  obtain ⟨x2, x8, h, hz, hs⟩ := h
  exact ⟨x2, u, h.set_ 8 u, blk_up hz, hs.setv hH⟩
theorem StB.set2 (h : StB H b X C W) (hH : H < b) : StB H b X C (W.setCell ⟨H, 2, none⟩ u) := by
  obtain ⟨x2, x8, h, hz, hs⟩ := h
  exact ⟨u, x8, h.set_ 2 u, blk_up hz, hs.setv hH⟩
theorem st_both (h : StA H b X P W) (h' : StB H b X C W) : ∃ A n c xs B m d, Blk W H 28 (bxC X (.slice A n c) (.slice B m d)) ∧ Blk W (H + 1) 28 zeroC ∧ LOw 2 133 sgR W b b A n c P xs ∧ FrB b none (fun w => U32s w B m d C) W := by
  obtain ⟨x2, x8, h1, hz, A, n, c, xs, rfl, hl⟩ := h
  obtain ⟨y2, y8, h2, _, B, m, d, rfl, hu⟩ := h'
  have e := (h1.cell 8).symm.trans (h2.cell 8)
  simp only [List.getElem?_toArray, List.getElem?_cons_succ, List.getElem?_cons_zero, Option.some.injEq] at e
  subst e
  exact ⟨A, n, c, xs, B, m, d, h1, hz, hl, hu⟩
theorem cell_set_ne {j : Nat} (hne : i ≠ j) : (W.setCell ⟨H, i, none⟩ u).cell? ⟨H, j, none⟩ = W.cell? ⟨H, j, none⟩ := by
  refine World.cell?_setCell_other _ _ _ _ ?_
  intro e
  cases e
  exact hne rfl
/-- One cell of a box stored. -/
theorem st1A {tc : TypeId} {f n c : Nat} {A : Option Addr} {cs : Array Value} (h : Blk W H tc cs) (hf : cs[f]?.isSome = true) :
    (Instr.storeAt 25 (.pointer (some ⟨H, f, none⟩)) (.slice A n c)).run Tryz.prog W = .ok () (W.setCell ⟨H, f, none⟩ (.slice A n c)) := by
  have hc := h.cell f
  have hz := h.frozen f
  obtain ⟨x, hx⟩ := Option.isSome_iff_exists.1 hf
  rw [hx] at hc
  simp [go_sem, hc, hz]
theorem st1B {tc : TypeId} {f n c : Nat} {A : Option Addr} {cs : Array Value} (h : Blk W H tc cs) (hf : cs[f]?.isSome = true) :
    (Instr.storeAt 26 (.pointer (some ⟨H, f, none⟩)) (.slice A n c)).run Tryz.prog W = .ok () (W.setCell ⟨H, f, none⟩ (.slice A n c)) := by
  have hc := h.cell f
  have hz := h.frozen f
  obtain ⟨x, hx⟩ := Option.isSome_iff_exists.1 hf
  rw [hx] at hc
  simp [go_sem, hc, hz]
end
set_option maxRecDepth 100000 in
set_option maxHeartbeats 8000000 in
theorem attrsFew_any (X : AT) (v : Value) (w : World) (hv : AtR w X v) : Calls Tryz.prog 72 #[v] w (AtP (cutA X) w) := by
  obtain ⟨A, n, c, Bb, m, d, rfl, hP, hC⟩ := hv
  obtain ⟨w1, hw1⟩ : ∃ w1, ((w.alloc (.cells (bxC X (.slice A n c) (.slice Bb m d)) 28)).alloc (.cells zeroC 28)) = w1 := ⟨_, rfl⟩
  have hb1 : Below w.heap.size w w1 := hw1 ▸ ((Below.refl _ w).alloc (Nat.le_refl _) _).alloc (by simp) _
  have HKb : Hid (Blk w1 w.heap.size 28 (bxC X (.slice A n c) (.slice Bb m d))) := hide (hw1 ▸ (Blk.new w _ _).alloc _)
  have HKz : Hid (Blk w1 (w.heap.size + 1) 28 zeroC) := hide (hw1 ▸ blk_new' _ _ (by simp))
  have HLt : Hid (w.heap.size < w1.heap.size) := hide HKb.out.lt
  have HP := hide hP
  have HC := hide hC
  have HB1 := hide hb1
  have HW1 := hide hw1
  obtain ⟨PN, hPN⟩ : ∃ P, cutP X.path = P := ⟨_, rfl⟩
  obtain ⟨CN, hCN⟩ : ∃ C, X.comms.take 260 = C := ⟨_, rfl⟩
  have HCNb : Hid (∀ y ∈ CN, y < 4294967296) := hide (fun y hy => by rw [← hCN] at hy; exact hC.2.2.2.1 y (List.mem_of_mem_take hy))
  have HPN := hide hPN
  have HCN := hide hCN
  have HX : Hid (cutA X = ⟨X.has, X.org, PN, X.hop, X.med, X.pref, X.aas, X.aid, CN⟩) := hide (by unfold cutA; rw [hPN, hCN])
  clear hw1 hb1 hP hC hPN hCN
  go_enter Tryz.func72, Tryz.ntmps72
  go_upto_region 1 with fail
  rw [HW1.out]
  refine wp_region_relH 10 w.heap.size (Nat.le_of_lt HLt.out) [(fun v _ => v = .pointer (some ⟨w.heap.size, 2, none⟩)), (fun v _ => v = .slice A n c), (SlA w1.heap.size PN), (fun v _ => v = .pointer (some ⟨w.heap.size, 8, none⟩)), (fun v _ => v = .slice Bb m d), (SlB w1.heap.size CN), (fun v _ => v = .pointer (some ⟨w.heap.size, 2, none⟩)), (fun _ W => StA w.heap.size w1.heap.size X PN W ), (fun v _ => v = .pointer (some ⟨w.heap.size, 8, none⟩)), (fun _ W => StB w.heap.size w1.heap.size X CN W )] (fun i W => BxA w.heap.size X W ∧ (i = 1 → W.cell? ⟨w.heap.size, 2, none⟩ = some (.slice A n c)) ∧ (i = 4 → W.cell? ⟨w.heap.size, 8, none⟩ = some (.slice Bb m d))) (fun i Wa Wb => if i = 7 then ∃ v, Wb = Wa.setCell ⟨w.heap.size, 2, none⟩ v else if i = 9 then ∃ v, Wb = Wa.setCell ⟨w.heap.size, 8, none⟩ v else Below Wa.heap.size Wa Wb) (by kernel_rfl) (by kernel_rfl) (by kernel_rfl) (by kernel_rfl) (by kernel_rfl) ?hE ?hR ?hP ?h0 ⟨?_, ?_, ?_, ?_, ?_, ?_, ?_, ?_, ?_, ?_, trivial⟩ ?_
  case hE =>
    intro i2 wa wb hB he
    split at he
    · obtain ⟨u, rfl⟩ := he
      exact (Below.refl w.heap.size wa).setCell (p := ⟨w.heap.size, 2, none⟩) (Nat.le_refl _) u
    · split at he
      · obtain ⟨u, rfl⟩ := he
        exact (Below.refl w.heap.size wa).setCell (p := ⟨w.heap.size, 8, none⟩) (Nat.le_refl _) u
      · exact he.mono hB
  case hR =>
    intro i2 j2 v2 wa wb hij hB he h
    split at he
    · rename_i hj2
      subst hj2
      refine keepAll_at (E := fun wa wb => ∃ v, wb = wa.setCell ⟨w.heap.size, 2, none⟩ v) (x := 7) (k := 0) ?_ (by omega) he h
      exact ⟨fun _ v wa wb he h => h, fun _ v wa wb he h => h, fun _ v wa wb he h => by obtain ⟨u, rfl⟩ := he; exact SlA.setv h HLt.out, fun _ v wa wb he h => h, fun _ v wa wb he h => h, fun _ v wa wb he h => by obtain ⟨u, rfl⟩ := he; exact SlB.setv h HLt.out, fun _ v wa wb he h => h, fun hn => absurd rfl hn, fun _ v wa wb he h => h, fun _ v wa wb he h => by obtain ⟨u, rfl⟩ := he; exact StB.set2 h HLt.out, trivial⟩
    · split at he
      · rename_i hj2
        subst hj2
        refine keepAll_at (E := fun wa wb => ∃ v, wb = wa.setCell ⟨w.heap.size, 8, none⟩ v) (x := 9) (k := 0) ?_ (by omega) he h
        exact ⟨fun _ v wa wb he h => h, fun _ v wa wb he h => h, fun _ v wa wb he h => by obtain ⟨u, rfl⟩ := he; exact SlA.setv h HLt.out, fun _ v wa wb he h => h, fun _ v wa wb he h => h, fun _ v wa wb he h => by obtain ⟨u, rfl⟩ := he; exact SlB.setv h HLt.out, fun _ v wa wb he h => h, fun _ v wa wb he h => by obtain ⟨u, rfl⟩ := he; exact StA.set8 h HLt.out, fun _ v wa wb he h => h, fun hn => absurd rfl hn, trivial⟩
      · refine relMono _ ?_ i2 v2 wa wb he h
        exact ⟨fun _ _ _ _ h => h, fun _ _ _ _ h => h, fun v w2 w3 hb h => SlA.below h hb, fun _ _ _ _ h => h, fun _ _ _ _ h => h, fun v w2 w3 hb h => SlB.below h hb, fun _ _ _ _ h => h, fun v w1 w2 hb h => StA.below h hb, fun _ _ _ _ h => h, fun v w1 w2 hb h => StB.below h hb, trivial⟩
  case hP =>
    intro i2 j2 wa wb hij hnb hB he h
    split at he
    · rename_i hj2
      subst hj2
      obtain ⟨u, rfl⟩ := he
      refine ⟨h.1.set2 u, fun e => ?_, fun e => (cell_set_ne (by decide)).trans (h.2.2 e)⟩
      subst e
      exact absurd hnb (by decide +kernel)
    · split at he
      · rename_i hj2
        subst hj2
        obtain ⟨u, rfl⟩ := he
        refine ⟨h.1.set8 u, fun e => (cell_set_ne (by decide)).trans (h.2.1 e), fun e => ?_⟩
        subst e
        exact absurd hnb (by decide +kernel)
      · exact ⟨h.1.below he, fun e => (he.cell h.1.lt_).trans (h.2.1 e), fun e => (he.cell h.1.lt_).trans (h.2.2 e)⟩
  case h0 =>
    intro j2 hj2
    exact ⟨⟨_, _, HKb.out.drew, HKz.out.drew⟩, fun _ => HKb.out.cell 2, fun _ => HKb.out.cell 8⟩
  · refine relG_plain rfl rfl (fun _ _ h => h) ?_
    intro Ac w5 hp
    have hb := hp.bel
    have a1 : Ac.eval (.tmp 1) = .pointer (some ⟨w.heap.size, 0, none⟩) := hp.out 1 (by rfl)
    have hc := evalC Ac; have hf := evalF Ac; have hgl := evalG Ac
    obtain ⟨ρ, hρ⟩ : ∃ ρ, Ac.eval = ρ := ⟨_, rfl⟩
    rw [hρ] at a1 hc hf hgl
    exact relPure hρ (.pointer (some ⟨w.heap.size, 2, none⟩)) (by simp [go_sem, hc, hf, hgl, ↓IntWalk.iteOmega, a1, *]) rfl
  · refine relG_plain rfl rfl (fun _ _ h => h) ?_
    intro Ac w5 hp
    have hb := hp.bel
    have a3 : Ac.eval (.tmp 3) = .pointer (some ⟨w.heap.size, 2, none⟩) := hp.dep 0 (by kernel_rfl)
    have z2 := hp.pre.2.1 rfl
    have hc := evalC Ac; have hf := evalF Ac; have hgl := evalG Ac
    obtain ⟨ρ, hρ⟩ : ∃ ρ, Ac.eval = ρ := ⟨_, rfl⟩
    rw [hρ] at a3 hc hf hgl
    exact relPure hρ (.slice A n c) (by simp [go_sem, hc, hf, hgl, ↓IntWalk.iteOmega, a3, *]) rfl
  · refine relG_plain rfl rfl (fun _ _ h => h) ?_
    intro Ac w5 hp
    have hb := hp.bel
    have a4 : Ac.eval (.tmp 4) = .slice A n c := hp.dep 1 (by kernel_rfl)
    have hc := evalC Ac; have hf := evalF Ac; have hgl := evalG Ac
    obtain ⟨ρ, hρ⟩ : ∃ ρ, Ac.eval = ρ := ⟨_, rfl⟩
    rw [hρ] at a4 hc hf hgl
    refine relCall hρ 134 #[.slice A n c] (by simp [go_sem, hc, hf, hgl, ↓IntWalk.iteOmega, a4, *]) ?_
    refine (pathFew_any A n c X.path w5 (HP.out.below sgMono (HB1.out.trans hp.bel))).mono ?_
    intro e w6 hmv
    unfold SegP at hmv
    obtain ⟨A6, n6, c6, xs6, rfl, hl6, hb6⟩ := hmv
    rw [HPN.out] at hl6
    exact ⟨_, rfl, ⟨A6, n6, c6, xs6, rfl, hl6.less hp.bel.size hp.bel.size⟩, hb6⟩
  · refine relG_plain rfl rfl (fun _ _ h => h) ?_
    intro Ac w5 hp
    have hb := hp.bel
    have a1 : Ac.eval (.tmp 1) = .pointer (some ⟨w.heap.size, 0, none⟩) := hp.out 1 (by rfl)
    have hc := evalC Ac; have hf := evalF Ac; have hgl := evalG Ac
    obtain ⟨ρ, hρ⟩ : ∃ ρ, Ac.eval = ρ := ⟨_, rfl⟩
    rw [hρ] at a1 hc hf hgl
    exact relPure hρ (.pointer (some ⟨w.heap.size, 8, none⟩)) (by simp [go_sem, hc, hf, hgl, ↓IntWalk.iteOmega, a1, *]) rfl
  · refine relG_plain rfl rfl (fun _ _ h => h) ?_
    intro Ac w5 hp
    have hb := hp.bel
    have a6 : Ac.eval (.tmp 6) = .pointer (some ⟨w.heap.size, 8, none⟩) := hp.dep 3 (by kernel_rfl)
    have z8 := hp.pre.2.2 rfl
    have hc := evalC Ac; have hf := evalF Ac; have hgl := evalG Ac
    obtain ⟨ρ, hρ⟩ : ∃ ρ, Ac.eval = ρ := ⟨_, rfl⟩
    rw [hρ] at a6 hc hf hgl
    exact relPure hρ (.slice Bb m d) (by simp [go_sem, hc, hf, hgl, ↓IntWalk.iteOmega, a6, *]) rfl
  · refine relG_plain rfl rfl (fun _ _ h => h) ?_
    intro Ac w5 hp
    have hb := hp.bel
    have a7 : Ac.eval (.tmp 7) = .slice Bb m d := hp.dep 4 (by kernel_rfl)
    have hc := evalC Ac; have hf := evalF Ac; have hgl := evalG Ac
    obtain ⟨ρ, hρ⟩ : ∃ ρ, Ac.eval = ρ := ⟨_, rfl⟩
    rw [hρ] at a7 hc hf hgl
    refine relCall hρ 135 #[.slice Bb m d, .int .i64 (260 : Nat)] (by simp [go_sem, hc, hf, hgl, ↓IntWalk.iteOmega, a7, *]) ?_
    refine (few_any Bb m d X.comms 260 (by decide) w5 (HC.out.below (HB1.out.trans hp.bel))).mono ?_
    rintro e w6 ⟨v6, rfl, ho6, hb6⟩
    rw [HCN.out] at ho6
    obtain ⟨A6, c6, rfl⟩ := own_slice ho6
    exact ⟨_, rfl, ⟨A6, _, c6, rfl, own_u32_fr ho6 HCNb.out hp.bel.size (fun k hk => by cases hk)⟩, hb6⟩
  · refine relG_plain rfl rfl (fun _ _ h => h) ?_
    intro Ac w5 hp
    have hb := hp.bel
    have a1 : Ac.eval (.tmp 1) = .pointer (some ⟨w.heap.size, 0, none⟩) := hp.out 1 (by rfl)
    have hc := evalC Ac; have hf := evalF Ac; have hgl := evalG Ac
    obtain ⟨ρ, hρ⟩ : ∃ ρ, Ac.eval = ρ := ⟨_, rfl⟩
    rw [hρ] at a1 hc hf hgl
    exact relPure hρ (.pointer (some ⟨w.heap.size, 2, none⟩)) (by simp [go_sem, hc, hf, hgl, ↓IntWalk.iteOmega, a1, *]) rfl
  · refine relG_store rfl ?_
    intro Ac w5 hp
    have hb := hp.bel
    have a9 : Ac.eval (.tmp 9) = .pointer (some ⟨w.heap.size, 2, none⟩) := hp.dep 6 (by kernel_rfl)
    obtain ⟨A5, n5, c5, xs5, a5, hl5⟩ := hp.dep 2 (by kernel_rfl)
    change Ac.eval (.tmp 5) = _ at a5
    have a9 : Ac.eval (.tmp 9) = .pointer (some ⟨w.heap.size, 2, none⟩) := hp.dep 6 (by kernel_rfl)
    obtain ⟨A5, n5, c5, xs5, ec, hl5⟩ := hp.dep 2 (by kernel_rfl)
    change Ac.eval (.tmp 5) = _ at ec
    obtain ⟨x2, x8, hk, hz⟩ := hp.pre.1
    have HK := hide hk
    have HZ := hide (hz.far (p := ⟨w.heap.size, 2, none⟩) (by show w.heap.size + 1 ≠ w.heap.size; omega) (.slice A5 n5 c5))
    have HL := hide hl5
    clear hp
    refine ⟨w5.setCell ⟨w.heap.size, 2, none⟩ (.slice A5 n5 c5), .inl (exec_store rfl a9 ec (st1A HK.out rfl)), ?_, ⟨_, rfl⟩⟩
    exact ⟨_, x8, HK.out.set_ 2 _, HZ.out, ⟨A5, n5, c5, xs5, rfl, HL.out.set HLt.out HLt.out _⟩⟩
  · refine relG_plain rfl rfl (fun _ _ h => h) ?_
    intro Ac w5 hp
    have hb := hp.bel
    have a1 : Ac.eval (.tmp 1) = .pointer (some ⟨w.heap.size, 0, none⟩) := hp.out 1 (by rfl)
    have hc := evalC Ac; have hf := evalF Ac; have hgl := evalG Ac
    obtain ⟨ρ, hρ⟩ : ∃ ρ, Ac.eval = ρ := ⟨_, rfl⟩
    rw [hρ] at a1 hc hf hgl
    exact relPure hρ (.pointer (some ⟨w.heap.size, 8, none⟩)) (by simp [go_sem, hc, hf, hgl, ↓IntWalk.iteOmega, a1, *]) rfl
  · refine relG_store rfl ?_
    intro Ac w5 hp
    have hb := hp.bel
    have a10 : Ac.eval (.tmp 10) = .pointer (some ⟨w.heap.size, 8, none⟩) := hp.dep 8 (by kernel_rfl)
    obtain ⟨A8, n8, c8, a8, hu8⟩ := hp.dep 5 (by kernel_rfl)
    change Ac.eval (.tmp 8) = _ at a8
    have a10 : Ac.eval (.tmp 10) = .pointer (some ⟨w.heap.size, 8, none⟩) := hp.dep 8 (by kernel_rfl)
    obtain ⟨A8, n8, c8, ec, hu8⟩ := hp.dep 5 (by kernel_rfl)
    change Ac.eval (.tmp 8) = _ at ec
    obtain ⟨x2, x8, hk, hz⟩ := hp.pre.1
    have HK := hide hk
    have HZ := hide (hz.far (p := ⟨w.heap.size, 8, none⟩) (by show w.heap.size + 1 ≠ w.heap.size; omega) (.slice A8 n8 c8))
    have HL := hide hu8
    clear hp
    refine ⟨w5.setCell ⟨w.heap.size, 8, none⟩ (.slice A8 n8 c8), .inl (exec_store rfl a10 ec (st1B HK.out rfl)), ?_, ⟨_, rfl⟩⟩
    exact ⟨x2, _, HK.out.set_ 8 _, HZ.out, ⟨A8, n8, c8, rfl, HL.out.set (p := ⟨w.heap.size, 8, none⟩) HLt.out _⟩⟩
  intro u w7 hb7 hall
  have efin : StA w.heap.size w1.heap.size X PN w7  := relAll_at hall (i := 7) (by decide +kernel)
  have efin1 : StB w.heap.size w1.heap.size X CN w7  := relAll_at hall (i := 9) (by decide +kernel)
  clear hall
  simp only [List.drop_succ_cons, List.drop_zero, List.take_succ_cons, List.take_zero, putAll, Act.put, List.setIfInBounds_toArray, List.set_cons_zero, List.set_cons_succ, Nat.zero_add, Nat.reduceAdd, ]
  obtain ⟨A8, n8, c8, xs8, B8, m8, d8, hk, hz, hl, hu⟩ := st_both efin efin1
  have HK := hide hk
  have HZ := hide hz
  have HB7 := hide (HB1.out.trans hb7)
  have HO := hide (show AtO w1.heap.size w7 ⟨X.has, X.org, PN, X.hop, X.med, X.pref, X.aas, X.aid, CN⟩ (atV X.has X.org A8 n8 c8 X.hop X.med X.pref X.aas X.aid B8 m8 d8) from ⟨A8, n8, c8, xs8, B8, m8, d8, rfl, hl, hu⟩)
  rw [← HX.out] at HO
  have hlt : w.heap.size + 1 < w1.heap.size := HKz.out.lt
  clear efin efin1 hk hz hl hu hb7
  obtain ⟨a0, a1, a2, a3, a4, a5, a6, a7, a8⟩ := blk9 HK.out
  obtain ⟨z0, z1, z2, z3, z4, z5, z6, z7, z8⟩ := blk9 HZ.out
  have zf := fun i => HZ.out.frozen i
  go_wp2
  change bodyPost _ _ _ _ _ (w7.setCells (w.heap.size + 1) 0 [.int .i64 X.has, .int .i64 X.org, .slice A8 n8 c8, .int .u32 X.hop, .int .u32 X.med, .int .u32 X.pref, .int .u32 X.aas, .int .u32 X.aid, .slice B8 m8 d8])
  obtain ⟨wF, hwF⟩ : ∃ x, w7.setCells (w.heap.size + 1) 0 [.int .i64 X.has, .int .i64 X.org, .slice A8 n8 c8, .int .u32 X.hop, .int .u32 X.med, .int .u32 X.pref, .int .u32 X.aas, .int .u32 X.aid, .slice B8 m8 d8] = x := ⟨_, rfl⟩
  have HFk := hide (hwF ▸ blk9_set HZ.out : Blk wF (w.heap.size + 1) 28 (atC X.has X.org A8 n8 c8 X.hop X.med X.pref X.aas X.aid B8 m8 d8))
  have HFo := hide (hwF ▸ AtO.sets _ 0 HO.out hlt : AtO w1.heap.size wF (cutA X) (atV X.has X.org A8 n8 c8 X.hop X.med X.pref X.aas X.aid B8 m8 d8))
  have HFb := hide (hwF ▸ below_sets _ 0 HB7.out (by omega) : Below w.heap.size w wF)
  rw [hwF]
  clear hwF z0 z1 z2 z3 z4 z5 z6 z7 z8 zf a0 a1 a2 a3 a4 a5 a6 a7 a8
  obtain ⟨z0, z1, z2, z3, z4, z5, z6, z7, z8⟩ := blk9 HFk.out
  exact bodyPost_ret (v := atV X.has X.org A8 n8 c8 X.hop X.med X.pref X.aas X.aid B8 m8 d8) (by simp [results, Tryz.results72, go_sem, z0, z1, z2, z3, z4, z5, z6, z7, z8]) rfl ⟨_, rfl, HFo.out.less (b' := w.heap.size) (by omega), HFb.out⟩
end Go.Proofs.YtcinjckajnnhmaaGreat
set_option linter.unusedSimpArgs false
set_option linter.unusedVariables false
namespace Go.Proofs.YtcinjckajnnhmaaGreat
open Go.RowKit Go.WideShapes Go.ChangeShapes
attribute [local go_sem] Oper.semAt_some
/-- A route, its attributes wherever they lie. -/
structure RT where
  pa : Int
  pl : Int
  at_ : AT
  A : Option Addr
  n : Nat
  c : Nat
  B : Option Addr
  m : Nat
  d : Nat
  rp : Int
  ra : Int
  ri : Int
  inn : Bool
  loc : Bool
theorem blk_sets_far {g H : Nat} {t : TypeId} {cs : Array Value} (hne : g ≠ H) : ∀ (vs : List Value) (i : Nat) {w : World}, Blk w g t cs → Blk (w.setCells H i vs) g t cs
  | [], _, _, h => h
  | v :: vs, i, _, h => blk_sets_far hne vs (i + 1) (h.far (p := ⟨H, i, none⟩) hne v)
end Go.Proofs.YtcinjckajnnhmaaGreat
set_option linter.unusedSimpArgs false
set_option linter.unusedVariables false
namespace Go.Proofs.YtcinjckajnnhmaaGreat
open Go.RowKit Go.WideShapes Go.ChangeShapes
attribute [local go_sem] Oper.semAt_some
/-- What is told of blocks that lie says nothing of one that does not lie yet. -/
theorem fr_new {Bq : Nat} {R : World → Prop} {w wr : World} {ob : Option Nat} (h : FrB Bq none R w) (hb : Below w.heap.size w wr) (hob : ∀ k, ob = some k → w.heap.size ≤ k) : FrB Bq ob R wr := by
  intro w' ha
  refine h w' ⟨Nat.le_trans hb.size ha.1, fun k o hk ho hc _ => ?_⟩
  have hl := heap_lt ho
  exact ha.2 k o hk ((hb.block k hl).trans ho) hc (fun e => by have := hob k e.symm; omega)
end Go.Proofs.YtcinjckajnnhmaaGreat
set_option linter.unusedSimpArgs false
set_option linter.unusedVariables false
namespace Go.Proofs.YtcinjckajnnhmaaGreat
open Go.RowKit Go.WideShapes Go.ChangeShapes
attribute [local go_sem] Oper.semAt_some
theorem blkBelow2 (w : World) (a b : Obj) : Below w.heap.size w ((w.alloc a).alloc b) := ((Below.refl _ w).alloc (Nat.le_refl _) _).alloc (by simp) _
end Go.Proofs.YtcinjckajnnhmaaGreat
set_option linter.unusedSimpArgs false
set_option linter.unusedVariables false
namespace Go.Proofs.YtcinjckajnnhmaaGreat
open Go.RowKit Go.WideShapes Go.ChangeShapes
attribute [local go_sem] Oper.semAt_some
theorem lenA {l : List Value} (h0 : VOk 9 l) : ∃ v0 v1 v2 v3 v4 v5 v6 v7 v8, l = [v0, v1, v2, v3, v4, v5, v6, v7, v8] := by
  have h := h0.1
  clear h0
  obtain _ | ⟨v0, l⟩ := l
  · simp at h
  obtain _ | ⟨v1, l⟩ := l
  · simp at h
  obtain _ | ⟨v2, l⟩ := l
  · simp at h
  obtain _ | ⟨v3, l⟩ := l
  · simp at h
  obtain _ | ⟨v4, l⟩ := l
  · simp at h
  obtain _ | ⟨v5, l⟩ := l
  · simp at h
  obtain _ | ⟨v6, l⟩ := l
  · simp at h
  obtain _ | ⟨v7, l⟩ := l
  · simp at h
  obtain _ | ⟨v8, l⟩ := l
  · simp at h
  obtain _ | ⟨x, l⟩ := l
  · exact ⟨_, _, _, _, _, _, _, _, _, rfl⟩
  · simp at h
set_option maxRecDepth 100000 in
theorem countA_any {α : Type} {F : Nat → Prop} {R : World → List Value → α → Prop} (t : Tr α) (w : World) (h : TrW 9 205 F R w t) : Calls Tryz.prog 175 #[trPtr t] w fun e w' => e = .returned (.int .i64 (trCnt t : Int)) ∧ w' = w := by
  cases t with
  | nil =>
    show Calls Tryz.prog 175 #[.pointer none] w _
    go_enter Tryz.func175, Tryz.ntmps175
    go_wp2
    go_ret
    exact ⟨rfl, rfl⟩
  | nd b a n v l r =>
    obtain ⟨⟨vs, hv, hk, _⟩, _, _⟩ := h
    obtain ⟨v0, v1, v2, v3, v4, v5, v6, v7, v8, rfl⟩ := lenA hv
    show Calls Tryz.prog 175 #[.pointer (some ⟨b, 0, none⟩)] w _
    have z : w.cell? ⟨b, 12, none⟩ = some (.int .i64 ((trCnt l + trCnt r + (if v.isSome then 1 else 0) : Nat) : Int)) := hk.cell 12
    have HR : Hid (trCnt (.nd b a n v l r) = trCnt l + trCnt r + (if v.isSome then 1 else 0)) := hide rfl
    obtain ⟨c, hc⟩ : ∃ c, trCnt l + trCnt r + (if v.isSome then 1 else 0) = c := ⟨_, rfl⟩
    rw [hc] at z HR
    clear hk hc
    go_enter Tryz.func175, Tryz.ntmps175
    go_wp2
    go_ret
    exact ⟨by rw [HR.out]; rfl, rfl⟩
set_option maxRecDepth 100000 in
theorem side_any (a n b m : Nat) (hb : b < 4294967296) (hn : n ≤ 31) (w : World) : Calls Tryz.prog 186 #[.agg #[.int .u32 (a : Int), .int .i64 (n : Int)], .agg #[.int .u32 (b : Int), .int .i64 (m : Int)]] w fun e w' => e = .returned (.int .i64 ((bitN b n : Nat) : Int)) ∧ Below w.heap.size w w' := by
  have HB := hide (blkBelow2 w (.cells #[.int .u32 (a : Int), .int .i64 (n : Int)] 24) (.cells #[.int .u32 (b : Int), .int .i64 (m : Int)] 24))
  obtain ⟨k0, k1, k2, k3⟩ := boxes w (.int .u32 (a : Int)) (.int .i64 (n : Int)) (.int .u32 (b : Int)) (.int .i64 (m : Int)) 24 24
  have HBi := hide (fun W => bit_in b n hb hn W)
  clear k0 k1 k2 k3
  go_enter Tryz.func186, Tryz.ntmps186
  go_wp2_with fail
  refine (HBi.out _).mono ?_
  rintro e w1 ⟨rfl, rfl⟩
  go_wp2
  go_ret
  exact ⟨rfl, HB.out⟩
theorem covB_pg {a n b m : Nat} (ha : PG a n) (hb : PG b m) : covB a (n : Int) b (m : Int) = decide (CvN a n b m) := by
  have h1 := ha.2.1
  have h2 := hb.2.1
  have h3 := ha.2.2
  have h4 := hb.2.2
  unfold covB hasB goodB
  simp only [Int.toNat_natCast, h3, h4, BEq.rfl, Bool.and_true]
  rw [Bool.eq_iff_iff]
  simp only [Bool.and_eq_true, decide_eq_true_eq, beq_iff_eq]
  unfold CvN
  constructor
  · rintro ⟨⟨h5, h6⟩, h7, h8⟩
    exact ⟨by omega, h8⟩
  · rintro ⟨h5, h6⟩
    exact ⟨⟨⟨by omega, by omega⟩, by omega⟩, ⟨by omega, by omega⟩, h6⟩
theorem cov_pg {a n b m : Nat} (ha : PG a n) (hb : PG b m) (w : World) : Calls Tryz.prog 185 #[.agg #[.int .u32 (a : Int), .int .i64 (n : Int)], .agg #[.int .u32 (b : Int), .int .i64 (m : Int)]] w (GoodP (decide (CvN a n b m)) w) := by
  rw [← covB_pg ha hb]
  exact Covers_any a n b m ha.1 hb.1 (by omega) (by have := ha.2.1; omega) (by omega) (by have := hb.2.1; omega) w
theorem good_pg {a n : Nat} (h : PG a n) : goodB a (n : Int) = true := by
  have h1 := h.2.1
  have h2 := h.2.2
  unfold goodB
  simp only [Int.toNat_natCast, h2, BEq.rfl, Bool.and_true, Bool.and_eq_true, decide_eq_true_eq]
  omega
theorem blkBelow3q (w : World) (o1 o2 o3 : Obj) : Below w.heap.size w (((w.alloc o1).alloc o2).alloc o3) := (blkBelow2 w o1 o2).alloc (by simp; omega) _
end Go.Proofs.YtcinjckajnnhmaaGreat
set_option linter.unusedSimpArgs false
set_option linter.unusedVariables false
namespace Go.Proofs.YtcinjckajnnhmaaGreat
open Go.RowKit Go.WideShapes Go.ChangeShapes
attribute [local go_sem] Oper.semAt_some
/-- The node of a prefix. -/
def trFind {α : Type} (c k : Nat) : Tr α → Tr α
  | .nil => .nil
  | .nd b a n v l r => if CvN a n c k then (if a = c ∧ n = k then .nd b a n v l r else if bitN c n = 0 then trFind c k l else trFind c k r) else .nil
/-- How far down a node stands: for a measure. -/
def trDown (a : Act) (w : World) : Nat := match a.tmps.getD 5 undef with
  | .pointer (some p) => 33 - cellNat w ⟨p.block, 1, none⟩
  | _ => 0
def trRank {α : Type} : Tr α → Nat
  | .nil => 0
  | .nd _ _ n _ _ _ => 33 - n
theorem trRank_in {α : Type} {a n i : Nat} {t : Tr α} (h : trIn a n i t) (hn : n ≤ 32) : trRank t < 33 - n := by
  cases t with
  | nil => show 0 < 33 - n; omega
  | nd b p m v l r => have := h.1; show 33 - m < 33 - n; omega
/-- A scope in whose midst the label stands that its jumps go to: one walk of what lies behind the label serves the first time and every jump. -/
theorem wp_scope_mid {P : Program} {Q : Exit → Act → World → Prop} {a : Act} {w : World} {c X : Code} (l : Nat) (J : Act → World → Prop) (μ : Act → World → Nat) (hf : findLabel c l = some (.seq .skip X))
    (first : (∀ a w, J a w → X.wp P (Exit.jump l J Q) a w) → c.wp P (Exit.jump l J Q) a w) (pass : ∀ a w, J a w → X.wp P (Exit.jump l (fun a' w' => J a' w' ∧ μ a' w' < μ a w) Q) a w) : (Code.scope c).wp P Q a w :=
  wp_scope_jumps l J μ hf (first fun a w h => wp_mono (pass a w h) fun e a w h => by cases e <;> first | exact h | exact ⟨h.1, h.2.1⟩) (fun a w h => wp_seq (wp_skip (pass a w h)))
theorem blkBelow1 (w : World) (o1 : Obj) : Below w.heap.size w (w.alloc o1) := (Below.refl _ w).alloc (Nat.le_refl _) _
theorem trDownA {α : Type} {F : Nat → Prop} {R : World → List Value → α → Prop} {w : World} {s : Tr α} {a : Act} (h : TrW 9 205 F R w s) (e : a.tmps.getD 5 undef = trPtr s) : trDown a w = trRank s := by
  cases s with
  | nil => unfold trDown; rw [e]; rfl
  | nd b c n v l r =>
    obtain ⟨⟨vs, hv, hk, _⟩, _, _⟩ := h
    unfold trDown
    rw [e]
    have hz : w.cell? ⟨b, 1, none⟩ = some (.int .i64 (n : Int)) := hk.cell 1
    show 33 - cellNat w ⟨b, 1, none⟩ = 33 - n
    rw [cellNat_of hz]
def FindJA {α : Type} (F : Nat → Prop) (R : World → List Value → α → Prop) (g c k : Nat) (t : Tr α) (w : World) (a' : Act) (w' : World) : Prop := ∃ (s : Tr α) (xb : Nat) (l : List Value), a' = ⟨(.pointer (some ⟨g, 0, none⟩) :: .agg #[.int .u32 (c : Int), .int .i64 (k : Int)] :: undef :: .pointer (some ⟨xb, 0, none⟩) :: .pointer none :: trPtr s :: l).toArray, []⟩ ∧ l.length = 40 ∧
  TrW 9 205 F R w' s ∧ trWf s ∧ trFind c k s = trFind c k t ∧ Blk w' xb 24 #[.int .u32 (c : Int), .int .i64 (k : Int)] ∧ Below w.heap.size w w'
set_option maxRecDepth 100000 in
set_option maxHeartbeats 8000000 in
theorem findA_any {α : Type} {F : Nat → Prop} {R : World → List Value → α → Prop} (g c k : Nat) (t : Tr α) (w : World) (hc : PG c k) (hg : Blk w g 201 #[trPtr t]) (h : TrW 9 205 F R w t) (hw : trWf t) :
    Calls Tryz.prog 140 #[.pointer (some ⟨g, 0, none⟩), .agg #[.int .u32 (c : Int), .int .i64 (k : Int)]] w fun e w' => e = .returned (trPtr (trFind c k t)) ∧ Below w.heap.size w w' := by
  have HGd := hide (Good_any c (k : Int) hc.1 (by omega) (by have := hc.2.1; omega))
  rw [good_pg hc] at HGd
  unfold pfx at HGd
  obtain ⟨w0, hw0⟩ : ∃ w0, w.alloc (.cells #[.int .u32 (c : Int), .int .i64 (k : Int)] 24) = w0 := ⟨_, rfl⟩
  have hb0 : Below w.heap.size w w0 := hw0 ▸ blkBelow1 w _
  have HX0 : Hid (Blk w0 w.heap.size 24 #[.int .u32 (c : Int), .int .i64 (k : Int)]) := hide (hw0 ▸ Blk.new w _ _)
  have HB0 := hide hb0
  have HG := hide hg
  have HT := hide h
  have HWf := hide hw
  have HPc := hide hc
  have HW0 := hide hw0
  clear hw0 hb0 hg h hw hc
  go_enter Tryz.func140, Tryz.ntmps140
  have x0 : w0.cell? ⟨w.heap.size, 0, none⟩ = some (.int .u32 (c : Int)) := HX0.out.cell 0
  have x1 : w0.cell? ⟨w.heap.size, 1, none⟩ = some (.int .i64 (k : Int)) := HX0.out.cell 1
  go_wp2
  rw [HW0.out]
  refine wp_scope_mid 0 (FindJA F R g c k t w) trDown rfl ?_ ?_
  · intro HPass
    go_wp2_with fail
    refine (HGd.out _).mono ?_
    rintro e w1 ⟨rfl, hb1⟩
    have HB1 := hide (HB0.out.trans (hb1.mono HB0.out.size))
    have HX1 := hide (HX0.out.below hb1 HX0.out.lt)
    have z : w1.cell? ⟨g, 0, none⟩ = some (trPtr t) := (HG.out.below HB1.out HG.out.lt).cell 0
    clear hb1 x0 x1
    go_wp2
    go_step3
    rename_i hK
    refine hK _ _ (HPass _ _ ?_)
    refine ⟨t, w.heap.size, _, rfl, rfl, ?_⟩
    exact ⟨HT.out.chg (S := fun _ => False) (chg_below HB1.out) (by simp) (by simp), HWf.out, rfl, HX1.out, HB1.out⟩
  rintro a1 w2 ⟨s, xb, l0, rfl, hl0, hs, hsw, hsf, hxb, hb2⟩
  obtain ⟨u, rfl⟩ := list_fn hl0
  clear hl0 x0 x1
  rw [show (List.range 40).map u = [u 0, u 1, u 2, u 3, u 4, u 5, u 6, u 7, u 8, u 9, u 10, u 11, u 12, u 13, u 14, u 15, u 16, u 17, u 18, u 19, u 20, u 21, u 22, u 23, u 24, u 25, u 26, u 27, u 28, u 29, u 30, u 31, u 32, u 33, u 34, u 35, u 36, u 37, u 38, u 39] from rfl]
  have HX := hide hxb
  have HB2 := hide hb2
  have HSf := hide hsf
  clear hxb hb2 hsf HX0 HG HT HWf HGd
  cases s with
  | nil =>
    have e0 : trPtr (.nil : Tr α) = .pointer none := rfl
    rw [e0]
    have HR : Hid (trPtr (trFind c k t) = .pointer none) := hide (by rw [← HSf.out]; rfl)
    clear e0 hs hsw
    go_upto_region 4 with fail
    go_quiet (fail)
    go_wp2
    simp only [Exit.jump]
    go_ret
    exact ⟨by rw [HR.out]; rfl, below_drewN HB2.out _⟩
  | nd b a n v l r =>
    have e0 : trPtr (.nd b a n v l r) = .pointer (some ⟨b, 0, none⟩) := rfl
    rw [e0]
    clear e0
    obtain ⟨⟨vs, hv, hk, hval⟩, hl, hr⟩ := hs
    obtain ⟨v0, v1, v2, v3, v4, v5, v6, v7, v8, rfl⟩ := lenA hv
    obtain ⟨hga, hil, hir, hwl, hwr⟩ := hsw
    have HN := hide hk
    have HN0 := hide hk
    have HL := hide hl
    have HRr := hide hr
    have HGa := hide hga
    have HIl := hide hil
    have HIr := hide hir
    have HWl := hide hwl
    have HWr := hide hwr
    have HCv := hide (fun W => cov_pg hga HPc.out W)
    clear hk hl hr hga hil hir hwl hwr hv hval
    by_cases hcv : CvN a n c k
    · rw [decide_eq_true hcv] at HCv
      have HCvP := hide hcv
      clear hcv
      go_upto_region 4 with fail
      have Hmn := hide (show AllMono [(fun v _ => v = .pointer (some ⟨b, 0, none⟩)), (fun v _ => v = .bool false), (fun v _ => v = .bool false), (fun v _ => v = .pointer (some ⟨b, 0, none⟩)), (fun v _ => v = .pointer (some ⟨b, 0, none⟩)), (fun v _ => v = .pointer (some ⟨b, 0, none⟩)), (fun v _ => v = .agg #[.int .u32 (a : Int), .int .i64 (n : Int)]), (fun v _ => v = .agg #[.int .u32 (c : Int), .int .i64 (k : Int)]), (fun v _ => v = .bool true), (fun v _ => v = .bool false), (fun v _ => v = .bool false)] from ⟨fun _ _ _ _ h => h, fun _ _ _ _ h => h, fun _ _ _ _ h => h, fun _ _ _ _ h => h, fun _ _ _ _ h => h, fun _ _ _ _ h => h, fun _ _ _ _ h => h, fun _ _ _ _ h => h, fun _ _ _ _ h => h, fun _ _ _ _ h => h, fun _ _ _ _ h => h, trivial⟩)
      refine wp_region_rel _ (by kernel_rfl) (by kernel_rfl) (relMono _ Hmn.out) ⟨?_, ?_, ?_, ?_, ?_, ?_, ?_, ?_, ?_, ?_, ?_, trivial⟩ ?_
      · refine relStep_plain rfl ?_
        intro Ac w5 hp
        have hb := hp.bel
        have a5 : Ac.eval (.tmp 5) = .pointer (some ⟨b, 0, none⟩) := hp.out 5 (by rfl)
        have hc := evalC Ac; have hf := evalF Ac; have hgl := evalG Ac
        obtain ⟨ρ, hρ⟩ : ∃ ρ, Ac.eval = ρ := ⟨_, rfl⟩
        rw [hρ] at a5 hc hf hgl
        exact relPure hρ (.pointer (some ⟨b, 0, none⟩)) (by simp [go_sem, hc, hf, hgl, ↓IntWalk.iteOmega, a5, *]) rfl
      · refine relStep_plain rfl ?_
        intro Ac w5 hp
        have hb := hp.bel
        have a17 : Ac.eval (.tmp 17) = .pointer (some ⟨b, 0, none⟩) := hp.dep 0 (by kernel_rfl)
        have hc := evalC Ac; have hf := evalF Ac; have hgl := evalG Ac
        obtain ⟨ρ, hρ⟩ : ∃ ρ, Ac.eval = ρ := ⟨_, rfl⟩
        rw [hρ] at a17 hc hf hgl
        exact relPure hρ (.bool false) (by simp [go_sem, hc, hf, hgl, ↓IntWalk.iteOmega, a17, *]) rfl
      · refine relStep_plain rfl ?_
        intro Ac w5 hp
        have hb := hp.bel
        have a18 : Ac.eval (.tmp 18) = .bool false := hp.dep 1 (by kernel_rfl)
        have hc := evalC Ac; have hf := evalF Ac; have hgl := evalG Ac
        obtain ⟨ρ, hρ⟩ : ∃ ρ, Ac.eval = ρ := ⟨_, rfl⟩
        rw [hρ] at a18 hc hf hgl
        exact relPure hρ (.bool false) (by simp [go_sem, hc, hf, hgl, ↓IntWalk.iteOmega, a18, *]) rfl
      · refine relStep_guard (g := 2) (b := false) (x := false) rfl (by kernel_rfl) rfl (by kernel_rfl) rfl (fun _ _ h => h) ?_
        intro Ac w5 hp
        have hb := hp.bel
        have a5 : Ac.eval (.tmp 5) = .pointer (some ⟨b, 0, none⟩) := hp.out 5 (by rfl)
        have hc := evalC Ac; have hf := evalF Ac; have hgl := evalG Ac
        obtain ⟨ρ, hρ⟩ : ∃ ρ, Ac.eval = ρ := ⟨_, rfl⟩
        rw [hρ] at a5 hc hf hgl
        exact relPure hρ (.pointer (some ⟨b, 0, none⟩)) (by simp [go_sem, hc, hf, hgl, ↓IntWalk.iteOmega, a5, *]) rfl
      · refine relStep_guard (g := 2) (b := false) (x := false) rfl (by kernel_rfl) rfl (by kernel_rfl) rfl (fun _ _ h => h) ?_
        intro Ac w5 hp
        have hb := hp.bel
        have a20 : Ac.eval (.tmp 20) = .pointer (some ⟨b, 0, none⟩) := hp.dep 3 (by kernel_rfl)
        have hc := evalC Ac; have hf := evalF Ac; have hgl := evalG Ac
        obtain ⟨ρ, hρ⟩ : ∃ ρ, Ac.eval = ρ := ⟨_, rfl⟩
        rw [hρ] at a20 hc hf hgl
        exact relPure hρ (.pointer (some ⟨b, 0, none⟩)) (by simp [go_sem, hc, hf, hgl, ↓IntWalk.iteOmega, a20, *]) rfl
      · refine relStep_guard (g := 2) (b := false) (x := false) rfl (by kernel_rfl) rfl (by kernel_rfl) rfl (fun _ _ h => h) ?_
        intro Ac w5 hp
        have hb := hp.bel
        have a21 : Ac.eval (.tmp 21) = .pointer (some ⟨b, 0, none⟩) := hp.dep 4 (by kernel_rfl)
        have hc := evalC Ac; have hf := evalF Ac; have hgl := evalG Ac
        obtain ⟨ρ, hρ⟩ : ∃ ρ, Ac.eval = ρ := ⟨_, rfl⟩
        rw [hρ] at a21 hc hf hgl
        exact relPure hρ (.pointer (some ⟨b, 0, none⟩)) (by simp [go_sem, hc, hf, hgl, ↓IntWalk.iteOmega, a21, *]) rfl
      · refine relStep_guard (g := 2) (b := false) (x := false) rfl (by kernel_rfl) rfl (by kernel_rfl) rfl (fun _ _ h => h) ?_
        intro Ac w5 hp
        have hb := hp.bel
        have a22 : Ac.eval (.tmp 22) = .pointer (some ⟨b, 0, none⟩) := hp.dep 5 (by kernel_rfl)
        have hk5 := HN.out.below hb HN.out.lt
        have hx5 := HX.out.below hb HX.out.lt
        have y0 : w5.cell? ⟨b, 0, none⟩ = some (.int .u32 (a : Int)) := hk5.cell 0
        have y1 : w5.cell? ⟨b, 1, none⟩ = some (.int .i64 (n : Int)) := hk5.cell 1
        have x0 : w5.cell? ⟨xb, 0, none⟩ = some (.int .u32 (c : Int)) := hx5.cell 0
        have x1 : w5.cell? ⟨xb, 1, none⟩ = some (.int .i64 (k : Int)) := hx5.cell 1
        have hc := evalC Ac; have hf := evalF Ac; have hgl := evalG Ac
        obtain ⟨ρ, hρ⟩ : ∃ ρ, Ac.eval = ρ := ⟨_, rfl⟩
        rw [hρ] at a22 hc hf hgl
        exact relPure hρ (.agg #[.int .u32 (a : Int), .int .i64 (n : Int)]) (by simp [go_sem, hc, hf, hgl, ↓IntWalk.iteOmega, a22, *]) rfl
      · refine relStep_guard (g := 2) (b := false) (x := false) rfl (by kernel_rfl) rfl (by kernel_rfl) rfl (fun _ _ h => h) ?_
        intro Ac w5 hp
        have hb := hp.bel
        have a3 : Ac.eval (.tmp 3) = .pointer (some ⟨xb, 0, none⟩) := hp.out 3 (by rfl)
        have hk5 := HN.out.below hb HN.out.lt
        have hx5 := HX.out.below hb HX.out.lt
        have y0 : w5.cell? ⟨b, 0, none⟩ = some (.int .u32 (a : Int)) := hk5.cell 0
        have y1 : w5.cell? ⟨b, 1, none⟩ = some (.int .i64 (n : Int)) := hk5.cell 1
        have x0 : w5.cell? ⟨xb, 0, none⟩ = some (.int .u32 (c : Int)) := hx5.cell 0
        have x1 : w5.cell? ⟨xb, 1, none⟩ = some (.int .i64 (k : Int)) := hx5.cell 1
        have hc := evalC Ac; have hf := evalF Ac; have hgl := evalG Ac
        obtain ⟨ρ, hρ⟩ : ∃ ρ, Ac.eval = ρ := ⟨_, rfl⟩
        rw [hρ] at a3 hc hf hgl
        exact relPure hρ (.agg #[.int .u32 (c : Int), .int .i64 (k : Int)]) (by simp [go_sem, hc, hf, hgl, ↓IntWalk.iteOmega, a3, *]) rfl
      · refine relStep_guard (g := 2) (b := false) (x := false) rfl (by kernel_rfl) rfl (by kernel_rfl) rfl (fun _ _ h => h) ?_
        intro Ac w5 hp
        have hb := hp.bel
        have a23 : Ac.eval (.tmp 23) = .agg #[.int .u32 (a : Int), .int .i64 (n : Int)] := hp.dep 6 (by kernel_rfl)
        have a24 : Ac.eval (.tmp 24) = .agg #[.int .u32 (c : Int), .int .i64 (k : Int)] := hp.dep 7 (by kernel_rfl)
        have hc := evalC Ac; have hf := evalF Ac; have hgl := evalG Ac
        obtain ⟨ρ, hρ⟩ : ∃ ρ, Ac.eval = ρ := ⟨_, rfl⟩
        rw [hρ] at a23 a24 hc hf hgl
        refine relCall hρ 185 #[.agg #[.int .u32 (a : Int), .int .i64 (n : Int)], .agg #[.int .u32 (c : Int), .int .i64 (k : Int)]] (by simp [go_sem, hc, hf, hgl, ↓IntWalk.iteOmega, a23, a24, *]) ?_
        refine (HCv.out w5).mono ?_
        rintro e w6 ⟨rfl, hb6⟩
        exact ⟨_, rfl, rfl, hb6⟩
      · refine relStep_guard (g := 2) (b := false) (x := false) rfl (by kernel_rfl) rfl (by kernel_rfl) rfl (fun _ _ h => h) ?_
        intro Ac w5 hp
        have hb := hp.bel
        have a25 : Ac.eval (.tmp 25) = .bool true := hp.dep 8 (by kernel_rfl)
        have hc := evalC Ac; have hf := evalF Ac; have hgl := evalG Ac
        obtain ⟨ρ, hρ⟩ : ∃ ρ, Ac.eval = ρ := ⟨_, rfl⟩
        rw [hρ] at a25 hc hf hgl
        exact relPure hρ (.bool false) (by simp [go_sem, hc, hf, hgl, ↓IntWalk.iteOmega, a25, *]) rfl
      · refine relStep_plain rfl ?_
        intro Ac w5 hp
        have hb := hp.bel
        have a19 : Ac.eval (.tmp 19) = .bool false := hp.dep 2 (by kernel_rfl)
        have a26 : Ac.eval (.tmp 26) = .bool false := hp.dep 9 (by kernel_rfl)
        have hc := evalC Ac; have hf := evalF Ac; have hgl := evalG Ac
        obtain ⟨ρ, hρ⟩ : ∃ ρ, Ac.eval = ρ := ⟨_, rfl⟩
        rw [hρ] at a19 a26 hc hf hgl
        exact relPure hρ (.bool false) (by simp [go_sem, hc, hf, hgl, ↓IntWalk.iteOmega, a19, a26, *]) rfl
      intro u w7 hb7 hall
      have e27 : u 10 = .bool false := relAll_at hall (i := 10) (by decide +kernel)
      clear hall
      simp only [List.drop_succ_cons, List.drop_zero, List.take_succ_cons, List.take_zero, putAll, Act.put, List.setIfInBounds_toArray, List.set_cons_zero, List.set_cons_succ, Nat.zero_add, Nat.reduceAdd, e27]
      have HB7 := hide (HB2.out.trans (hb7.mono HB2.out.size))
      have HB27 := hide hb7
      have HX7 := hide (HX.out.below hb7 HX.out.lt)
      have HN7 := hide (HN.out.below hb7 HN.out.lt)
      clear hb7 HX HN
      have HN := hide HN7.out
      have HX := hide HX7.out
      clear HX7 HN7
      by_cases he : a = c ∧ n = k
      · obtain ⟨rfl, rfl⟩ := he
        have HR : Hid (trPtr (trFind a n t) = .pointer (some ⟨b, 0, none⟩)) := hide (by rw [← HSf.out, trFind, if_pos HCvP.out, if_pos ⟨rfl, rfl⟩]; rfl)
        go_upto_region 6 with fail
        have Hmn := hide (show AllMono [(fun v _ => v = .pointer (some ⟨b, 0, none⟩)), (fun v _ => v = .pointer (some ⟨b, 0, none⟩)), (fun v _ => v = .pointer (some ⟨b, 0, none⟩)), (fun v _ => v = .agg #[.int .u32 (a : Int), .int .i64 (n : Int)]), (fun v _ => v = .agg #[.int .u32 (a : Int), .int .i64 (n : Int)]), (fun v _ => v = .bool false)] from ⟨fun _ _ _ _ h => h, fun _ _ _ _ h => h, fun _ _ _ _ h => h, fun _ _ _ _ h => h, fun _ _ _ _ h => h, fun _ _ _ _ h => h, trivial⟩)
        refine wp_region_rel _ (by kernel_rfl) (by kernel_rfl) (relMono _ Hmn.out) ⟨?_, ?_, ?_, ?_, ?_, ?_, trivial⟩ ?_
        · refine relStep_plain rfl ?_
          intro Ac w5 hp
          have hb := hp.bel
          have a5 : Ac.eval (.tmp 5) = .pointer (some ⟨b, 0, none⟩) := hp.out 5 (by rfl)
          have hc := evalC Ac; have hf := evalF Ac; have hgl := evalG Ac
          obtain ⟨ρ, hρ⟩ : ∃ ρ, Ac.eval = ρ := ⟨_, rfl⟩
          rw [hρ] at a5 hc hf hgl
          exact relPure hρ (.pointer (some ⟨b, 0, none⟩)) (by simp [go_sem, hc, hf, hgl, ↓IntWalk.iteOmega, a5, *]) rfl
        · refine relStep_plain rfl ?_
          intro Ac w5 hp
          have hb := hp.bel
          have a28 : Ac.eval (.tmp 28) = .pointer (some ⟨b, 0, none⟩) := hp.dep 0 (by kernel_rfl)
          have hc := evalC Ac; have hf := evalF Ac; have hgl := evalG Ac
          obtain ⟨ρ, hρ⟩ : ∃ ρ, Ac.eval = ρ := ⟨_, rfl⟩
          rw [hρ] at a28 hc hf hgl
          exact relPure hρ (.pointer (some ⟨b, 0, none⟩)) (by simp [go_sem, hc, hf, hgl, ↓IntWalk.iteOmega, a28, *]) rfl
        · refine relStep_plain rfl ?_
          intro Ac w5 hp
          have hb := hp.bel
          have a29 : Ac.eval (.tmp 29) = .pointer (some ⟨b, 0, none⟩) := hp.dep 1 (by kernel_rfl)
          have hc := evalC Ac; have hf := evalF Ac; have hgl := evalG Ac
          obtain ⟨ρ, hρ⟩ : ∃ ρ, Ac.eval = ρ := ⟨_, rfl⟩
          rw [hρ] at a29 hc hf hgl
          exact relPure hρ (.pointer (some ⟨b, 0, none⟩)) (by simp [go_sem, hc, hf, hgl, ↓IntWalk.iteOmega, a29, *]) rfl
        · refine relStep_plain rfl ?_
          intro Ac w5 hp
          have hb := hp.bel
          have a30 : Ac.eval (.tmp 30) = .pointer (some ⟨b, 0, none⟩) := hp.dep 2 (by kernel_rfl)
          have hk5 := HN.out.below hb HN.out.lt
          have hx5 := HX.out.below hb HX.out.lt
          have y0 : w5.cell? ⟨b, 0, none⟩ = some (.int .u32 (a : Int)) := hk5.cell 0
          have y1 : w5.cell? ⟨b, 1, none⟩ = some (.int .i64 (n : Int)) := hk5.cell 1
          have x0 : w5.cell? ⟨xb, 0, none⟩ = some (.int .u32 (a : Int)) := hx5.cell 0
          have x1 : w5.cell? ⟨xb, 1, none⟩ = some (.int .i64 (n : Int)) := hx5.cell 1
          have hc := evalC Ac; have hf := evalF Ac; have hgl := evalG Ac
          obtain ⟨ρ, hρ⟩ : ∃ ρ, Ac.eval = ρ := ⟨_, rfl⟩
          rw [hρ] at a30 hc hf hgl
          exact relPure hρ (.agg #[.int .u32 (a : Int), .int .i64 (n : Int)]) (by simp [go_sem, hc, hf, hgl, ↓IntWalk.iteOmega, a30, *]) rfl
        · refine relStep_plain rfl ?_
          intro Ac w5 hp
          have hb := hp.bel
          have a3 : Ac.eval (.tmp 3) = .pointer (some ⟨xb, 0, none⟩) := hp.out 3 (by rfl)
          have hk5 := HN.out.below hb HN.out.lt
          have hx5 := HX.out.below hb HX.out.lt
          have y0 : w5.cell? ⟨b, 0, none⟩ = some (.int .u32 (a : Int)) := hk5.cell 0
          have y1 : w5.cell? ⟨b, 1, none⟩ = some (.int .i64 (n : Int)) := hk5.cell 1
          have x0 : w5.cell? ⟨xb, 0, none⟩ = some (.int .u32 (a : Int)) := hx5.cell 0
          have x1 : w5.cell? ⟨xb, 1, none⟩ = some (.int .i64 (n : Int)) := hx5.cell 1
          have hc := evalC Ac; have hf := evalF Ac; have hgl := evalG Ac
          obtain ⟨ρ, hρ⟩ : ∃ ρ, Ac.eval = ρ := ⟨_, rfl⟩
          rw [hρ] at a3 hc hf hgl
          exact relPure hρ (.agg #[.int .u32 (a : Int), .int .i64 (n : Int)]) (by simp [go_sem, hc, hf, hgl, ↓IntWalk.iteOmega, a3, *]) rfl
        · refine relStep_plain rfl ?_
          intro Ac w5 hp
          have hb := hp.bel
          have a31 : Ac.eval (.tmp 31) = .agg #[.int .u32 (a : Int), .int .i64 (n : Int)] := hp.dep 3 (by kernel_rfl)
          have a32 : Ac.eval (.tmp 32) = .agg #[.int .u32 (a : Int), .int .i64 (n : Int)] := hp.dep 4 (by kernel_rfl)
          have hc := evalC Ac; have hf := evalF Ac; have hgl := evalG Ac
          obtain ⟨ρ, hρ⟩ : ∃ ρ, Ac.eval = ρ := ⟨_, rfl⟩
          rw [hρ] at a31 a32 hc hf hgl
          exact relPure hρ (.bool false) (by simp [go_sem, hc, hf, hgl, ↓IntWalk.iteOmega, a31, a32, *]) rfl
        intro u w8 hb7 hall
        have e33 : u 5 = .bool false := relAll_at hall (i := 5) (by decide +kernel)
        clear hall
        simp only [List.drop_succ_cons, List.drop_zero, List.take_succ_cons, List.take_zero, putAll, Act.put, List.setIfInBounds_toArray, List.set_cons_zero, List.set_cons_succ, Nat.zero_add, Nat.reduceAdd, e33]
        have HB8 := hide (HB7.out.trans (hb7.mono HB7.out.size))
        clear hb7
        go_wp2
        simp only [Exit.jump]
        go_ret
        exact ⟨by rw [HR.out]; rfl, HB8.out⟩
      · have HNe := hide (show (a : Int) = (c : Int) → ¬ (n : Int) = (k : Int) from fun h1 h2 => he ⟨by omega, by omega⟩)
        have HE := hide he
        clear he
        have hlt : n < k := Nat.lt_of_le_of_ne HCvP.out.1 fun e => HE.out ⟨cvN_same HCvP.out HPc.out e, e⟩
        have hk32 := HPc.out.2.1
        have HSd := hide (fun W => side_any a n c k HPc.out.1 (by omega) W)
        have HRk := hide (show trDown ⟨(.pointer (some ⟨g, 0, none⟩) :: .agg #[.int .u32 (c : Int), .int .i64 (k : Int)] :: undef :: .pointer (some ⟨xb, 0, none⟩) :: .pointer none :: .pointer (some ⟨b, 0, none⟩) :: [u 0, u 1, u 2, u 3, u 4, u 5, u 6, u 7, u 8, u 9, u 10, u 11, u 12, u 13, u 14, u 15, u 16, u 17, u 18, u 19, u 20, u 21, u 22, u 23, u 24, u 25, u 26, u 27, u 28, u 29, u 30, u 31, u 32, u 33, u 34, u 35, u 36, u 37, u 38, u 39]).toArray, []⟩ w2 = 33 - n from congrArg (33 - ·) (cellNat_of (HN0.out.cell 1)))
        have HLt := hide hlt
        clear hlt hk32 HN0
        go_upto_region 6 with fail
        have Hmn := hide (show AllMono [(fun v _ => v = .pointer (some ⟨b, 0, none⟩)), (fun v _ => v = .pointer (some ⟨b, 0, none⟩)), (fun v _ => v = .pointer (some ⟨b, 0, none⟩)), (fun v _ => v = .agg #[.int .u32 (a : Int), .int .i64 (n : Int)]), (fun v _ => v = .agg #[.int .u32 (c : Int), .int .i64 (k : Int)]), (fun v _ => v = .bool true)] from ⟨fun _ _ _ _ h => h, fun _ _ _ _ h => h, fun _ _ _ _ h => h, fun _ _ _ _ h => h, fun _ _ _ _ h => h, fun _ _ _ _ h => h, trivial⟩)
        refine wp_region_rel _ (by kernel_rfl) (by kernel_rfl) (relMono _ Hmn.out) ⟨?_, ?_, ?_, ?_, ?_, ?_, trivial⟩ ?_
        · refine relStep_plain rfl ?_
          intro Ac w5 hp
          have hb := hp.bel
          have a5 : Ac.eval (.tmp 5) = .pointer (some ⟨b, 0, none⟩) := hp.out 5 (by rfl)
          have hc := evalC Ac; have hf := evalF Ac; have hgl := evalG Ac
          obtain ⟨ρ, hρ⟩ : ∃ ρ, Ac.eval = ρ := ⟨_, rfl⟩
          rw [hρ] at a5 hc hf hgl
          exact relPure hρ (.pointer (some ⟨b, 0, none⟩)) (by simp [go_sem, hc, hf, hgl, ↓IntWalk.iteOmega, a5, *]) rfl
        · refine relStep_plain rfl ?_
          intro Ac w5 hp
          have hb := hp.bel
          have a28 : Ac.eval (.tmp 28) = .pointer (some ⟨b, 0, none⟩) := hp.dep 0 (by kernel_rfl)
          have hc := evalC Ac; have hf := evalF Ac; have hgl := evalG Ac
          obtain ⟨ρ, hρ⟩ : ∃ ρ, Ac.eval = ρ := ⟨_, rfl⟩
          rw [hρ] at a28 hc hf hgl
          exact relPure hρ (.pointer (some ⟨b, 0, none⟩)) (by simp [go_sem, hc, hf, hgl, ↓IntWalk.iteOmega, a28, *]) rfl
        · refine relStep_plain rfl ?_
          intro Ac w5 hp
          have hb := hp.bel
          have a29 : Ac.eval (.tmp 29) = .pointer (some ⟨b, 0, none⟩) := hp.dep 1 (by kernel_rfl)
          have hc := evalC Ac; have hf := evalF Ac; have hgl := evalG Ac
          obtain ⟨ρ, hρ⟩ : ∃ ρ, Ac.eval = ρ := ⟨_, rfl⟩
          rw [hρ] at a29 hc hf hgl
          exact relPure hρ (.pointer (some ⟨b, 0, none⟩)) (by simp [go_sem, hc, hf, hgl, ↓IntWalk.iteOmega, a29, *]) rfl
        · refine relStep_plain rfl ?_
          intro Ac w5 hp
          have hb := hp.bel
          have a30 : Ac.eval (.tmp 30) = .pointer (some ⟨b, 0, none⟩) := hp.dep 2 (by kernel_rfl)
          have hk5 := HN.out.below hb HN.out.lt
          have hx5 := HX.out.below hb HX.out.lt
          have y0 : w5.cell? ⟨b, 0, none⟩ = some (.int .u32 (a : Int)) := hk5.cell 0
          have y1 : w5.cell? ⟨b, 1, none⟩ = some (.int .i64 (n : Int)) := hk5.cell 1
          have x0 : w5.cell? ⟨xb, 0, none⟩ = some (.int .u32 (c : Int)) := hx5.cell 0
          have x1 : w5.cell? ⟨xb, 1, none⟩ = some (.int .i64 (k : Int)) := hx5.cell 1
          have hc := evalC Ac; have hf := evalF Ac; have hgl := evalG Ac
          obtain ⟨ρ, hρ⟩ : ∃ ρ, Ac.eval = ρ := ⟨_, rfl⟩
          rw [hρ] at a30 hc hf hgl
          exact relPure hρ (.agg #[.int .u32 (a : Int), .int .i64 (n : Int)]) (by simp [go_sem, hc, hf, hgl, ↓IntWalk.iteOmega, a30, *]) rfl
        · refine relStep_plain rfl ?_
          intro Ac w5 hp
          have hb := hp.bel
          have a3 : Ac.eval (.tmp 3) = .pointer (some ⟨xb, 0, none⟩) := hp.out 3 (by rfl)
          have hk5 := HN.out.below hb HN.out.lt
          have hx5 := HX.out.below hb HX.out.lt
          have y0 : w5.cell? ⟨b, 0, none⟩ = some (.int .u32 (a : Int)) := hk5.cell 0
          have y1 : w5.cell? ⟨b, 1, none⟩ = some (.int .i64 (n : Int)) := hk5.cell 1
          have x0 : w5.cell? ⟨xb, 0, none⟩ = some (.int .u32 (c : Int)) := hx5.cell 0
          have x1 : w5.cell? ⟨xb, 1, none⟩ = some (.int .i64 (k : Int)) := hx5.cell 1
          have hc := evalC Ac; have hf := evalF Ac; have hgl := evalG Ac
          obtain ⟨ρ, hρ⟩ : ∃ ρ, Ac.eval = ρ := ⟨_, rfl⟩
          rw [hρ] at a3 hc hf hgl
          exact relPure hρ (.agg #[.int .u32 (c : Int), .int .i64 (k : Int)]) (by simp [go_sem, hc, hf, hgl, ↓IntWalk.iteOmega, a3, *]) rfl
        · refine relStep_plain rfl ?_
          intro Ac w5 hp
          have hb := hp.bel
          have a31 : Ac.eval (.tmp 31) = .agg #[.int .u32 (a : Int), .int .i64 (n : Int)] := hp.dep 3 (by kernel_rfl)
          have a32 : Ac.eval (.tmp 32) = .agg #[.int .u32 (c : Int), .int .i64 (k : Int)] := hp.dep 4 (by kernel_rfl)
          have hc := evalC Ac; have hf := evalF Ac; have hgl := evalG Ac
          obtain ⟨ρ, hρ⟩ : ∃ ρ, Ac.eval = ρ := ⟨_, rfl⟩
          rw [hρ] at a31 a32 hc hf hgl
          exact relPure hρ (.bool true) (by simp [go_sem, hc, hf, hgl, ↓IntWalk.iteOmega, a31, a32, *]; exact HNe.out) rfl
        intro u w8 hb7 hall
        have e33 : u 5 = .bool true := relAll_at hall (i := 5) (by decide +kernel)
        clear hall
        simp only [List.drop_succ_cons, List.drop_zero, List.take_succ_cons, List.take_zero, putAll, Act.put, List.setIfInBounds_toArray, List.set_cons_zero, List.set_cons_succ, Nat.zero_add, Nat.reduceAdd, e33]
        have HN8 := hide (HN.out.below hb7 HN.out.lt)
        have HX8 := hide (HX.out.below hb7 HX.out.lt)
        have HB28 := hide (HB27.out.trans (hb7.mono HB27.out.size))
        clear hb7 HN HX HB7 HB27
        have HN := hide HN8.out
        have HX := hide HX8.out
        clear HN8 HX8
        rcases bitN_01 c n with hbit | hbit
        all_goals
          have HBit := hide hbit
          clear hbit
          go_upto_region 7 with fail
        · skip
          have Hmn := hide (show AllMono [(fun v _ => v = .pointer (some ⟨b, 0, none⟩)), (fun v _ => v = .pointer (some ⟨b, 0, none⟩)), (fun v _ => v = .pointer (some ⟨b, 0, none⟩)), (fun v _ => v = .pointer (some ⟨b, 0, none⟩)), (fun v _ => v = .agg #[.int .u32 (a : Int), .int .i64 (n : Int)]), (fun v _ => v = .agg #[.int .u32 (c : Int), .int .i64 (k : Int)]), (fun v _ => v = .int .i64 0), (fun v _ => v = .pointer (some ⟨b, 0, none⟩)), (fun v _ => v = .pointer (some ⟨b, 13, none⟩)), (fun v _ => v = .pointer (some ⟨b, 13, none⟩)), (fun v _ => v = trPtr l)] from ⟨fun _ _ _ _ h => h, fun _ _ _ _ h => h, fun _ _ _ _ h => h, fun _ _ _ _ h => h, fun _ _ _ _ h => h, fun _ _ _ _ h => h, fun _ _ _ _ h => h, fun _ _ _ _ h => h, fun _ _ _ _ h => h, fun _ _ _ _ h => h, fun _ _ _ _ h => h, trivial⟩)
          refine wp_region_relT 11 _ (by kernel_rfl) (by kernel_rfl) (by kernel_rfl) (by kernel_rfl) (by kernel_rfl) (relMono _ Hmn.out) ⟨?_, ?_, ?_, ?_, ?_, ?_, ?_, ?_, ?_, ?_, ?_, trivial⟩ ?_
          · refine relStep_plain rfl ?_
            intro Ac w5 hp
            have hb := hp.bel
            have a5 : Ac.eval (.tmp 5) = .pointer (some ⟨b, 0, none⟩) := hp.out 5 (by rfl)
            have hc := evalC Ac; have hf := evalF Ac; have hgl := evalG Ac
            obtain ⟨ρ, hρ⟩ : ∃ ρ, Ac.eval = ρ := ⟨_, rfl⟩
            rw [hρ] at a5 hc hf hgl
            exact relPure hρ (.pointer (some ⟨b, 0, none⟩)) (by simp [go_sem, hc, hf, hgl, ↓IntWalk.iteOmega, a5, *]) rfl
          · refine relStep_plain rfl ?_
            intro Ac w5 hp
            have hb := hp.bel
            have a5 : Ac.eval (.tmp 5) = .pointer (some ⟨b, 0, none⟩) := hp.out 5 (by rfl)
            have hc := evalC Ac; have hf := evalF Ac; have hgl := evalG Ac
            obtain ⟨ρ, hρ⟩ : ∃ ρ, Ac.eval = ρ := ⟨_, rfl⟩
            rw [hρ] at a5 hc hf hgl
            exact relPure hρ (.pointer (some ⟨b, 0, none⟩)) (by simp [go_sem, hc, hf, hgl, ↓IntWalk.iteOmega, a5, *]) rfl
          · refine relStep_plain rfl ?_
            intro Ac w5 hp
            have hb := hp.bel
            have a35 : Ac.eval (.tmp 35) = .pointer (some ⟨b, 0, none⟩) := hp.dep 1 (by kernel_rfl)
            have hc := evalC Ac; have hf := evalF Ac; have hgl := evalG Ac
            obtain ⟨ρ, hρ⟩ : ∃ ρ, Ac.eval = ρ := ⟨_, rfl⟩
            rw [hρ] at a35 hc hf hgl
            exact relPure hρ (.pointer (some ⟨b, 0, none⟩)) (by simp [go_sem, hc, hf, hgl, ↓IntWalk.iteOmega, a35, *]) rfl
          · refine relStep_plain rfl ?_
            intro Ac w5 hp
            have hb := hp.bel
            have a36 : Ac.eval (.tmp 36) = .pointer (some ⟨b, 0, none⟩) := hp.dep 2 (by kernel_rfl)
            have hc := evalC Ac; have hf := evalF Ac; have hgl := evalG Ac
            obtain ⟨ρ, hρ⟩ : ∃ ρ, Ac.eval = ρ := ⟨_, rfl⟩
            rw [hρ] at a36 hc hf hgl
            exact relPure hρ (.pointer (some ⟨b, 0, none⟩)) (by simp [go_sem, hc, hf, hgl, ↓IntWalk.iteOmega, a36, *]) rfl
          · refine relStep_plain rfl ?_
            intro Ac w5 hp
            have hb := hp.bel
            have a37 : Ac.eval (.tmp 37) = .pointer (some ⟨b, 0, none⟩) := hp.dep 3 (by kernel_rfl)
            have hk5 := HN.out.below hb HN.out.lt
            have hx5 := HX.out.below hb HX.out.lt
            have y0 : w5.cell? ⟨b, 0, none⟩ = some (.int .u32 (a : Int)) := hk5.cell 0
            have y1 : w5.cell? ⟨b, 1, none⟩ = some (.int .i64 (n : Int)) := hk5.cell 1
            have y13 : w5.cell? ⟨b, 13, none⟩ = some (trPtr l) := hk5.cell 13
            have y14 : w5.cell? ⟨b, 14, none⟩ = some (trPtr r) := hk5.cell 14
            have x0 : w5.cell? ⟨xb, 0, none⟩ = some (.int .u32 (c : Int)) := hx5.cell 0
            have x1 : w5.cell? ⟨xb, 1, none⟩ = some (.int .i64 (k : Int)) := hx5.cell 1
            have hc := evalC Ac; have hf := evalF Ac; have hgl := evalG Ac
            obtain ⟨ρ, hρ⟩ : ∃ ρ, Ac.eval = ρ := ⟨_, rfl⟩
            rw [hρ] at a37 hc hf hgl
            exact relPure hρ (.agg #[.int .u32 (a : Int), .int .i64 (n : Int)]) (by simp [go_sem, hc, hf, hgl, ↓IntWalk.iteOmega, a37, *]) rfl
          · refine relStep_plain rfl ?_
            intro Ac w5 hp
            have hb := hp.bel
            have a3 : Ac.eval (.tmp 3) = .pointer (some ⟨xb, 0, none⟩) := hp.out 3 (by rfl)
            have hk5 := HN.out.below hb HN.out.lt
            have hx5 := HX.out.below hb HX.out.lt
            have y0 : w5.cell? ⟨b, 0, none⟩ = some (.int .u32 (a : Int)) := hk5.cell 0
            have y1 : w5.cell? ⟨b, 1, none⟩ = some (.int .i64 (n : Int)) := hk5.cell 1
            have y13 : w5.cell? ⟨b, 13, none⟩ = some (trPtr l) := hk5.cell 13
            have y14 : w5.cell? ⟨b, 14, none⟩ = some (trPtr r) := hk5.cell 14
            have x0 : w5.cell? ⟨xb, 0, none⟩ = some (.int .u32 (c : Int)) := hx5.cell 0
            have x1 : w5.cell? ⟨xb, 1, none⟩ = some (.int .i64 (k : Int)) := hx5.cell 1
            have hc := evalC Ac; have hf := evalF Ac; have hgl := evalG Ac
            obtain ⟨ρ, hρ⟩ : ∃ ρ, Ac.eval = ρ := ⟨_, rfl⟩
            rw [hρ] at a3 hc hf hgl
            exact relPure hρ (.agg #[.int .u32 (c : Int), .int .i64 (k : Int)]) (by simp [go_sem, hc, hf, hgl, ↓IntWalk.iteOmega, a3, *]) rfl
          · refine relStep_plain rfl ?_
            intro Ac w5 hp
            have hb := hp.bel
            have a38 : Ac.eval (.tmp 38) = .agg #[.int .u32 (a : Int), .int .i64 (n : Int)] := hp.dep 4 (by kernel_rfl)
            have a39 : Ac.eval (.tmp 39) = .agg #[.int .u32 (c : Int), .int .i64 (k : Int)] := hp.dep 5 (by kernel_rfl)
            have hc := evalC Ac; have hf := evalF Ac; have hgl := evalG Ac
            obtain ⟨ρ, hρ⟩ : ∃ ρ, Ac.eval = ρ := ⟨_, rfl⟩
            rw [hρ] at a38 a39 hc hf hgl
            refine relCall hρ 186 #[.agg #[.int .u32 (a : Int), .int .i64 (n : Int)], .agg #[.int .u32 (c : Int), .int .i64 (k : Int)]] (by simp [go_sem, hc, hf, hgl, ↓IntWalk.iteOmega, a38, a39, *]) ?_
            refine (HSd.out w5).mono ?_
            rintro e w6 ⟨rfl, hb6⟩
            exact ⟨_, rfl, by rw [HBit.out]; rfl, hb6⟩
          · refine relStep_plain rfl ?_
            intro Ac w5 hp
            have hb := hp.bel
            have a34 : Ac.eval (.tmp 34) = .pointer (some ⟨b, 0, none⟩) := hp.dep 0 (by kernel_rfl)
            have hc := evalC Ac; have hf := evalF Ac; have hgl := evalG Ac
            obtain ⟨ρ, hρ⟩ : ∃ ρ, Ac.eval = ρ := ⟨_, rfl⟩
            rw [hρ] at a34 hc hf hgl
            exact relPure hρ (.pointer (some ⟨b, 0, none⟩)) (by simp [go_sem, hc, hf, hgl, ↓IntWalk.iteOmega, a34, *]) rfl
          · refine relStep_plain rfl ?_
            intro Ac w5 hp
            have hb := hp.bel
            have a41 : Ac.eval (.tmp 41) = .pointer (some ⟨b, 0, none⟩) := hp.dep 7 (by kernel_rfl)
            have hc := evalC Ac; have hf := evalF Ac; have hgl := evalG Ac
            obtain ⟨ρ, hρ⟩ : ∃ ρ, Ac.eval = ρ := ⟨_, rfl⟩
            rw [hρ] at a41 hc hf hgl
            exact relPure hρ (.pointer (some ⟨b, 13, none⟩)) (by simp [go_sem, hc, hf, hgl, ↓IntWalk.iteOmega, a41, *]) rfl
          · refine relStep_plain rfl ?_
            intro Ac w5 hp
            have hb := hp.bel
            have a42 : Ac.eval (.tmp 42) = .pointer (some ⟨b, 13, none⟩) := hp.dep 8 (by kernel_rfl)
            have a40 : Ac.eval (.tmp 40) = .int .i64 0 := hp.dep 6 (by kernel_rfl)
            have hc := evalC Ac; have hf := evalF Ac; have hgl := evalG Ac
            obtain ⟨ρ, hρ⟩ : ∃ ρ, Ac.eval = ρ := ⟨_, rfl⟩
            rw [hρ] at a42 a40 hc hf hgl
            exact relPure hρ (.pointer (some ⟨b, 13, none⟩)) (by simp [go_sem, hc, hf, hgl, ↓IntWalk.iteOmega, a42, a40, *]) rfl
          · refine relStep_plain rfl ?_
            intro Ac w5 hp
            have hb := hp.bel
            have a43 : Ac.eval (.tmp 43) = .pointer (some ⟨b, 13, none⟩) := hp.dep 9 (by kernel_rfl)
            have hk5 := HN.out.below hb HN.out.lt
            have hx5 := HX.out.below hb HX.out.lt
            have y0 : w5.cell? ⟨b, 0, none⟩ = some (.int .u32 (a : Int)) := hk5.cell 0
            have y1 : w5.cell? ⟨b, 1, none⟩ = some (.int .i64 (n : Int)) := hk5.cell 1
            have y13 : w5.cell? ⟨b, 13, none⟩ = some (trPtr l) := hk5.cell 13
            have y14 : w5.cell? ⟨b, 14, none⟩ = some (trPtr r) := hk5.cell 14
            have x0 : w5.cell? ⟨xb, 0, none⟩ = some (.int .u32 (c : Int)) := hx5.cell 0
            have x1 : w5.cell? ⟨xb, 1, none⟩ = some (.int .i64 (k : Int)) := hx5.cell 1
            have hc := evalC Ac; have hf := evalF Ac; have hgl := evalG Ac
            obtain ⟨ρ, hρ⟩ : ∃ ρ, Ac.eval = ρ := ⟨_, rfl⟩
            rw [hρ] at a43 hc hf hgl
            exact relPure hρ (trPtr l) (by simp [go_sem, hc, hf, hgl, ↓IntWalk.iteOmega, a43, *]) rfl
          intro u w9 hb7 hall
          have e44 : u 10 = trPtr l := relAll_at hall (i := 10) (by decide +kernel)
          clear hall
          simp only [List.drop_succ_cons, List.drop_zero, List.take_succ_cons, List.take_zero, putAll, Act.put, List.setIfInBounds_toArray, List.set_cons_zero, List.set_cons_succ, Nat.zero_add, Nat.reduceAdd, e44]
          have HB9 := hide (HB28.out.trans (hb7.mono HB28.out.size))
          have HX9 := hide (HX.out.below hb7 HX.out.lt)
          clear hb7 HN HX
          go_wp2
          go_step3
          refine ⟨rfl, ⟨l, xb, _, rfl, rfl, HL.out.chg (S := fun _ => False) (chg_below HB9.out) (by simp) (by simp), HWl.out, ?_, HX9.out, HB2.out.trans (HB9.out.mono HB2.out.size)⟩, ?_⟩
          · rw [← HSf.out, trFind, if_pos HCvP.out, if_neg HE.out, if_pos HBit.out]
          · have h1 := trRank_in HIl.out HGa.out.2.1
            refine Nat.lt_of_le_of_lt (Nat.le_of_eq (trDownA (HL.out.chg (S := fun _ => False) (chg_below HB9.out) (by simp) (by simp)) ?_)) (Nat.lt_of_lt_of_eq h1 HRk.out.symm)
            rfl
        · skip
          have Hmn := hide (show AllMono [(fun v _ => v = .pointer (some ⟨b, 0, none⟩)), (fun v _ => v = .pointer (some ⟨b, 0, none⟩)), (fun v _ => v = .pointer (some ⟨b, 0, none⟩)), (fun v _ => v = .pointer (some ⟨b, 0, none⟩)), (fun v _ => v = .agg #[.int .u32 (a : Int), .int .i64 (n : Int)]), (fun v _ => v = .agg #[.int .u32 (c : Int), .int .i64 (k : Int)]), (fun v _ => v = .int .i64 1), (fun v _ => v = .pointer (some ⟨b, 0, none⟩)), (fun v _ => v = .pointer (some ⟨b, 13, none⟩)), (fun v _ => v = .pointer (some ⟨b, 14, none⟩)), (fun v _ => v = trPtr r)] from ⟨fun _ _ _ _ h => h, fun _ _ _ _ h => h, fun _ _ _ _ h => h, fun _ _ _ _ h => h, fun _ _ _ _ h => h, fun _ _ _ _ h => h, fun _ _ _ _ h => h, fun _ _ _ _ h => h, fun _ _ _ _ h => h, fun _ _ _ _ h => h, fun _ _ _ _ h => h, trivial⟩)
          refine wp_region_relT 11 _ (by kernel_rfl) (by kernel_rfl) (by kernel_rfl) (by kernel_rfl) (by kernel_rfl) (relMono _ Hmn.out) ⟨?_, ?_, ?_, ?_, ?_, ?_, ?_, ?_, ?_, ?_, ?_, trivial⟩ ?_
          · refine relStep_plain rfl ?_
            intro Ac w5 hp
            have hb := hp.bel
            have a5 : Ac.eval (.tmp 5) = .pointer (some ⟨b, 0, none⟩) := hp.out 5 (by rfl)
            have hc := evalC Ac; have hf := evalF Ac; have hgl := evalG Ac
            obtain ⟨ρ, hρ⟩ : ∃ ρ, Ac.eval = ρ := ⟨_, rfl⟩
            rw [hρ] at a5 hc hf hgl
            exact relPure hρ (.pointer (some ⟨b, 0, none⟩)) (by simp [go_sem, hc, hf, hgl, ↓IntWalk.iteOmega, a5, *]) rfl
          · refine relStep_plain rfl ?_
            intro Ac w5 hp
            have hb := hp.bel
            have a5 : Ac.eval (.tmp 5) = .pointer (some ⟨b, 0, none⟩) := hp.out 5 (by rfl)
            have hc := evalC Ac; have hf := evalF Ac; have hgl := evalG Ac
            obtain ⟨ρ, hρ⟩ : ∃ ρ, Ac.eval = ρ := ⟨_, rfl⟩
            rw [hρ] at a5 hc hf hgl
            exact relPure hρ (.pointer (some ⟨b, 0, none⟩)) (by simp [go_sem, hc, hf, hgl, ↓IntWalk.iteOmega, a5, *]) rfl
          · refine relStep_plain rfl ?_
            intro Ac w5 hp
            have hb := hp.bel
            have a35 : Ac.eval (.tmp 35) = .pointer (some ⟨b, 0, none⟩) := hp.dep 1 (by kernel_rfl)
            have hc := evalC Ac; have hf := evalF Ac; have hgl := evalG Ac
            obtain ⟨ρ, hρ⟩ : ∃ ρ, Ac.eval = ρ := ⟨_, rfl⟩
            rw [hρ] at a35 hc hf hgl
            exact relPure hρ (.pointer (some ⟨b, 0, none⟩)) (by simp [go_sem, hc, hf, hgl, ↓IntWalk.iteOmega, a35, *]) rfl
          · refine relStep_plain rfl ?_
            intro Ac w5 hp
            have hb := hp.bel
            have a36 : Ac.eval (.tmp 36) = .pointer (some ⟨b, 0, none⟩) := hp.dep 2 (by kernel_rfl)
            have hc := evalC Ac; have hf := evalF Ac; have hgl := evalG Ac
            obtain ⟨ρ, hρ⟩ : ∃ ρ, Ac.eval = ρ := ⟨_, rfl⟩
            rw [hρ] at a36 hc hf hgl
            exact relPure hρ (.pointer (some ⟨b, 0, none⟩)) (by simp [go_sem, hc, hf, hgl, ↓IntWalk.iteOmega, a36, *]) rfl
          · refine relStep_plain rfl ?_
            intro Ac w5 hp
            have hb := hp.bel
            have a37 : Ac.eval (.tmp 37) = .pointer (some ⟨b, 0, none⟩) := hp.dep 3 (by kernel_rfl)
            have hk5 := HN.out.below hb HN.out.lt
            have hx5 := HX.out.below hb HX.out.lt
            have y0 : w5.cell? ⟨b, 0, none⟩ = some (.int .u32 (a : Int)) := hk5.cell 0
            have y1 : w5.cell? ⟨b, 1, none⟩ = some (.int .i64 (n : Int)) := hk5.cell 1
            have y13 : w5.cell? ⟨b, 13, none⟩ = some (trPtr l) := hk5.cell 13
            have y14 : w5.cell? ⟨b, 14, none⟩ = some (trPtr r) := hk5.cell 14
            have x0 : w5.cell? ⟨xb, 0, none⟩ = some (.int .u32 (c : Int)) := hx5.cell 0
            have x1 : w5.cell? ⟨xb, 1, none⟩ = some (.int .i64 (k : Int)) := hx5.cell 1
            have hc := evalC Ac; have hf := evalF Ac; have hgl := evalG Ac
            obtain ⟨ρ, hρ⟩ : ∃ ρ, Ac.eval = ρ := ⟨_, rfl⟩
            rw [hρ] at a37 hc hf hgl
            exact relPure hρ (.agg #[.int .u32 (a : Int), .int .i64 (n : Int)]) (by simp [go_sem, hc, hf, hgl, ↓IntWalk.iteOmega, a37, *]) rfl
          · refine relStep_plain rfl ?_
            intro Ac w5 hp
            have hb := hp.bel
            have a3 : Ac.eval (.tmp 3) = .pointer (some ⟨xb, 0, none⟩) := hp.out 3 (by rfl)
            have hk5 := HN.out.below hb HN.out.lt
            have hx5 := HX.out.below hb HX.out.lt
            have y0 : w5.cell? ⟨b, 0, none⟩ = some (.int .u32 (a : Int)) := hk5.cell 0
            have y1 : w5.cell? ⟨b, 1, none⟩ = some (.int .i64 (n : Int)) := hk5.cell 1
            have y13 : w5.cell? ⟨b, 13, none⟩ = some (trPtr l) := hk5.cell 13
            have y14 : w5.cell? ⟨b, 14, none⟩ = some (trPtr r) := hk5.cell 14
            have x0 : w5.cell? ⟨xb, 0, none⟩ = some (.int .u32 (c : Int)) := hx5.cell 0
            have x1 : w5.cell? ⟨xb, 1, none⟩ = some (.int .i64 (k : Int)) := hx5.cell 1
            have hc := evalC Ac; have hf := evalF Ac; have hgl := evalG Ac
            obtain ⟨ρ, hρ⟩ : ∃ ρ, Ac.eval = ρ := ⟨_, rfl⟩
            rw [hρ] at a3 hc hf hgl
            exact relPure hρ (.agg #[.int .u32 (c : Int), .int .i64 (k : Int)]) (by simp [go_sem, hc, hf, hgl, ↓IntWalk.iteOmega, a3, *]) rfl
          · refine relStep_plain rfl ?_
            intro Ac w5 hp
            have hb := hp.bel
            have a38 : Ac.eval (.tmp 38) = .agg #[.int .u32 (a : Int), .int .i64 (n : Int)] := hp.dep 4 (by kernel_rfl)
            have a39 : Ac.eval (.tmp 39) = .agg #[.int .u32 (c : Int), .int .i64 (k : Int)] := hp.dep 5 (by kernel_rfl)
            have hc := evalC Ac; have hf := evalF Ac; have hgl := evalG Ac
            obtain ⟨ρ, hρ⟩ : ∃ ρ, Ac.eval = ρ := ⟨_, rfl⟩
            rw [hρ] at a38 a39 hc hf hgl
            refine relCall hρ 186 #[.agg #[.int .u32 (a : Int), .int .i64 (n : Int)], .agg #[.int .u32 (c : Int), .int .i64 (k : Int)]] (by simp [go_sem, hc, hf, hgl, ↓IntWalk.iteOmega, a38, a39, *]) ?_
            refine (HSd.out w5).mono ?_
            rintro e w6 ⟨rfl, hb6⟩
            exact ⟨_, rfl, by rw [HBit.out]; rfl, hb6⟩
          · refine relStep_plain rfl ?_
            intro Ac w5 hp
            have hb := hp.bel
            have a34 : Ac.eval (.tmp 34) = .pointer (some ⟨b, 0, none⟩) := hp.dep 0 (by kernel_rfl)
            have hc := evalC Ac; have hf := evalF Ac; have hgl := evalG Ac
            obtain ⟨ρ, hρ⟩ : ∃ ρ, Ac.eval = ρ := ⟨_, rfl⟩
            rw [hρ] at a34 hc hf hgl
            exact relPure hρ (.pointer (some ⟨b, 0, none⟩)) (by simp [go_sem, hc, hf, hgl, ↓IntWalk.iteOmega, a34, *]) rfl
          · refine relStep_plain rfl ?_
            intro Ac w5 hp
            have hb := hp.bel
            have a41 : Ac.eval (.tmp 41) = .pointer (some ⟨b, 0, none⟩) := hp.dep 7 (by kernel_rfl)
            have hc := evalC Ac; have hf := evalF Ac; have hgl := evalG Ac
            obtain ⟨ρ, hρ⟩ : ∃ ρ, Ac.eval = ρ := ⟨_, rfl⟩
            rw [hρ] at a41 hc hf hgl
            exact relPure hρ (.pointer (some ⟨b, 13, none⟩)) (by simp [go_sem, hc, hf, hgl, ↓IntWalk.iteOmega, a41, *]) rfl
          · refine relStep_plain rfl ?_
            intro Ac w5 hp
            have hb := hp.bel
            have a42 : Ac.eval (.tmp 42) = .pointer (some ⟨b, 13, none⟩) := hp.dep 8 (by kernel_rfl)
            have a40 : Ac.eval (.tmp 40) = .int .i64 1 := hp.dep 6 (by kernel_rfl)
            have hc := evalC Ac; have hf := evalF Ac; have hgl := evalG Ac
            obtain ⟨ρ, hρ⟩ : ∃ ρ, Ac.eval = ρ := ⟨_, rfl⟩
            rw [hρ] at a42 a40 hc hf hgl
            exact relPure hρ (.pointer (some ⟨b, 14, none⟩)) (by simp [go_sem, hc, hf, hgl, ↓IntWalk.iteOmega, a42, a40, *]) rfl
          · refine relStep_plain rfl ?_
            intro Ac w5 hp
            have hb := hp.bel
            have a43 : Ac.eval (.tmp 43) = .pointer (some ⟨b, 14, none⟩) := hp.dep 9 (by kernel_rfl)
            have hk5 := HN.out.below hb HN.out.lt
            have hx5 := HX.out.below hb HX.out.lt
            have y0 : w5.cell? ⟨b, 0, none⟩ = some (.int .u32 (a : Int)) := hk5.cell 0
            have y1 : w5.cell? ⟨b, 1, none⟩ = some (.int .i64 (n : Int)) := hk5.cell 1
            have y13 : w5.cell? ⟨b, 13, none⟩ = some (trPtr l) := hk5.cell 13
            have y14 : w5.cell? ⟨b, 14, none⟩ = some (trPtr r) := hk5.cell 14
            have x0 : w5.cell? ⟨xb, 0, none⟩ = some (.int .u32 (c : Int)) := hx5.cell 0
            have x1 : w5.cell? ⟨xb, 1, none⟩ = some (.int .i64 (k : Int)) := hx5.cell 1
            have hc := evalC Ac; have hf := evalF Ac; have hgl := evalG Ac
            obtain ⟨ρ, hρ⟩ : ∃ ρ, Ac.eval = ρ := ⟨_, rfl⟩
            rw [hρ] at a43 hc hf hgl
            exact relPure hρ (trPtr r) (by simp [go_sem, hc, hf, hgl, ↓IntWalk.iteOmega, a43, *]) rfl
          intro u w9 hb7 hall
          have e44 : u 10 = trPtr r := relAll_at hall (i := 10) (by decide +kernel)
          clear hall
          simp only [List.drop_succ_cons, List.drop_zero, List.take_succ_cons, List.take_zero, putAll, Act.put, List.setIfInBounds_toArray, List.set_cons_zero, List.set_cons_succ, Nat.zero_add, Nat.reduceAdd, e44]
          have HB9 := hide (HB28.out.trans (hb7.mono HB28.out.size))
          have HX9 := hide (HX.out.below hb7 HX.out.lt)
          clear hb7 HN HX
          go_wp2
          go_step3
          refine ⟨rfl, ⟨r, xb, _, rfl, rfl, HRr.out.chg (S := fun _ => False) (chg_below HB9.out) (by simp) (by simp), HWr.out, ?_, HX9.out, HB2.out.trans (HB9.out.mono HB2.out.size)⟩, ?_⟩
          · rw [← HSf.out, trFind, if_pos HCvP.out, if_neg HE.out, if_neg (by have := HBit.out; omega)]
          · have h1 := trRank_in HIr.out HGa.out.2.1
            refine Nat.lt_of_le_of_lt (Nat.le_of_eq (trDownA (HRr.out.chg (S := fun _ => False) (chg_below HB9.out) (by simp) (by simp)) ?_)) (Nat.lt_of_lt_of_eq h1 HRk.out.symm)
            rfl
    · rw [decide_eq_false hcv] at HCv
      have HR : Hid (trPtr (trFind c k t) = .pointer none) := hide (by rw [← HSf.out, trFind, if_neg hcv]; rfl)
      clear hcv
      go_upto_region 4 with fail
      have Hmn := hide (show AllMono [(fun v _ => v = .pointer (some ⟨b, 0, none⟩)), (fun v _ => v = .bool false), (fun v _ => v = .bool false), (fun v _ => v = .pointer (some ⟨b, 0, none⟩)), (fun v _ => v = .pointer (some ⟨b, 0, none⟩)), (fun v _ => v = .pointer (some ⟨b, 0, none⟩)), (fun v _ => v = .agg #[.int .u32 (a : Int), .int .i64 (n : Int)]), (fun v _ => v = .agg #[.int .u32 (c : Int), .int .i64 (k : Int)]), (fun v _ => v = .bool false), (fun v _ => v = .bool true), (fun v _ => v = .bool true)] from ⟨fun _ _ _ _ h => h, fun _ _ _ _ h => h, fun _ _ _ _ h => h, fun _ _ _ _ h => h, fun _ _ _ _ h => h, fun _ _ _ _ h => h, fun _ _ _ _ h => h, fun _ _ _ _ h => h, fun _ _ _ _ h => h, fun _ _ _ _ h => h, fun _ _ _ _ h => h, trivial⟩)
      refine wp_region_rel _ (by kernel_rfl) (by kernel_rfl) (relMono _ Hmn.out) ⟨?_, ?_, ?_, ?_, ?_, ?_, ?_, ?_, ?_, ?_, ?_, trivial⟩ ?_
      · refine relStep_plain rfl ?_
        intro Ac w5 hp
        have hb := hp.bel
        have a5 : Ac.eval (.tmp 5) = .pointer (some ⟨b, 0, none⟩) := hp.out 5 (by rfl)
        have hc := evalC Ac; have hf := evalF Ac; have hgl := evalG Ac
        obtain ⟨ρ, hρ⟩ : ∃ ρ, Ac.eval = ρ := ⟨_, rfl⟩
        rw [hρ] at a5 hc hf hgl
        exact relPure hρ (.pointer (some ⟨b, 0, none⟩)) (by simp [go_sem, hc, hf, hgl, ↓IntWalk.iteOmega, a5, *]) rfl
      · refine relStep_plain rfl ?_
        intro Ac w5 hp
        have hb := hp.bel
        have a17 : Ac.eval (.tmp 17) = .pointer (some ⟨b, 0, none⟩) := hp.dep 0 (by kernel_rfl)
        have hc := evalC Ac; have hf := evalF Ac; have hgl := evalG Ac
        obtain ⟨ρ, hρ⟩ : ∃ ρ, Ac.eval = ρ := ⟨_, rfl⟩
        rw [hρ] at a17 hc hf hgl
        exact relPure hρ (.bool false) (by simp [go_sem, hc, hf, hgl, ↓IntWalk.iteOmega, a17, *]) rfl
      · refine relStep_plain rfl ?_
        intro Ac w5 hp
        have hb := hp.bel
        have a18 : Ac.eval (.tmp 18) = .bool false := hp.dep 1 (by kernel_rfl)
        have hc := evalC Ac; have hf := evalF Ac; have hgl := evalG Ac
        obtain ⟨ρ, hρ⟩ : ∃ ρ, Ac.eval = ρ := ⟨_, rfl⟩
        rw [hρ] at a18 hc hf hgl
        exact relPure hρ (.bool false) (by simp [go_sem, hc, hf, hgl, ↓IntWalk.iteOmega, a18, *]) rfl
      · refine relStep_guard (g := 2) (b := false) (x := false) rfl (by kernel_rfl) rfl (by kernel_rfl) rfl (fun _ _ h => h) ?_
        intro Ac w5 hp
        have hb := hp.bel
        have a5 : Ac.eval (.tmp 5) = .pointer (some ⟨b, 0, none⟩) := hp.out 5 (by rfl)
        have hc := evalC Ac; have hf := evalF Ac; have hgl := evalG Ac
        obtain ⟨ρ, hρ⟩ : ∃ ρ, Ac.eval = ρ := ⟨_, rfl⟩
        rw [hρ] at a5 hc hf hgl
        exact relPure hρ (.pointer (some ⟨b, 0, none⟩)) (by simp [go_sem, hc, hf, hgl, ↓IntWalk.iteOmega, a5, *]) rfl
      · refine relStep_guard (g := 2) (b := false) (x := false) rfl (by kernel_rfl) rfl (by kernel_rfl) rfl (fun _ _ h => h) ?_
        intro Ac w5 hp
        have hb := hp.bel
        have a20 : Ac.eval (.tmp 20) = .pointer (some ⟨b, 0, none⟩) := hp.dep 3 (by kernel_rfl)
        have hc := evalC Ac; have hf := evalF Ac; have hgl := evalG Ac
        obtain ⟨ρ, hρ⟩ : ∃ ρ, Ac.eval = ρ := ⟨_, rfl⟩
        rw [hρ] at a20 hc hf hgl
        exact relPure hρ (.pointer (some ⟨b, 0, none⟩)) (by simp [go_sem, hc, hf, hgl, ↓IntWalk.iteOmega, a20, *]) rfl
      · refine relStep_guard (g := 2) (b := false) (x := false) rfl (by kernel_rfl) rfl (by kernel_rfl) rfl (fun _ _ h => h) ?_
        intro Ac w5 hp
        have hb := hp.bel
        have a21 : Ac.eval (.tmp 21) = .pointer (some ⟨b, 0, none⟩) := hp.dep 4 (by kernel_rfl)
        have hc := evalC Ac; have hf := evalF Ac; have hgl := evalG Ac
        obtain ⟨ρ, hρ⟩ : ∃ ρ, Ac.eval = ρ := ⟨_, rfl⟩
        rw [hρ] at a21 hc hf hgl
        exact relPure hρ (.pointer (some ⟨b, 0, none⟩)) (by simp [go_sem, hc, hf, hgl, ↓IntWalk.iteOmega, a21, *]) rfl
      · refine relStep_guard (g := 2) (b := false) (x := false) rfl (by kernel_rfl) rfl (by kernel_rfl) rfl (fun _ _ h => h) ?_
        intro Ac w5 hp
        have hb := hp.bel
        have a22 : Ac.eval (.tmp 22) = .pointer (some ⟨b, 0, none⟩) := hp.dep 5 (by kernel_rfl)
        have hk5 := HN.out.below hb HN.out.lt
        have hx5 := HX.out.below hb HX.out.lt
        have y0 : w5.cell? ⟨b, 0, none⟩ = some (.int .u32 (a : Int)) := hk5.cell 0
        have y1 : w5.cell? ⟨b, 1, none⟩ = some (.int .i64 (n : Int)) := hk5.cell 1
        have x0 : w5.cell? ⟨xb, 0, none⟩ = some (.int .u32 (c : Int)) := hx5.cell 0
        have x1 : w5.cell? ⟨xb, 1, none⟩ = some (.int .i64 (k : Int)) := hx5.cell 1
        have hc := evalC Ac; have hf := evalF Ac; have hgl := evalG Ac
        obtain ⟨ρ, hρ⟩ : ∃ ρ, Ac.eval = ρ := ⟨_, rfl⟩
        rw [hρ] at a22 hc hf hgl
        exact relPure hρ (.agg #[.int .u32 (a : Int), .int .i64 (n : Int)]) (by simp [go_sem, hc, hf, hgl, ↓IntWalk.iteOmega, a22, *]) rfl
      · refine relStep_guard (g := 2) (b := false) (x := false) rfl (by kernel_rfl) rfl (by kernel_rfl) rfl (fun _ _ h => h) ?_
        intro Ac w5 hp
        have hb := hp.bel
        have a3 : Ac.eval (.tmp 3) = .pointer (some ⟨xb, 0, none⟩) := hp.out 3 (by rfl)
        have hk5 := HN.out.below hb HN.out.lt
        have hx5 := HX.out.below hb HX.out.lt
        have y0 : w5.cell? ⟨b, 0, none⟩ = some (.int .u32 (a : Int)) := hk5.cell 0
        have y1 : w5.cell? ⟨b, 1, none⟩ = some (.int .i64 (n : Int)) := hk5.cell 1
        have x0 : w5.cell? ⟨xb, 0, none⟩ = some (.int .u32 (c : Int)) := hx5.cell 0
        have x1 : w5.cell? ⟨xb, 1, none⟩ = some (.int .i64 (k : Int)) := hx5.cell 1
        have hc := evalC Ac; have hf := evalF Ac; have hgl := evalG Ac
        obtain ⟨ρ, hρ⟩ : ∃ ρ, Ac.eval = ρ := ⟨_, rfl⟩
        rw [hρ] at a3 hc hf hgl
        exact relPure hρ (.agg #[.int .u32 (c : Int), .int .i64 (k : Int)]) (by simp [go_sem, hc, hf, hgl, ↓IntWalk.iteOmega, a3, *]) rfl
      · refine relStep_guard (g := 2) (b := false) (x := false) rfl (by kernel_rfl) rfl (by kernel_rfl) rfl (fun _ _ h => h) ?_
        intro Ac w5 hp
        have hb := hp.bel
        have a23 : Ac.eval (.tmp 23) = .agg #[.int .u32 (a : Int), .int .i64 (n : Int)] := hp.dep 6 (by kernel_rfl)
        have a24 : Ac.eval (.tmp 24) = .agg #[.int .u32 (c : Int), .int .i64 (k : Int)] := hp.dep 7 (by kernel_rfl)
        have hc := evalC Ac; have hf := evalF Ac; have hgl := evalG Ac
        obtain ⟨ρ, hρ⟩ : ∃ ρ, Ac.eval = ρ := ⟨_, rfl⟩
        rw [hρ] at a23 a24 hc hf hgl
        refine relCall hρ 185 #[.agg #[.int .u32 (a : Int), .int .i64 (n : Int)], .agg #[.int .u32 (c : Int), .int .i64 (k : Int)]] (by simp [go_sem, hc, hf, hgl, ↓IntWalk.iteOmega, a23, a24, *]) ?_
        refine (HCv.out w5).mono ?_
        rintro e w6 ⟨rfl, hb6⟩
        exact ⟨_, rfl, rfl, hb6⟩
      · refine relStep_guard (g := 2) (b := false) (x := false) rfl (by kernel_rfl) rfl (by kernel_rfl) rfl (fun _ _ h => h) ?_
        intro Ac w5 hp
        have hb := hp.bel
        have a25 : Ac.eval (.tmp 25) = .bool false := hp.dep 8 (by kernel_rfl)
        have hc := evalC Ac; have hf := evalF Ac; have hgl := evalG Ac
        obtain ⟨ρ, hρ⟩ : ∃ ρ, Ac.eval = ρ := ⟨_, rfl⟩
        rw [hρ] at a25 hc hf hgl
        exact relPure hρ (.bool true) (by simp [go_sem, hc, hf, hgl, ↓IntWalk.iteOmega, a25, *]) rfl
      · refine relStep_plain rfl ?_
        intro Ac w5 hp
        have hb := hp.bel
        have a19 : Ac.eval (.tmp 19) = .bool false := hp.dep 2 (by kernel_rfl)
        have a26 : Ac.eval (.tmp 26) = .bool true := hp.dep 9 (by kernel_rfl)
        have hc := evalC Ac; have hf := evalF Ac; have hgl := evalG Ac
        obtain ⟨ρ, hρ⟩ : ∃ ρ, Ac.eval = ρ := ⟨_, rfl⟩
        rw [hρ] at a19 a26 hc hf hgl
        exact relPure hρ (.bool true) (by simp [go_sem, hc, hf, hgl, ↓IntWalk.iteOmega, a19, a26, *]) rfl
      intro u w7 hb7 hall
      have e27 : u 10 = .bool true := relAll_at hall (i := 10) (by decide +kernel)
      clear hall
      simp only [List.drop_succ_cons, List.drop_zero, List.take_succ_cons, List.take_zero, putAll, Act.put, List.setIfInBounds_toArray, List.set_cons_zero, List.set_cons_succ, Nat.zero_add, Nat.reduceAdd, e27]
      have HB7 := hide (HB2.out.trans (hb7.mono HB2.out.size))
      clear hb7
      go_wp2
      simp only [Exit.jump]
      go_ret
      exact ⟨by rw [HR.out]; rfl, HB7.out⟩
end Go.Proofs.YtcinjckajnnhmaaGreat
set_option linter.unusedSimpArgs false
set_option linter.unusedVariables false
namespace Go.Proofs.YtcinjckajnnhmaaGreat
open Go.RowKit Go.WideShapes Go.ChangeShapes
attribute [local go_sem] Oper.semAt_some
/-- Prefixes in memory. -/
def pxC (l : List (Nat × Nat)) : List Value := l.flatMap fun x => [.int .u32 (x.1 : Int), .int .i64 (x.2 : Int)]
theorem pxInfo : (Tryz.prog.info? 24).map (fun i => (i.zero, i.size, i.bytes)) = some (some (.agg #[.int .u32 0, .int .i64 0]), 2, 16) := by kernel_rfl
theorem trGet_find {α : Type} (c k : Nat) : ∀ t : Tr α, trGet c k t = (match trFind c k t with | .nil => none | .nd _ _ _ v _ _ => v)
  | .nil => rfl
  | .nd b a n v l r => by
      have h1 := trGet_find c k l
      have h2 := trGet_find c k r
      unfold trGet trFind
      split
      · split
        · rfl
        · split
          · exact h1
          · exact h2
      · rfl
theorem trFind_w {α : Type} {sz : Nat} {T : TypeId} {F : Nat → Prop} {R : World → List Value → α → Prop} {w : World} (c k : Nat) : ∀ t : Tr α, TrW sz T F R w t → TrW sz T F R w (trFind c k t)
  | .nil, _ => trivial
  | .nd b a n v l r, h => by
      unfold trFind
      split
      · split
        · exact h
        · split
          · exact trFind_w c k l h.2.1
          · exact trFind_w c k r h.2.2
      · trivial
set_option maxRecDepth 100000 in
theorem topA_any {α : Type} (g : Nat) (t : Tr α) (w : World) (hg : Blk w g 201 #[trPtr t]) : Calls Tryz.prog 142 #[.pointer (some ⟨g, 0, none⟩)] w fun e w' => e = .returned (trPtr t) ∧ w' = w := by
  have z : w.cell? ⟨g, 0, none⟩ = some (trPtr t) := hg.cell 0
  clear hg
  go_enter Tryz.func142, Tryz.ntmps142
  go_wp2
  go_ret
  exact ⟨rfl, rfl⟩
set_option maxRecDepth 100000 in
theorem newA_any (w : World) : Calls Tryz.prog 78 #[] w fun e w' => e = .returned (.pointer (some ⟨w.heap.size, 0, none⟩)) ∧ Blk w' w.heap.size 201 #[.pointer none] ∧ Below w.heap.size w w' := by
  have HB := hide (blkBelow1 w (.cells #[.pointer none] 201))
  have HK := hide (Blk.new w 201 #[.pointer none])
  go_enter Tryz.func78, Tryz.ntmps78
  go_wp2
  go_ret
  exact ⟨rfl, HK.out, HB.out⟩
set_option maxRecDepth 100000 in
theorem tlenA_any {α : Type} {F : Nat → Prop} {R : World → List Value → α → Prop} (g : Nat) (t : Tr α) (w : World) (hg : Blk w g 201 #[trPtr t]) (h : TrW 9 205 F R w t) : Calls Tryz.prog 119 #[.pointer (some ⟨g, 0, none⟩)] w fun e w' => e = .returned (.int .i64 (trCnt t : Int)) ∧ w' = w := by
  have HT := hide (topA_any g t w hg)
  have HC := hide (countA_any t w h)
  clear hg h
  go_enter Tryz.func119, Tryz.ntmps119
  go_wp2_with fail
  refine HT.out.mono ?_
  rintro e w1 ⟨rfl, rfl⟩
  go_wp2_with fail
  refine HC.out.mono ?_
  rintro e w2 ⟨rfl, rfl⟩
  go_wp2
  go_ret
  exact ⟨rfl, rfl⟩
end Go.Proofs.YtcinjckajnnhmaaGreat
set_option linter.unusedSimpArgs false
set_option linter.unusedVariables false
namespace Go.Proofs.YtcinjckajnnhmaaGreat
open Go.RowKit Go.WideShapes Go.ChangeShapes
attribute [local go_sem] Oper.semAt_some
set_option maxRecDepth 100000 in
set_option maxHeartbeats 4000000 in
theorem getA_any {α : Type} {F : Nat → Prop} {R : World → List Value → α → Prop} (g c k : Nat) (t : Tr α) (w : World) (hc : PG c k) (hg : Blk w g 201 #[trPtr t]) (h : TrW 9 205 F R w t) (hw : trWf t) (hF : ∀ k, F k → k < w.heap.size) :
    Calls Tryz.prog 82 #[.pointer (some ⟨g, 0, none⟩), .agg #[.int .u32 (c : Int), .int .i64 (k : Int)]] w fun e w' => Below w.heap.size w w' ∧ match trGet c k t with
      | some x => ∃ v0 v1 v2 v3 v4 v5 v6 v7 v8, e = .returned (.tuple #[.agg #[v0, v1, v2, v3, v4, v5, v6, v7, v8], .bool true]) ∧ FrS F none (fun w => R w [v0, v1, v2, v3, v4, v5, v6, v7, v8] x) w'
      | none => e = .returned (.tuple #[.agg #[.int .i64 0, .int .i64 0, .slice none 0 0, .int .u32 0, .int .u32 0, .int .u32 0, .int .u32 0, .int .u32 0, .slice none 0 0], .bool false]) := by
  obtain ⟨w0, hw0⟩ : ∃ w0, (w.alloc (.cells #[.int .u32 (c : Int), .int .i64 (k : Int)] 24)).alloc (.cells #[.int .i64 0, .int .i64 0, .slice none 0 0, .int .u32 0, .int .u32 0, .int .u32 0, .int .u32 0, .int .u32 0, .slice none 0 0] 28) = w0 := ⟨_, rfl⟩
  have hb0 : Below w.heap.size w w0 := hw0 ▸ blkBelow2 w _ _
  have HZ0 : Hid (Blk w0 (w.heap.size + 1) 28 #[.int .i64 0, .int .i64 0, .slice none 0 0, .int .u32 0, .int .u32 0, .int .u32 0, .int .u32 0, .int .u32 0, .slice none 0 0]) := hide (hw0 ▸ blk_new' _ _ (by simp))
  have HFd := hide (findA_any (R := R) g c k t w0 hc (hg.below hb0 hg.lt) (h.chg (chg_below (S := fun _ => False) hb0) (by simp) (by simp)) hw)
  have hgf := trGet_find c k t
  have hfw := trFind_w c k t h
  have HF := hide hF
  obtain ⟨s, hs⟩ : ∃ s, trFind c k t = s := ⟨_, rfl⟩
  rw [hs] at hgf hfw HFd
  have HW0 := hide hw0
  have HB0 := hide hb0
  clear hw0 hb0 hs hw hg h hF
  cases s with
  | nil =>
    simp only at hgf
    rw [hgf]
    have e0 : trPtr (.nil : Tr α) = .pointer none := rfl
    rw [e0] at HFd
    clear hgf e0 hfw
    go_enter Tryz.func82, Tryz.ntmps82
    go_wp2_with fail
    rw [HW0.out]
    refine HFd.out.mono ?_
    rintro e w1 ⟨rfl, hb1⟩
    have HB1 := hide (HB0.out.trans (hb1.mono HB0.out.size))
    have hz := HZ0.out.below hb1 HZ0.out.lt
    have z0 : w1.cell? ⟨w.heap.size + 1, 0, none⟩ = some (.int .i64 0) := hz.cell 0
    have z1 : w1.cell? ⟨w.heap.size + 1, 1, none⟩ = some (.int .i64 0) := hz.cell 1
    have z2 : w1.cell? ⟨w.heap.size + 1, 2, none⟩ = some (.slice none 0 0) := hz.cell 2
    have z3 : w1.cell? ⟨w.heap.size + 1, 3, none⟩ = some (.int .u32 0) := hz.cell 3
    have z4 : w1.cell? ⟨w.heap.size + 1, 4, none⟩ = some (.int .u32 0) := hz.cell 4
    have z5 : w1.cell? ⟨w.heap.size + 1, 5, none⟩ = some (.int .u32 0) := hz.cell 5
    have z6 : w1.cell? ⟨w.heap.size + 1, 6, none⟩ = some (.int .u32 0) := hz.cell 6
    have z7 : w1.cell? ⟨w.heap.size + 1, 7, none⟩ = some (.int .u32 0) := hz.cell 7
    have z8 : w1.cell? ⟨w.heap.size + 1, 8, none⟩ = some (.slice none 0 0) := hz.cell 8
    have zf := fun i => hz.frozen i
    have HZ1 := hide hz
    clear hb1 hz
    go_wp2
    change bodyPost _ _ _ _ _ (w1.setCells (w.heap.size + 1) 0 [.int .i64 0, .int .i64 0, .slice none 0 0, .int .u32 0, .int .u32 0, .int .u32 0, .int .u32 0, .int .u32 0, .slice none 0 0])
    obtain ⟨wF, hwF⟩ : ∃ x, w1.setCells (w.heap.size + 1) 0 [.int .i64 0, .int .i64 0, .slice none 0 0, .int .u32 0, .int .u32 0, .int .u32 0, .int .u32 0, .int .u32 0, .slice none 0 0] = x := ⟨_, rfl⟩
    have HFk := hide (hwF ▸ blk_sets [.int .i64 0, .int .i64 0, .slice none 0 0, .int .u32 0, .int .u32 0, .int .u32 0, .int .u32 0, .int .u32 0, .slice none 0 0] [] [.int .i64 0, .int .i64 0, .slice none 0 0, .int .u32 0, .int .u32 0, .int .u32 0, .int .u32 0, .int .u32 0, .slice none 0 0] HZ1.out rfl : Blk wF (w.heap.size + 1) 28 #[.int .i64 0, .int .i64 0, .slice none 0 0, .int .u32 0, .int .u32 0, .int .u32 0, .int .u32 0, .int .u32 0, .slice none 0 0])
    have HFb := hide (hwF ▸ below_sets [.int .i64 0, .int .i64 0, .slice none 0 0, .int .u32 0, .int .u32 0, .int .u32 0, .int .u32 0, .int .u32 0, .slice none 0 0] 0 HB1.out (by omega) : Below w.heap.size w wF)
    rw [hwF]
    clear hwF z0 z1 z2 z3 z4 z5 z6 z7 z8 zf
    have z0 : wF.cell? ⟨w.heap.size + 1, 0, none⟩ = some (.int .i64 0) := HFk.out.cell 0
    have z1 : wF.cell? ⟨w.heap.size + 1, 1, none⟩ = some (.int .i64 0) := HFk.out.cell 1
    have z2 : wF.cell? ⟨w.heap.size + 1, 2, none⟩ = some (.slice none 0 0) := HFk.out.cell 2
    have z3 : wF.cell? ⟨w.heap.size + 1, 3, none⟩ = some (.int .u32 0) := HFk.out.cell 3
    have z4 : wF.cell? ⟨w.heap.size + 1, 4, none⟩ = some (.int .u32 0) := HFk.out.cell 4
    have z5 : wF.cell? ⟨w.heap.size + 1, 5, none⟩ = some (.int .u32 0) := HFk.out.cell 5
    have z6 : wF.cell? ⟨w.heap.size + 1, 6, none⟩ = some (.int .u32 0) := HFk.out.cell 6
    have z7 : wF.cell? ⟨w.heap.size + 1, 7, none⟩ = some (.int .u32 0) := HFk.out.cell 7
    have z8 : wF.cell? ⟨w.heap.size + 1, 8, none⟩ = some (.slice none 0 0) := HFk.out.cell 8
    exact bodyPost_ret (v := .tuple #[.agg #[.int .i64 0, .int .i64 0, .slice none 0 0, .int .u32 0, .int .u32 0, .int .u32 0, .int .u32 0, .int .u32 0, .slice none 0 0], .bool false]) (by simp [results, Tryz.results82, go_sem, z0, z1, z2, z3, z4, z5, z6, z7, z8]) rfl ⟨HFb.out, rfl⟩
  | nd b a n v l r =>
    have e0 : trPtr (.nd b a n v l r) = .pointer (some ⟨b, 0, none⟩) := rfl
    rw [e0] at HFd
    clear e0
    simp only at hgf
    rw [hgf]
    obtain ⟨⟨vs, hv, hk, hval⟩, _, _⟩ := hfw
    obtain ⟨v0, v1, v2, v3, v4, v5, v6, v7, v8, rfl⟩ := lenA hv
    have HN := hide hk
    have HVl := hide hval
    have HOne := hide hv.2
    clear hgf hv hk hval
    obtain ⟨cn, hcn⟩ : ∃ c, trCnt l + trCnt r + (if v.isSome then 1 else 0) = c := ⟨_, rfl⟩
    rw [hcn] at HN
    clear hcn
    cases v with
    | none =>
      go_enter Tryz.func82, Tryz.ntmps82
      go_wp2_with fail
      rw [HW0.out]
      refine HFd.out.mono ?_
      rintro e w1 ⟨rfl, hb1⟩
      have HB1 := hide (HB0.out.trans (hb1.mono HB0.out.size))
      have HZ1 := hide (HZ0.out.below hb1 HZ0.out.lt)
      have yp : w1.cell? ⟨b, 11, none⟩ = some (.bool false) := (HN.out.below HB1.out HN.out.lt).cell 11
      have z0 : w1.cell? ⟨w.heap.size + 1, 0, none⟩ = some (.int .i64 0) := HZ1.out.cell 0
      have z1 : w1.cell? ⟨w.heap.size + 1, 1, none⟩ = some (.int .i64 0) := HZ1.out.cell 1
      have z2 : w1.cell? ⟨w.heap.size + 1, 2, none⟩ = some (.slice none 0 0) := HZ1.out.cell 2
      have z3 : w1.cell? ⟨w.heap.size + 1, 3, none⟩ = some (.int .u32 0) := HZ1.out.cell 3
      have z4 : w1.cell? ⟨w.heap.size + 1, 4, none⟩ = some (.int .u32 0) := HZ1.out.cell 4
      have z5 : w1.cell? ⟨w.heap.size + 1, 5, none⟩ = some (.int .u32 0) := HZ1.out.cell 5
      have z6 : w1.cell? ⟨w.heap.size + 1, 6, none⟩ = some (.int .u32 0) := HZ1.out.cell 6
      have z7 : w1.cell? ⟨w.heap.size + 1, 7, none⟩ = some (.int .u32 0) := HZ1.out.cell 7
      have z8 : w1.cell? ⟨w.heap.size + 1, 8, none⟩ = some (.slice none 0 0) := HZ1.out.cell 8
      have zf := fun i => HZ1.out.frozen i
      clear hb1
      go_wp2
      change bodyPost _ _ _ _ _ (w1.setCells (w.heap.size + 1) 0 [.int .i64 0, .int .i64 0, .slice none 0 0, .int .u32 0, .int .u32 0, .int .u32 0, .int .u32 0, .int .u32 0, .slice none 0 0])
      obtain ⟨wF, hwF⟩ : ∃ x, w1.setCells (w.heap.size + 1) 0 [.int .i64 0, .int .i64 0, .slice none 0 0, .int .u32 0, .int .u32 0, .int .u32 0, .int .u32 0, .int .u32 0, .slice none 0 0] = x := ⟨_, rfl⟩
      have HFk := hide (hwF ▸ blk_sets [.int .i64 0, .int .i64 0, .slice none 0 0, .int .u32 0, .int .u32 0, .int .u32 0, .int .u32 0, .int .u32 0, .slice none 0 0] [] [.int .i64 0, .int .i64 0, .slice none 0 0, .int .u32 0, .int .u32 0, .int .u32 0, .int .u32 0, .int .u32 0, .slice none 0 0] HZ1.out rfl : Blk wF (w.heap.size + 1) 28 #[.int .i64 0, .int .i64 0, .slice none 0 0, .int .u32 0, .int .u32 0, .int .u32 0, .int .u32 0, .int .u32 0, .slice none 0 0])
      have HFb := hide (hwF ▸ below_sets [.int .i64 0, .int .i64 0, .slice none 0 0, .int .u32 0, .int .u32 0, .int .u32 0, .int .u32 0, .int .u32 0, .slice none 0 0] 0 HB1.out (by omega) : Below w.heap.size w wF)
      rw [hwF]
      clear hwF z0 z1 z2 z3 z4 z5 z6 z7 z8 zf yp
      have z0 : wF.cell? ⟨w.heap.size + 1, 0, none⟩ = some (.int .i64 0) := HFk.out.cell 0
      have z1 : wF.cell? ⟨w.heap.size + 1, 1, none⟩ = some (.int .i64 0) := HFk.out.cell 1
      have z2 : wF.cell? ⟨w.heap.size + 1, 2, none⟩ = some (.slice none 0 0) := HFk.out.cell 2
      have z3 : wF.cell? ⟨w.heap.size + 1, 3, none⟩ = some (.int .u32 0) := HFk.out.cell 3
      have z4 : wF.cell? ⟨w.heap.size + 1, 4, none⟩ = some (.int .u32 0) := HFk.out.cell 4
      have z5 : wF.cell? ⟨w.heap.size + 1, 5, none⟩ = some (.int .u32 0) := HFk.out.cell 5
      have z6 : wF.cell? ⟨w.heap.size + 1, 6, none⟩ = some (.int .u32 0) := HFk.out.cell 6
      have z7 : wF.cell? ⟨w.heap.size + 1, 7, none⟩ = some (.int .u32 0) := HFk.out.cell 7
      have z8 : wF.cell? ⟨w.heap.size + 1, 8, none⟩ = some (.slice none 0 0) := HFk.out.cell 8
      exact bodyPost_ret (v := .tuple #[.agg #[.int .i64 0, .int .i64 0, .slice none 0 0, .int .u32 0, .int .u32 0, .int .u32 0, .int .u32 0, .int .u32 0, .slice none 0 0], .bool false]) (by simp [results, Tryz.results82, go_sem, z0, z1, z2, z3, z4, z5, z6, z7, z8]) rfl ⟨HFb.out, rfl⟩
    | some x =>
      go_enter Tryz.func82, Tryz.ntmps82
      go_wp2_with fail
      rw [HW0.out]
      refine HFd.out.mono ?_
      rintro e w1 ⟨rfl, hb1⟩
      have HB1 := hide (HB0.out.trans (hb1.mono HB0.out.size))
      have HZ1 := hide (HZ0.out.below hb1 HZ0.out.lt)
      have hN1 := HN.out.below HB1.out HN.out.lt
      have yp : w1.cell? ⟨b, 11, none⟩ = some (.bool true) := hN1.cell 11
      have y0 : w1.cell? ⟨b, 2, none⟩ = some v0 := hN1.cell 2
      have y1 : w1.cell? ⟨b, 3, none⟩ = some v1 := hN1.cell 3
      have y2 : w1.cell? ⟨b, 4, none⟩ = some v2 := hN1.cell 4
      have y3 : w1.cell? ⟨b, 5, none⟩ = some v3 := hN1.cell 5
      have y4 : w1.cell? ⟨b, 6, none⟩ = some v4 := hN1.cell 6
      have y5 : w1.cell? ⟨b, 7, none⟩ = some v5 := hN1.cell 7
      have y6 : w1.cell? ⟨b, 8, none⟩ = some v6 := hN1.cell 8
      have y7 : w1.cell? ⟨b, 9, none⟩ = some v7 := hN1.cell 9
      have y8 : w1.cell? ⟨b, 10, none⟩ = some v8 := hN1.cell 10
      have z0 : w1.cell? ⟨w.heap.size + 1, 0, none⟩ = some (.int .i64 0) := HZ1.out.cell 0
      have z1 : w1.cell? ⟨w.heap.size + 1, 1, none⟩ = some (.int .i64 0) := HZ1.out.cell 1
      have z2 : w1.cell? ⟨w.heap.size + 1, 2, none⟩ = some (.slice none 0 0) := HZ1.out.cell 2
      have z3 : w1.cell? ⟨w.heap.size + 1, 3, none⟩ = some (.int .u32 0) := HZ1.out.cell 3
      have z4 : w1.cell? ⟨w.heap.size + 1, 4, none⟩ = some (.int .u32 0) := HZ1.out.cell 4
      have z5 : w1.cell? ⟨w.heap.size + 1, 5, none⟩ = some (.int .u32 0) := HZ1.out.cell 5
      have z6 : w1.cell? ⟨w.heap.size + 1, 6, none⟩ = some (.int .u32 0) := HZ1.out.cell 6
      have z7 : w1.cell? ⟨w.heap.size + 1, 7, none⟩ = some (.int .u32 0) := HZ1.out.cell 7
      have z8 : w1.cell? ⟨w.heap.size + 1, 8, none⟩ = some (.slice none 0 0) := HZ1.out.cell 8
      have zf := fun i => HZ1.out.frozen i
      clear hb1 hN1
      have o0 : ∀ (a : Addr) (m : Mode) (W : World), (store a v0 m).run Tryz.prog W = stored Tryz.prog W a v0 m := fun a m W => run_store _ W a v0 m (HOne.out v0 (by simp))
      have o1 : ∀ (a : Addr) (m : Mode) (W : World), (store a v1 m).run Tryz.prog W = stored Tryz.prog W a v1 m := fun a m W => run_store _ W a v1 m (HOne.out v1 (by simp))
      have o2 : ∀ (a : Addr) (m : Mode) (W : World), (store a v2 m).run Tryz.prog W = stored Tryz.prog W a v2 m := fun a m W => run_store _ W a v2 m (HOne.out v2 (by simp))
      have o3 : ∀ (a : Addr) (m : Mode) (W : World), (store a v3 m).run Tryz.prog W = stored Tryz.prog W a v3 m := fun a m W => run_store _ W a v3 m (HOne.out v3 (by simp))
      have o4 : ∀ (a : Addr) (m : Mode) (W : World), (store a v4 m).run Tryz.prog W = stored Tryz.prog W a v4 m := fun a m W => run_store _ W a v4 m (HOne.out v4 (by simp))
      have o5 : ∀ (a : Addr) (m : Mode) (W : World), (store a v5 m).run Tryz.prog W = stored Tryz.prog W a v5 m := fun a m W => run_store _ W a v5 m (HOne.out v5 (by simp))
      have o6 : ∀ (a : Addr) (m : Mode) (W : World), (store a v6 m).run Tryz.prog W = stored Tryz.prog W a v6 m := fun a m W => run_store _ W a v6 m (HOne.out v6 (by simp))
      have o7 : ∀ (a : Addr) (m : Mode) (W : World), (store a v7 m).run Tryz.prog W = stored Tryz.prog W a v7 m := fun a m W => run_store _ W a v7 m (HOne.out v7 (by simp))
      have o8 : ∀ (a : Addr) (m : Mode) (W : World), (store a v8 m).run Tryz.prog W = stored Tryz.prog W a v8 m := fun a m W => run_store _ W a v8 m (HOne.out v8 (by simp))
      go_wp2
      change bodyPost _ _ _ _ _ (w1.setCells (w.heap.size + 1) 0 [v0, v1, v2, v3, v4, v5, v6, v7, v8])
      obtain ⟨wF, hwF⟩ : ∃ x, w1.setCells (w.heap.size + 1) 0 [v0, v1, v2, v3, v4, v5, v6, v7, v8] = x := ⟨_, rfl⟩
      have HFk := hide (hwF ▸ blk_sets [v0, v1, v2, v3, v4, v5, v6, v7, v8] [] [.int .i64 0, .int .i64 0, .slice none 0 0, .int .u32 0, .int .u32 0, .int .u32 0, .int .u32 0, .int .u32 0, .slice none 0 0] HZ1.out rfl : Blk wF (w.heap.size + 1) 28 #[v0, v1, v2, v3, v4, v5, v6, v7, v8])
      have HFb := hide (hwF ▸ below_sets [v0, v1, v2, v3, v4, v5, v6, v7, v8] 0 HB1.out (by omega) : Below w.heap.size w wF)
      rw [hwF]
      clear hwF y0 y1 y2 y3 y4 y5 y6 y7 y8 z0 z1 z2 z3 z4 z5 z6 z7 z8 zf yp o0 o1 o2 o3 o4 o5 o6 o7 o8
      have z0 : wF.cell? ⟨w.heap.size + 1, 0, none⟩ = some v0 := HFk.out.cell 0
      have z1 : wF.cell? ⟨w.heap.size + 1, 1, none⟩ = some v1 := HFk.out.cell 1
      have z2 : wF.cell? ⟨w.heap.size + 1, 2, none⟩ = some v2 := HFk.out.cell 2
      have z3 : wF.cell? ⟨w.heap.size + 1, 3, none⟩ = some v3 := HFk.out.cell 3
      have z4 : wF.cell? ⟨w.heap.size + 1, 4, none⟩ = some v4 := HFk.out.cell 4
      have z5 : wF.cell? ⟨w.heap.size + 1, 5, none⟩ = some v5 := HFk.out.cell 5
      have z6 : wF.cell? ⟨w.heap.size + 1, 6, none⟩ = some v6 := HFk.out.cell 6
      have z7 : wF.cell? ⟨w.heap.size + 1, 7, none⟩ = some v7 := HFk.out.cell 7
      have z8 : wF.cell? ⟨w.heap.size + 1, 8, none⟩ = some v8 := HFk.out.cell 8
      exact bodyPost_ret (v := .tuple #[.agg #[v0, v1, v2, v3, v4, v5, v6, v7, v8], .bool true]) (by simp [results, Tryz.results82, go_sem, z0, z1, z2, z3, z4, z5, z6, z7, z8]) rfl ⟨HFb.out, v0, v1, v2, v3, v4, v5, v6, v7, v8, rfl, frs_chg (HVl.out x rfl) (chg_below (S := fun _ => False) HFb.out) (by simp)⟩
end Go.Proofs.YtcinjckajnnhmaaGreat
set_option linter.unusedSimpArgs false
set_option linter.unusedVariables false
namespace Go.Proofs.YtcinjckajnnhmaaGreat
open Go.RowKit Go.WideShapes Go.ChangeShapes
attribute [local go_sem] Oper.semAt_some
def pxR (w : World) (vs : List Value) (x : Nat × Nat) : Prop := vs = [.int .u32 (x.1 : Int), .int .i64 (x.2 : Int)]
theorem pxMono : SMono pxR := fun _ _ _ _ _ h => h
theorem pxC_chunks (w : World) : ∀ l : List (Nat × Nat), Chunks 2 pxR w (pxC l) l
  | [] => Chunks.nil_
  | x :: l => by
      have h : pxC (x :: l) = [.int .u32 (x.1 : Int), .int .i64 (x.2 : Int)] ++ pxC l := by simp [pxC]
      rw [h]
      exact Chunks.app_ (l := [x]) (Chunks.one_ rfl rfl) (pxC_chunks w l)
theorem own_pxs {w : World} {b n c : Nat} {A : Option Addr} {l : List (Nat × Nat)} (h : w.ownsRow b 24 2 (.slice A n c) n (pxC l)) : LstAt 2 pxR w A n c l := LstAt.of_own (by decide) h (pxC_chunks w l)
theorem PXat {w : World} {A : Option Addr} {n c q : Nat} {l : List (Nat × Nat)} (h : LstAt 2 pxR w A n c l) (hq : q < n) : ∃ g o a m, A = some ⟨g, o, none⟩ ∧ g < w.heap.size ∧ l[q]? = some (a, m) ∧ w.cell? ⟨g, o + q * 2, none⟩ = some (.int .u32 (a : Int)) ∧ w.cell? ⟨g, o + q * 2 + 1, none⟩ = some (.int .i64 (m : Int)) := by
  obtain ⟨h1, h2, h3, h4⟩ := h
  obtain ⟨g, o, rfl, hg, hc⟩ := h4 (by omega)
  have hx : l[q]? = some l[q] := List.getElem?_eq_getElem (by omega)
  obtain ⟨vs, hl, rfl, hcs⟩ := hc q _ hx
  exact ⟨g, o, _, _, rfl, hg, hx, hcs 0 _ rfl, hcs 1 _ rfl⟩
/-- A tree's value: attributes. -/
def atR (w : World) (vs : List Value) (x : AT) : Prop := AtR w x (.agg vs.toArray)
end Go.Proofs.YtcinjckajnnhmaaGreat
set_option linter.unusedSimpArgs false
set_option linter.unusedVariables false
namespace Go.Proofs.YtcinjckajnnhmaaGreat
open Go.RowKit Go.WideShapes Go.ChangeShapes
attribute [local go_sem] Oper.semAt_some
set_option maxRecDepth 100000 in
set_option maxHeartbeats 4000000 in
theorem putnilA_any (a n : Nat) (vh vo : Int) (vA : Option Addr) (vn vc : Nat) (vp vm vf vs vi : Int) (vB : Option Addr) (vk vd : Nat) (w : World) :
    Calls Tryz.prog 141 #[.pointer none, .agg #[.int .u32 (a : Int), .int .i64 (n : Int)], .agg #[.int .i64 vh, .int .i64 vo, .slice vA vn vc, .int .u32 vp, .int .u32 vm, .int .u32 vf, .int .u32 vs, .int .u32 vi, .slice vB vk vd]] w fun e w' => ∃ b, e = .returned (.pointer (some ⟨b, 0, none⟩)) ∧ w.heap.size ≤ b ∧ Blk w' b 205 (ndC a n [.int .i64 vh, .int .i64 vo, .slice vA vn vc, .int .u32 vp, .int .u32 vm, .int .u32 vf, .int .u32 vs, .int .u32 vi, .slice vB vk vd] true 1 (.pointer none) (.pointer none)) ∧ Below w.heap.size w w' := by
  have HB := hide (blkBelow3q w (.cells #[.int .u32 (a : Int), .int .i64 (n : Int)] 24) (.cells #[.int .i64 vh, .int .i64 vo, .slice vA vn vc, .int .u32 vp, .int .u32 vm, .int .u32 vf, .int .u32 vs, .int .u32 vi, .slice vB vk vd] 28) (.cells (ndC a n [.int .i64 vh, .int .i64 vo, .slice vA vn vc, .int .u32 vp, .int .u32 vm, .int .u32 vf, .int .u32 vs, .int .u32 vi, .slice vB vk vd] true 1 (.pointer none) (.pointer none)) 205))
  have HK : Hid (Blk (((w.alloc (.cells #[.int .u32 (a : Int), .int .i64 (n : Int)] 24)).alloc (.cells #[.int .i64 vh, .int .i64 vo, .slice vA vn vc, .int .u32 vp, .int .u32 vm, .int .u32 vf, .int .u32 vs, .int .u32 vi, .slice vB vk vd] 28)).alloc (.cells (ndC a n [.int .i64 vh, .int .i64 vo, .slice vA vn vc, .int .u32 vp, .int .u32 vm, .int .u32 vf, .int .u32 vs, .int .u32 vi, .slice vB vk vd] true 1 (.pointer none) (.pointer none)) 205)) (w.heap.size + 1 + 1) 205 (ndC a n [.int .i64 vh, .int .i64 vo, .slice vA vn vc, .int .u32 vp, .int .u32 vm, .int .u32 vf, .int .u32 vs, .int .u32 vi, .slice vB vk vd] true 1 (.pointer none) (.pointer none))) := hide (blk_new' _ _ (by simp))
  go_enter Tryz.func141, Tryz.ntmps141
  go_wp2
  go_ret
  exact ⟨w.heap.size + 1 + 1, rfl, by omega, HK.out, HB.out⟩
set_option maxRecDepth 100000 in
set_option maxHeartbeats 8000000 in
theorem puteA_any {α : Type} {F : Nat → Prop} {R : World → List Value → α → Prop} (g a n : Nat) (x : α) (vh vo : Int) (vA : Option Addr) (vn vc : Nat) (vp vm vf vs vi : Int) (vB : Option Addr) (vk vd : Nat) (w : World) (ha : PG a n) (hg : Blk w g 201 #[.pointer none]) (hF : ∀ k, F k → k < w.heap.size) (hv : FrS F none (fun w => R w [.int .i64 vh, .int .i64 vo, .slice vA vn vc, .int .u32 vp, .int .u32 vm, .int .u32 vf, .int .u32 vs, .int .u32 vi, .slice vB vk vd] x) w) (hgF : ¬ F g) :
    Calls Tryz.prog 80 #[.pointer (some ⟨g, 0, none⟩), .agg #[.int .u32 (a : Int), .int .i64 (n : Int)], .agg #[.int .i64 vh, .int .i64 vo, .slice vA vn vc, .int .u32 vp, .int .u32 vm, .int .u32 vf, .int .u32 vs, .int .u32 vi, .slice vB vk vd]] w fun e w' => e = .returned (.tuple #[.agg #[.int .i64 0, .int .i64 0, .slice none 0 0, .int .u32 0, .int .u32 0, .int .u32 0, .int .u32 0, .int .u32 0, .slice none 0 0], .bool false]) ∧ ∃ b, w.heap.size ≤ b ∧ Blk w' g 201 #[.pointer (some ⟨b, 0, none⟩)] ∧ TrA 9 205 F R w' (.nd b a n (some x) .nil .nil) ∧ ChgS (fun k => k = g) w w' := by
  obtain ⟨w0, hw0⟩ : ∃ w0, ((w.alloc (.cells #[.int .u32 (a : Int), .int .i64 (n : Int)] 24)).alloc (.cells #[.int .i64 vh, .int .i64 vo, .slice vA vn vc, .int .u32 vp, .int .u32 vm, .int .u32 vf, .int .u32 vs, .int .u32 vi, .slice vB vk vd] 28)).alloc (.cells #[.int .i64 0, .int .i64 0, .slice none 0 0, .int .u32 0, .int .u32 0, .int .u32 0, .int .u32 0, .int .u32 0, .slice none 0 0] 28) = w0 := ⟨_, rfl⟩
  have hb0 : Below w.heap.size w w0 := hw0 ▸ blkBelow3q w _ _ _
  have HX0 : Hid (Blk w0 w.heap.size 24 #[.int .u32 (a : Int), .int .i64 (n : Int)]) := hide (hw0 ▸ ((Blk.new w _ _).alloc _).alloc _)
  have HV0 : Hid (Blk w0 (w.heap.size + 1) 28 #[.int .i64 vh, .int .i64 vo, .slice vA vn vc, .int .u32 vp, .int .u32 vm, .int .u32 vf, .int .u32 vs, .int .u32 vi, .slice vB vk vd]) := hide (hw0 ▸ (blk_new' _ _ (by simp)).alloc _)
  have HZ0 : Hid (Blk w0 (w.heap.size + 1 + 1) 28 #[.int .i64 0, .int .i64 0, .slice none 0 0, .int .u32 0, .int .u32 0, .int .u32 0, .int .u32 0, .int .u32 0, .slice none 0 0]) := hide (hw0 ▸ blk_new' _ _ (by simp))
  have HGd := hide (Good_any a (n : Int) ha.1 (by omega) (by have := ha.2.1; omega))
  rw [good_pg ha] at HGd
  unfold pfx at HGd
  have HFd := hide (fun W (hb : Below w.heap.size w W) => findA_any (F := F) (R := R) g a n (.nil : Tr α) W ha (hg.below hb hg.lt) trivial trivial)
  have HG := hide hg
  have HW0 := hide hw0
  have HB0 := hide hb0
  have HFv := hide hv
  have HF := hide hF
  have HPa := hide ha
  have HgF := hide hgF
  clear hw0 hb0 hg hF hv ha hgF
  go_enter Tryz.func80, Tryz.ntmps80
  go_wp2_with fail
  rw [HW0.out]
  refine (HGd.out _).mono ?_
  rintro e w1 ⟨rfl, hb1⟩
  have HB1 := hide (HB0.out.trans (hb1.mono HB0.out.size))
  have HX1 := hide (HX0.out.below hb1 HX0.out.lt)
  have x0 : w1.cell? ⟨w.heap.size, 0, none⟩ = some (.int .u32 (a : Int)) := HX1.out.cell 0
  have x1 : w1.cell? ⟨w.heap.size, 1, none⟩ = some (.int .i64 (n : Int)) := HX1.out.cell 1
  have HV1 := hide (HV0.out.below hb1 HV0.out.lt)
  have HZ1 := hide (HZ0.out.below hb1 HZ0.out.lt)
  clear hb1
  go_wp2_with fail
  refine (HFd.out _ HB1.out).mono ?_
  rintro e w2 ⟨rfl, hb2⟩
  have HB2 := hide (HB1.out.trans (hb2.mono HB1.out.size))
  have HX2 := hide (HX1.out.below hb2 HX1.out.lt)
  have HV2 := hide (HV1.out.below hb2 HV1.out.lt)
  have HZ2 := hide (HZ1.out.below hb2 HZ1.out.lt)
  have HG2 := hide (HG.out.below HB2.out HG.out.lt)
  have e0 : trPtr (trFind a n (.nil : Tr α)) = .pointer none := rfl
  rw [e0]
  clear e0 hb2 x0 x1
  go_upto_region 7 with fail
  have Hmn := hide (show AllMono [(fun v _ => v = .pointer (some ⟨g, 0, none⟩)), (fun v _ => v = .pointer (some ⟨g, 0, none⟩)), (fun v _ => v = .pointer (some ⟨g, 0, none⟩)), (fun v _ => v = .pointer (some ⟨g, 0, none⟩)), (fun v _ => v = .pointer none), (fun v _ => v = .agg #[.int .u32 (a : Int), .int .i64 (n : Int)]), (fun v _ => v = .agg #[.int .i64 vh, .int .i64 vo, .slice vA vn vc, .int .u32 vp, .int .u32 vm, .int .u32 vf, .int .u32 vs, .int .u32 vi, .slice vB vk vd]), (fun v W => ∃ b, v = .pointer (some ⟨b, 0, none⟩) ∧ w2.heap.size ≤ b ∧ Blk W b 205 (ndC a n [.int .i64 vh, .int .i64 vo, .slice vA vn vc, .int .u32 vp, .int .u32 vm, .int .u32 vf, .int .u32 vs, .int .u32 vi, .slice vB vk vd] true 1 (.pointer none) (.pointer none))), (fun v _ => v = .pointer (some ⟨g, 0, none⟩)), (fun v _ => v = .pointer (some ⟨g, 0, none⟩))] from ⟨fun _ _ _ _ h => h, fun _ _ _ _ h => h, fun _ _ _ _ h => h, fun _ _ _ _ h => h, fun _ _ _ _ h => h, fun _ _ _ _ h => h, fun _ _ _ _ h => h, fun v W1 W2 hb ⟨b, e, h1, h2⟩ => ⟨b, e, h1, h2.below hb h2.lt⟩, fun _ _ _ _ h => h, fun _ _ _ _ h => h, trivial⟩)
  refine wp_region_relT 10 _ (by kernel_rfl) (by kernel_rfl) (by kernel_rfl) (by kernel_rfl) (by kernel_rfl) (relMono _ Hmn.out) ⟨?_, ?_, ?_, ?_, ?_, ?_, ?_, ?_, ?_, ?_, trivial⟩ ?_
  · refine relStep_plain rfl ?_
    intro Ac w5 hp
    have hb := hp.bel
    have a0 : Ac.eval (.tmp 0) = .pointer (some ⟨g, 0, none⟩) := hp.out 0 (by rfl)
    have hc := evalC Ac; have hf := evalF Ac; have hgl := evalG Ac
    obtain ⟨ρ, hρ⟩ : ∃ ρ, Ac.eval = ρ := ⟨_, rfl⟩
    rw [hρ] at a0 hc hf hgl
    exact relPure hρ (.pointer (some ⟨g, 0, none⟩)) (by simp [go_sem, hc, hf, hgl, ↓IntWalk.iteOmega, a0, *]) rfl
  · refine relStep_plain rfl ?_
    intro Ac w5 hp
    have hb := hp.bel
    have a0 : Ac.eval (.tmp 0) = .pointer (some ⟨g, 0, none⟩) := hp.out 0 (by rfl)
    have hc := evalC Ac; have hf := evalF Ac; have hgl := evalG Ac
    obtain ⟨ρ, hρ⟩ : ∃ ρ, Ac.eval = ρ := ⟨_, rfl⟩
    rw [hρ] at a0 hc hf hgl
    exact relPure hρ (.pointer (some ⟨g, 0, none⟩)) (by simp [go_sem, hc, hf, hgl, ↓IntWalk.iteOmega, a0, *]) rfl
  · refine relStep_plain rfl ?_
    intro Ac w5 hp
    have hb := hp.bel
    have a38 : Ac.eval (.tmp 38) = .pointer (some ⟨g, 0, none⟩) := hp.dep 1 (by kernel_rfl)
    have hc := evalC Ac; have hf := evalF Ac; have hgl := evalG Ac
    obtain ⟨ρ, hρ⟩ : ∃ ρ, Ac.eval = ρ := ⟨_, rfl⟩
    rw [hρ] at a38 hc hf hgl
    exact relPure hρ (.pointer (some ⟨g, 0, none⟩)) (by simp [go_sem, hc, hf, hgl, ↓IntWalk.iteOmega, a38, *]) rfl
  · refine relStep_plain rfl ?_
    intro Ac w5 hp
    have hb := hp.bel
    have a39 : Ac.eval (.tmp 39) = .pointer (some ⟨g, 0, none⟩) := hp.dep 2 (by kernel_rfl)
    have hc := evalC Ac; have hf := evalF Ac; have hgl := evalG Ac
    obtain ⟨ρ, hρ⟩ : ∃ ρ, Ac.eval = ρ := ⟨_, rfl⟩
    rw [hρ] at a39 hc hf hgl
    exact relPure hρ (.pointer (some ⟨g, 0, none⟩)) (by simp [go_sem, hc, hf, hgl, ↓IntWalk.iteOmega, a39, *]) rfl
  · refine relStep_plain rfl ?_
    intro Ac w5 hp
    have hb := hp.bel
    have a40 : Ac.eval (.tmp 40) = .pointer (some ⟨g, 0, none⟩) := hp.dep 3 (by kernel_rfl)
    have hg5 := HG2.out.below hb HG2.out.lt
    have z0 : w5.cell? ⟨g, 0, none⟩ = some (.pointer none) := hg5.cell 0
    have hc := evalC Ac; have hf := evalF Ac; have hgl := evalG Ac
    obtain ⟨ρ, hρ⟩ : ∃ ρ, Ac.eval = ρ := ⟨_, rfl⟩
    rw [hρ] at a40 hc hf hgl
    exact relPure hρ (.pointer none) (by simp [go_sem, hc, hf, hgl, ↓IntWalk.iteOmega, a40, *]) rfl
  · refine relStep_plain rfl ?_
    intro Ac w5 hp
    have hb := hp.bel
    have a4 : Ac.eval (.tmp 4) = .pointer (some ⟨w.heap.size, 0, none⟩) := hp.out 4 (by rfl)
    have hx5 := HX2.out.below hb HX2.out.lt
    have x0 : w5.cell? ⟨w.heap.size, 0, none⟩ = some (.int .u32 (a : Int)) := hx5.cell 0
    have x1 : w5.cell? ⟨w.heap.size, 1, none⟩ = some (.int .i64 (n : Int)) := hx5.cell 1
    have hc := evalC Ac; have hf := evalF Ac; have hgl := evalG Ac
    obtain ⟨ρ, hρ⟩ : ∃ ρ, Ac.eval = ρ := ⟨_, rfl⟩
    rw [hρ] at a4 hc hf hgl
    exact relPure hρ (.agg #[.int .u32 (a : Int), .int .i64 (n : Int)]) (by simp [go_sem, hc, hf, hgl, ↓IntWalk.iteOmega, a4, *]) rfl
  · refine relStep_plain rfl ?_
    intro Ac w5 hp
    have hb := hp.bel
    have a5 : Ac.eval (.tmp 5) = .pointer (some ⟨w.heap.size + 1, 0, none⟩) := hp.out 5 (by rfl)
    have hv5 := HV2.out.below hb HV2.out.lt
    have u0 : w5.cell? ⟨w.heap.size + 1, 0, none⟩ = some (.int .i64 vh) := hv5.cell 0
    have u1 : w5.cell? ⟨w.heap.size + 1, 1, none⟩ = some (.int .i64 vo) := hv5.cell 1
    have u2 : w5.cell? ⟨w.heap.size + 1, 2, none⟩ = some (.slice vA vn vc) := hv5.cell 2
    have u3 : w5.cell? ⟨w.heap.size + 1, 3, none⟩ = some (.int .u32 vp) := hv5.cell 3
    have u4 : w5.cell? ⟨w.heap.size + 1, 4, none⟩ = some (.int .u32 vm) := hv5.cell 4
    have u5 : w5.cell? ⟨w.heap.size + 1, 5, none⟩ = some (.int .u32 vf) := hv5.cell 5
    have u6 : w5.cell? ⟨w.heap.size + 1, 6, none⟩ = some (.int .u32 vs) := hv5.cell 6
    have u7 : w5.cell? ⟨w.heap.size + 1, 7, none⟩ = some (.int .u32 vi) := hv5.cell 7
    have u8 : w5.cell? ⟨w.heap.size + 1, 8, none⟩ = some (.slice vB vk vd) := hv5.cell 8
    have hc := evalC Ac; have hf := evalF Ac; have hgl := evalG Ac
    obtain ⟨ρ, hρ⟩ : ∃ ρ, Ac.eval = ρ := ⟨_, rfl⟩
    rw [hρ] at a5 hc hf hgl
    exact relPure hρ (.agg #[.int .i64 vh, .int .i64 vo, .slice vA vn vc, .int .u32 vp, .int .u32 vm, .int .u32 vf, .int .u32 vs, .int .u32 vi, .slice vB vk vd]) (by simp [go_sem, hc, hf, hgl, ↓IntWalk.iteOmega, a5, *]) rfl
  · refine relStep_plain rfl ?_
    intro Ac w5 hp
    have hb := hp.bel
    have a41 : Ac.eval (.tmp 41) = .pointer none := hp.dep 4 (by kernel_rfl)
    have a42 : Ac.eval (.tmp 42) = .agg #[.int .u32 (a : Int), .int .i64 (n : Int)] := hp.dep 5 (by kernel_rfl)
    have a43 : Ac.eval (.tmp 43) = .agg #[.int .i64 vh, .int .i64 vo, .slice vA vn vc, .int .u32 vp, .int .u32 vm, .int .u32 vf, .int .u32 vs, .int .u32 vi, .slice vB vk vd] := hp.dep 6 (by kernel_rfl)
    have hc := evalC Ac; have hf := evalF Ac; have hgl := evalG Ac
    obtain ⟨ρ, hρ⟩ : ∃ ρ, Ac.eval = ρ := ⟨_, rfl⟩
    rw [hρ] at a41 a42 a43 hc hf hgl
    refine relCall hρ 141 #[.pointer none, .agg #[.int .u32 (a : Int), .int .i64 (n : Int)], .agg #[.int .i64 vh, .int .i64 vo, .slice vA vn vc, .int .u32 vp, .int .u32 vm, .int .u32 vf, .int .u32 vs, .int .u32 vi, .slice vB vk vd]] (by simp [go_sem, hc, hf, hgl, ↓IntWalk.iteOmega, a41, a42, a43, *]) ?_
    refine (putnilA_any a n vh vo vA vn vc vp vm vf vs vi vB vk vd w5).mono ?_
    rintro e w6 ⟨b, rfl, hb2, hk2, hb6⟩
    exact ⟨_, rfl, ⟨b, rfl, Nat.le_trans hp.bel.size hb2, hk2⟩, hb6⟩
  · refine relStep_plain rfl ?_
    intro Ac w5 hp
    have hb := hp.bel
    have a37 : Ac.eval (.tmp 37) = .pointer (some ⟨g, 0, none⟩) := hp.dep 0 (by kernel_rfl)
    have hc := evalC Ac; have hf := evalF Ac; have hgl := evalG Ac
    obtain ⟨ρ, hρ⟩ : ∃ ρ, Ac.eval = ρ := ⟨_, rfl⟩
    rw [hρ] at a37 hc hf hgl
    exact relPure hρ (.pointer (some ⟨g, 0, none⟩)) (by simp [go_sem, hc, hf, hgl, ↓IntWalk.iteOmega, a37, *]) rfl
  · refine relStep_plain rfl ?_
    intro Ac w5 hp
    have hb := hp.bel
    have a45 : Ac.eval (.tmp 45) = .pointer (some ⟨g, 0, none⟩) := hp.dep 8 (by kernel_rfl)
    have hc := evalC Ac; have hf := evalF Ac; have hgl := evalG Ac
    obtain ⟨ρ, hρ⟩ : ∃ ρ, Ac.eval = ρ := ⟨_, rfl⟩
    rw [hρ] at a45 hc hf hgl
    exact relPure hρ (.pointer (some ⟨g, 0, none⟩)) (by simp [go_sem, hc, hf, hgl, ↓IntWalk.iteOmega, a45, *]) rfl
  intro u w7 hb7 hall
  obtain ⟨b44, e44, hb44, hk44⟩ := relAll_at hall (i := 7) (by decide +kernel)
  change u 7 = _ at e44
  have e46 : u 9 = .pointer (some ⟨g, 0, none⟩) := relAll_at hall (i := 9) (by decide +kernel)
  clear hall
  simp only [List.drop_succ_cons, List.drop_zero, List.take_succ_cons, List.take_zero, putAll, Act.put, List.setIfInBounds_toArray, List.set_cons_zero, List.set_cons_succ, Nat.zero_add, Nat.reduceAdd, e44, e46]
  have HB7 := hide (HB2.out.trans (hb7.mono HB2.out.size))
  have HG7 := hide (HG2.out.below hb7 HG2.out.lt)
  have HZ7 := hide (HZ2.out.below hb7 HZ2.out.lt)
  have HK7 := hide hk44
  have hbg : w.heap.size ≤ b44 := Nat.le_trans HB2.out.size hb44
  have hgl := HG.out.lt
  have hbz : w.heap.size + 1 + 1 < b44 := Nat.lt_of_lt_of_le HZ2.out.lt hb44
  have HZs : Hid (∀ u : Value, Blk (w7.setCell ⟨g, 0, none⟩ u) (w.heap.size + 1 + 1) 28 #[.int .i64 0, .int .i64 0, .slice none 0 0, .int .u32 0, .int .u32 0, .int .u32 0, .int .u32 0, .int .u32 0, .slice none 0 0]) := hide fun u => HZ7.out.far (p := ⟨g, 0, none⟩) (by show w.heap.size + 1 + 1 ≠ g; omega) u
  have HKs : Hid (∀ u : Value, Blk (w7.setCell ⟨g, 0, none⟩ u) b44 205 (ndC a n [.int .i64 vh, .int .i64 vo, .slice vA vn vc, .int .u32 vp, .int .u32 vm, .int .u32 vf, .int .u32 vs, .int .u32 vi, .slice vB vk vd] true 1 (.pointer none) (.pointer none))) := hide fun u => HK7.out.far (p := ⟨g, 0, none⟩) (by show b44 ≠ g; omega) u
  have HGs : Hid (∀ u : Value, Blk (w7.setCell ⟨g, 0, none⟩ u) g 201 #[u]) := hide fun u => HG7.out.set_ 0 u
  have HCs : Hid (∀ u : Value, ChgS (fun k => k = g) w (w7.setCell ⟨g, 0, none⟩ u)) := hide fun u => chg_trans (chg_below HB7.out) (chg_set (S := fun k => k = g) (p := ⟨g, 0, none⟩) rfl u) (fun k h => .inl h)
  have zg : w7.cell? ⟨g, 0, none⟩ = some (.pointer none) := HG7.out.cell 0
  have zgf := HG7.out.frozen 0
  obtain ⟨w8, hw8⟩ : ∃ W, w7.setCell ⟨g, 0, none⟩ (.pointer (some ⟨b44, 0, none⟩)) = W := ⟨_, rfl⟩
  have HZ8 := hide (hw8 ▸ HZs.out _ : Blk w8 (w.heap.size + 1 + 1) 28 #[.int .i64 0, .int .i64 0, .slice none 0 0, .int .u32 0, .int .u32 0, .int .u32 0, .int .u32 0, .int .u32 0, .slice none 0 0])
  have HK8 := hide (hw8 ▸ HKs.out _ : Blk w8 b44 205 (ndC a n [.int .i64 vh, .int .i64 vo, .slice vA vn vc, .int .u32 vp, .int .u32 vm, .int .u32 vf, .int .u32 vs, .int .u32 vi, .slice vB vk vd] true 1 (.pointer none) (.pointer none)))
  have HG8 := hide (hw8 ▸ HGs.out _ : Blk w8 g 201 #[.pointer (some ⟨b44, 0, none⟩)])
  have HC8 := hide (hw8 ▸ HCs.out _ : ChgS (fun k => k = g) w w8)
  clear hb7 hk44 hb44 HZs HKs HGs HCs
  go_upto_region 8 with fail
  have z0 : w8.cell? ⟨w.heap.size + 1 + 1, 0, none⟩ = some (.int .i64 0) := HZ8.out.cell 0
  have z1 : w8.cell? ⟨w.heap.size + 1 + 1, 1, none⟩ = some (.int .i64 0) := HZ8.out.cell 1
  have z2 : w8.cell? ⟨w.heap.size + 1 + 1, 2, none⟩ = some (.slice none 0 0) := HZ8.out.cell 2
  have z3 : w8.cell? ⟨w.heap.size + 1 + 1, 3, none⟩ = some (.int .u32 0) := HZ8.out.cell 3
  have z4 : w8.cell? ⟨w.heap.size + 1 + 1, 4, none⟩ = some (.int .u32 0) := HZ8.out.cell 4
  have z5 : w8.cell? ⟨w.heap.size + 1 + 1, 5, none⟩ = some (.int .u32 0) := HZ8.out.cell 5
  have z6 : w8.cell? ⟨w.heap.size + 1 + 1, 6, none⟩ = some (.int .u32 0) := HZ8.out.cell 6
  have z7 : w8.cell? ⟨w.heap.size + 1 + 1, 7, none⟩ = some (.int .u32 0) := HZ8.out.cell 7
  have z8 : w8.cell? ⟨w.heap.size + 1 + 1, 8, none⟩ = some (.slice none 0 0) := HZ8.out.cell 8
  have zf := fun i => HZ8.out.frozen i
  clear hw8 zg zgf
  go_wp2
  change bodyPost _ _ _ _ _ (w8.setCells (w.heap.size + 1 + 1) 0 [.int .i64 0, .int .i64 0, .slice none 0 0, .int .u32 0, .int .u32 0, .int .u32 0, .int .u32 0, .int .u32 0, .slice none 0 0])
  obtain ⟨wF, hwF⟩ : ∃ x, w8.setCells (w.heap.size + 1 + 1) 0 [.int .i64 0, .int .i64 0, .slice none 0 0, .int .u32 0, .int .u32 0, .int .u32 0, .int .u32 0, .int .u32 0, .slice none 0 0] = x := ⟨_, rfl⟩
  have HFk := hide (hwF ▸ blk_sets [.int .i64 0, .int .i64 0, .slice none 0 0, .int .u32 0, .int .u32 0, .int .u32 0, .int .u32 0, .int .u32 0, .slice none 0 0] [] [.int .i64 0, .int .i64 0, .slice none 0 0, .int .u32 0, .int .u32 0, .int .u32 0, .int .u32 0, .int .u32 0, .slice none 0 0] HZ8.out rfl : Blk wF (w.heap.size + 1 + 1) 28 #[.int .i64 0, .int .i64 0, .slice none 0 0, .int .u32 0, .int .u32 0, .int .u32 0, .int .u32 0, .int .u32 0, .slice none 0 0])
  have HFn := hide (hwF ▸ blk_sets_far (by omega) [.int .i64 0, .int .i64 0, .slice none 0 0, .int .u32 0, .int .u32 0, .int .u32 0, .int .u32 0, .int .u32 0, .slice none 0 0] 0 HK8.out : Blk wF b44 205 _)
  have HFg := hide (hwF ▸ blk_sets_far (by omega) [.int .i64 0, .int .i64 0, .slice none 0 0, .int .u32 0, .int .u32 0, .int .u32 0, .int .u32 0, .int .u32 0, .slice none 0 0] 0 HG8.out : Blk wF g 201 _)
  have HFc : Hid (ChgS (fun k => k = g) w wF) := hide (hwF ▸ chg_trans HC8.out (chg_sets (S := fun k => k = w.heap.size + 1 + 1) rfl [.int .i64 0, .int .i64 0, .slice none 0 0, .int .u32 0, .int .u32 0, .int .u32 0, .int .u32 0, .int .u32 0, .slice none 0 0] 0) (fun k h => .inr (by omega)))
  rw [hwF]
  clear hwF z0 z1 z2 z3 z4 z5 z6 z7 z8 zf
  have z0 : wF.cell? ⟨w.heap.size + 1 + 1, 0, none⟩ = some (.int .i64 0) := HFk.out.cell 0
  have z1 : wF.cell? ⟨w.heap.size + 1 + 1, 1, none⟩ = some (.int .i64 0) := HFk.out.cell 1
  have z2 : wF.cell? ⟨w.heap.size + 1 + 1, 2, none⟩ = some (.slice none 0 0) := HFk.out.cell 2
  have z3 : wF.cell? ⟨w.heap.size + 1 + 1, 3, none⟩ = some (.int .u32 0) := HFk.out.cell 3
  have z4 : wF.cell? ⟨w.heap.size + 1 + 1, 4, none⟩ = some (.int .u32 0) := HFk.out.cell 4
  have z5 : wF.cell? ⟨w.heap.size + 1 + 1, 5, none⟩ = some (.int .u32 0) := HFk.out.cell 5
  have z6 : wF.cell? ⟨w.heap.size + 1 + 1, 6, none⟩ = some (.int .u32 0) := HFk.out.cell 6
  have z7 : wF.cell? ⟨w.heap.size + 1 + 1, 7, none⟩ = some (.int .u32 0) := HFk.out.cell 7
  have z8 : wF.cell? ⟨w.heap.size + 1 + 1, 8, none⟩ = some (.slice none 0 0) := HFk.out.cell 8
  refine bodyPost_ret (v := .tuple #[.agg #[.int .i64 0, .int .i64 0, .slice none 0 0, .int .u32 0, .int .u32 0, .int .u32 0, .int .u32 0, .int .u32 0, .slice none 0 0], .bool false]) (by simp [results, Tryz.results80, go_sem, z0, z1, z2, z3, z4, z5, z6, z7, z8]) rfl ⟨rfl, b44, hbg, HFg.out, ?_, HFc.out⟩
  refine ⟨⟨⟨[.int .i64 vh, .int .i64 vo, .slice vA vn vc, .int .u32 vp, .int .u32 vm, .int .u32 vf, .int .u32 vs, .int .u32 vi, .slice vB vk vd], ⟨rfl, by simp [Value.oneCell']⟩, HFn.out, fun y hy => ?_⟩, trivial, trivial⟩, ⟨HPa.out, trivial, trivial, trivial, trivial⟩, by simp [trB], ?_⟩
  · injection hy with hy
    subst hy
    exact frs_chg HFv.out HFc.out (fun k hk e => HgF.out (e ▸ hk))
  · intro k hk hFk
    simp only [trB, List.append_nil, List.mem_singleton] at hk
    subst hk
    have := HF.out _ hFk
    omega
end Go.Proofs.YtcinjckajnnhmaaGreat
set_option linter.unusedSimpArgs false
set_option linter.unusedVariables false
namespace Go.Proofs.YtcinjckajnnhmaaGreat
open Go.RowKit Go.WideShapes Go.ChangeShapes
attribute [local go_sem] Oper.semAt_some
set_option maxRecDepth 100000 in
set_option maxHeartbeats 4000000 in
theorem pfirst_seq (A : Option Addr) (n c x : Nat) (r : List Nat) (l : List SG) (w : World) (h : LstAt 2 sgR w A n c (⟨2, x :: r⟩ :: l)) :
    Calls Tryz.prog 204 #[.slice A n c] w fun e w' => e = .returned (.tuple #[.int .u32 (x : Int), .bool true]) ∧ w' = w := by
  have hln := h.1
  have hn0 : 0 < n := by rw [← hln]; simp
  obtain ⟨g, o, b, B, m, d, r2, rfl, hg, hx, hr, hc0, hc1⟩ := SGat h hn0
  simp only [List.getElem?_cons_zero, Option.some.injEq, SG.mk.injEq] at hx
  obtain ⟨rfl, rfl⟩ := hx
  have hm0 : 0 < m := by rw [← hr.1]; simp
  obtain ⟨g2, o2, y, hB, hg2, hy, hy2, hc2⟩ := hr.at_ hm0
  subst hB
  simp only [List.getElem?_cons_zero, Option.some.injEq] at hy
  subst hy
  have k0 : w.cell? ⟨g, o, none⟩ = some (.int .i64 2) := by simpa using hc0
  have k1 : w.cell? ⟨g, o + 1, none⟩ = some (.slice (some ⟨g2, o2, none⟩) m d) := by simpa using hc1
  have k2 : w.cell? ⟨g2, o2, none⟩ = some (.int .u32 (x : Int)) := by simpa using hc2
  have e1 : ((n : Int) == 0) = false := by simp; omega
  have e2 : ((m : Int) == 0) = false := by simp; omega
  have n0 : (0 : Int) < (n : Int) := by omega
  have m0 : (0 : Int) < (m : Int) := by omega
  have HEnd : Hid (Calls Tryz.prog 252 #[.slice (some ⟨g, o, none⟩) n c, .bool false] w fun e w' => e = .returned (.tuple #[.int .u32 (x : Int), .bool true]) ∧ w' = w) := hide (by
    clear h hc0 hc1 hc2 hr hln
    go_enter Tryz.func252, Tryz.ntmps252
    go_wp2
    go_ret2
    exact ⟨rfl, rfl⟩)
  clear h hc0 hc1 hc2 hr hln k0 k1 k2
  go_enter Tryz.func204, Tryz.ntmps204
  go_wp2_with fail
  refine HEnd.out.mono ?_
  rintro e w2 ⟨rfl, rfl⟩
  go_wp2
  go_ret2
  exact ⟨rfl, rfl⟩
end Go.Proofs.YtcinjckajnnhmaaGreat
set_option linter.unusedSimpArgs false
set_option linter.unusedVariables false
namespace Go.Proofs.YtcinjckajnnhmaaGreat
open Go.RowKit Go.WideShapes Go.ChangeShapes
attribute [local go_sem] Oper.semAt_some
set_option maxRecDepth 100000 in
set_option maxHeartbeats 4000000 in
theorem same1_eq (b : Int) (B1 B2 : Option Addr) (m1 d1 m2 d2 : Nat) (r : List Nat) (w : World) (h1 : U32s w B1 m1 d1 r) (h2 : U32s w B2 m2 d2 r) :
    Calls Tryz.prog 309 #[.agg #[.int .i64 b, .slice B1 m1 d1], .agg #[.int .i64 b, .slice B2 m2 d2]] w fun e w' => e = .returned (.bool true) ∧ Below w.heap.size w w' := by
  have hb : Below w.heap.size w ((w.alloc (.cells #[.int .i64 b, .slice B1 m1 d1] 133)).alloc (.cells #[.int .i64 b, .slice B2 m2 d2] 133)) := ((Below.refl _ w).alloc (Nat.le_refl _) _).alloc (by simp) _
  have HEq := hide (slEqual_any B1 m1 d1 r B2 m2 d2 r _ (h1.below hb) (h2.below hb))
  have HB := hide hb
  clear h1 h2 hb
  go_enter Tryz.func309, Tryz.ntmps309
  go_wp2_with fail
  refine HEq.out.mono ?_
  rintro e w3 ⟨rfl, hb3⟩
  have HB3 := hide (HB.out.trans (hb3.mono HB.out.size))
  clear hb3
  simp only [decide_true]
  go_wp2
  go_ret
  exact ⟨rfl, HB3.out⟩
set_option maxRecDepth 100000 in
set_option maxHeartbeats 8000000 in
theorem eqf_eq (A B : Option Addr) (n c m d : Nat) (l : List SG) (w : World) (h : LstAt 2 sgR w A n c l) (h' : LstAt 2 sgR w B m d l) (hn2 : n ≤ 100000) :
    Calls Tryz.prog 308 #[.slice A n c, .slice B m d, .func (.func 309) #[] #[]] w fun e w' => e = .returned (.bool true) ∧ Below w.heap.size w w' := by
  obtain rfl : n = m := h.1.symm.trans h'.1
  have hnc := h.2.1
  have hmx := h.2.2.1
  have hnd := h'.2.1
  have hmx2 := h'.2.2.1
  unfold maxLen at hmx hmx2
  have HL1 := hide h
  have HL2 := hide h'
  clear h h'
  go_enter Tryz.func308, Tryz.ntmps308
  go_wp2
  go_loopw [17] (fun iv wr => ∃ i : Nat, i ≤ n ∧ iv = .int .i64 (i : Nat) ∧ Below w.heap.size w wr) (fun iv _ => n - (intOf iv).toNat)
  case atStart => exact ⟨0, Nat.zero_le _, rfl, Below.refl _ _⟩
  case round =>
    obtain ⟨i, hi, rfl, hbel⟩ := hrel
    have HBe := hide hbel
    have hs1 := hbel.size
    by_cases hlt : i < n
    · obtain ⟨g, o, b, B1, m1, d1, r, rfl, hg, hx, hr1, hz0, hz1⟩ := SGat (HL1.out.below sgMono hbel) hlt
      obtain ⟨g2, o2, b2, B2, m2, d2, r2, rfl, hg2, hx2, hr2, hy0, hy1⟩ := SGat (HL2.out.below sgMono hbel) hlt
      rw [hx] at hx2
      simp only [Option.some.injEq, SG.mk.injEq] at hx2
      obtain ⟨rfl, rfl⟩ := hx2
      have hb2 : Below wr.heap.size wr ((wr.alloc (.cells #[.int .i64 b, .slice B1 m1 d1] 133)).alloc (.cells #[.int .i64 b, .slice B2 m2 d2] 133)) := ((Below.refl _ wr).alloc (Nat.le_refl _) _).alloc (by simp) _
      have HB2 := hide (HBe.out.trans (hb2.mono hs1))
      have HSa := hide (same1_eq b B1 B2 m1 d1 m2 d2 r _ (hr1.below hb2) (hr2.below hb2))
      have i1 : (i : Int) < (n : Int) := by omega
      have i0 : (0 : Int) ≤ (i : Int) := by omega
      have hwi : IntKind.i64.wrap ((i : Int) + 1) = (i : Int) + 1 := by rw [IntKind.wrap_i64]; omega
      clear hbel hx hr1 hr2 hb2
      go_wp2_with fail
      refine HSa.out.mono ?_
      rintro e w3 ⟨rfl, hb3⟩
      have HB3 := hide (HB2.out.trans (hb3.mono HB2.out.size))
      clear hb3 hz0 hz1 hy0 hy1
      go_wp2
      go_roundw
      case rel => exact ⟨i + 1, by omega, by go_num, HB3.out⟩
      case measure => simp [intOf]; omega
    · obtain rfl : i = n := by omega
      have e1 : decide ((i : Int) < (i : Int)) = false := by simp
      clear hbel hlt
      go_wp2
      go_ret
      exact ⟨rfl, HBe.out⟩
set_option maxRecDepth 100000 in
theorem psameC_eq (A B : Option Addr) (n c m d : Nat) (l : List SG) (w : World) (h : LstAt 2 sgR w A n c l) (h' : LstAt 2 sgR w B m d l) (hn2 : n ≤ 100000) :
    Calls Tryz.prog 277 #[.slice A n c, .slice B m d] w fun e w' => e = .returned (.bool true) ∧ Below w.heap.size w w' := by
  have H := hide (eqf_eq A B n c m d l w h h' hn2)
  clear h h'
  go_enter Tryz.func277, Tryz.ntmps277
  go_wp2_with fail
  refine H.out.mono ?_
  rintro e w3 ⟨rfl, hb3⟩
  have HB3 := hide hb3
  clear hb3
  go_wp2
  go_ret
  exact ⟨rfl, HB3.out⟩
set_option maxRecDepth 100000 in
set_option maxHeartbeats 4000000 in
theorem pgood_eq (A : Option Addr) (n c : Nat) (l : List SG) (w : World) (h : LstAt 2 sgR w A n c l) (hno : normS l = l) (hl : ∀ x ∈ l, 1 ≤ x.r.length ∧ x.r.length ≤ 255) (hn : n ≤ 100) (hnum : numS l ≤ 10000) :
    Calls Tryz.prog 322 #[.slice A n c] w fun e w' => e = .returned (.bool true) ∧ Below w.heap.size w w' := by
  have hnc := h.2.1
  have hmx := h.2.2.1
  unfold maxLen at hmx
  have HLs := hide h
  have HNo := hide hno
  have HL := hide hl
  clear h hno hl
  go_enter Tryz.func322, Tryz.ntmps322
  go_wp2
  go_loopw [7] (fun iv wr => ∃ i : Nat, i ≤ n ∧ iv = .int .i64 (i : Nat) ∧ Below w.heap.size w wr) (fun iv _ => n - (intOf iv).toNat)
  case atStart => exact ⟨0, Nat.zero_le _, rfl, Below.refl _ _⟩
  case round =>
    obtain ⟨i, hi, rfl, hbel⟩ := hrel
    have HBe := hide hbel
    have hs1 := hbel.size
    by_cases hlt : i < n
    · obtain ⟨g, o, b, B1, m1, d1, r, rfl, hg, hx, hr1, hz0, hz1⟩ := SGat (HLs.out.below sgMono hbel) hlt
      obtain ⟨hr3, hr4⟩ := HL.out _ (List.mem_of_getElem? hx)
      have hrl := hr1.1
      have hr5 : r.length = m1 := hrl
      have e1 : decide ((m1 : Int) < 1) = false := decide_eq_false (by simp only at hr3; omega)
      have e2 : decide (255 < (m1 : Int)) = false := decide_eq_false (by simp only at hr4; omega)
      have i1 : (i : Int) < (n : Int) := by omega
      have i0 : (0 : Int) ≤ (i : Int) := by omega
      have hwi : IntKind.i64.wrap ((i : Int) + 1) = (i : Int) + 1 := by rw [IntKind.wrap_i64]; omega
      have HBx : Hid (∀ o1 : Obj, Below w.heap.size w (wr.alloc o1)) := hide (fun o1 => HBe.out.alloc hs1 o1)
      clear hbel hx hr1
      go_wp2
      go_roundw
      case rel => exact ⟨i + 1, by omega, by go_num, HBx.out _⟩
      case measure => simp [intOf]; omega
    · obtain rfl : i = n := by omega
      have e1 : decide ((i : Int) < (i : Int)) = false := by simp
      have e2 : decide ((i : Int) ≤ 100) = true := decide_eq_true (by omega)
      have HNm := hide (norm_any A i c l wr (HLs.out.below sgMono hbel) hnum)
      clear hbel hlt
      go_wp2_with fail
      refine HNm.out.mono ?_
      intro e w3 hmv
      unfold SegP at hmv
      obtain ⟨A6, n6, c6, xs6, rfl, hl6, hb3⟩ := hmv
      rw [HNo.out] at hl6
      have HB3 := hide (HBe.out.trans (hb3.mono hs1))
      have hn6 := (hl6.lst (by decide)).1
      have hli := HLs.out.1
      have HSa := hide (psameC_eq A6 A n6 c6 i c l w3 (hl6.lst (by decide)) (HLs.out.below sgMono HB3.out) (by omega))
      clear hl6 hb3
      go_wp2_with fail
      refine HSa.out.mono ?_
      rintro e w4 ⟨rfl, hb4⟩
      have HB4 := hide (HB3.out.trans (hb4.mono HB3.out.size))
      clear hb4
      go_wp2
      go_ret
      exact ⟨rfl, HB4.out⟩
end Go.Proofs.YtcinjckajnnhmaaGreat
set_option linter.unusedSimpArgs false
set_option linter.unusedVariables false
namespace Go.Proofs.YtcinjckajnnhmaaGreat
open Go.RowKit Go.WideShapes Go.ChangeShapes
attribute [local go_sem] Oper.semAt_some
set_option maxRecDepth 100000 in
theorem pathSame_eq (A B : Option Addr) (n c m d : Nat) (l : List SG) (w : World) (h : LstAt 2 sgR w A n c l) (h' : LstAt 2 sgR w B m d l) (hn2 : n ≤ 100000) :
    Calls Tryz.prog 236 #[.slice A n c, .slice B m d] w fun e w' => e = .returned (.bool true) ∧ Below w.heap.size w w' := by
  have H := hide (psameC_eq A B n c m d l w h h' hn2)
  clear h h'
  go_enter Tryz.func236, Tryz.ntmps236
  go_wp2_with fail
  refine H.out.mono ?_
  rintro e w3 ⟨rfl, hb3⟩
  have HB3 := hide hb3
  clear hb3
  go_wp2
  go_ret
  exact ⟨rfl, HB3.out⟩
set_option maxRecDepth 100000 in
set_option maxHeartbeats 8000000 in
theorem attrsame_eq (X : AT) (v v' : Value) (w : World) (hv : AtR w X v) (hv' : AtR w X v') (hn : X.path.length ≤ 100000) : Calls Tryz.prog 190 #[v, v'] w (GoodP true w) := by
  obtain ⟨A, n, c, B, m, d, rfl, hP, hC⟩ := hv
  obtain ⟨A2, n2, c2, B2, m2, d2, rfl, hP2, hC2⟩ := hv'
  obtain ⟨w1, hw1⟩ : ∃ w1, (w.alloc (.cells (atC X.has X.org A n c X.hop X.med X.pref X.aas X.aid B m d) 28)).alloc (.cells (atC X.has X.org A2 n2 c2 X.hop X.med X.pref X.aas X.aid B2 m2 d2) 28) = w1 := ⟨_, rfl⟩
  have hb1 : Below w.heap.size w w1 := hw1 ▸ blkBelow2 w _ _
  have HK1 : Hid (Blk w1 w.heap.size 28 (atC X.has X.org A n c X.hop X.med X.pref X.aas X.aid B m d)) := hide (hw1 ▸ (Blk.new w _ _).alloc _)
  have HK2 : Hid (Blk w1 (w.heap.size + 1) 28 (atC X.has X.org A2 n2 c2 X.hop X.med X.pref X.aas X.aid B2 m2 d2)) := hide (hw1 ▸ blk_new' _ _ (by simp))
  have HPs := hide (pathSame_eq A A2 n c n2 c2 X.path w1 (hP.below sgMono hb1) (hP2.below sgMono hb1) (by rw [← hP.1]; exact hn))
  have HU := hide (fun W (hb : Below w.heap.size w W) => hC.below hb)
  have HU2 := hide (fun W (hb : Below w.heap.size w W) => hC2.below hb)
  have HB1 := hide hb1
  have HW1 := hide hw1
  clear hw1 hb1 hP hP2 hC hC2 hn
  go_enter Tryz.func190, Tryz.ntmps190
  go_wp2_with fail
  rw [HW1.out]
  refine HPs.out.mono ?_
  rintro e w2 ⟨rfl, hb⟩
  have HB2 := hide (HB1.out.trans (hb.mono HB1.out.size))
  have HK1 := hide (HK1.out.below hb HK1.out.lt)
  have HK2 := hide (HK2.out.below hb HK2.out.lt)
  have HSa := hide (slEqual_any B m d X.comms B2 m2 d2 X.comms w2 (HU.out w2 HB2.out) (HU2.out w2 HB2.out))
  clear hb
  obtain ⟨a0, a1, a2, a3, a4, a5, a6, a7, a8⟩ := blk9 HK1.out
  obtain ⟨b0, b1, b2, b3, b4, b5, b6, b7, b8⟩ := blk9 HK2.out
  go_wp2_with fail
  refine HSa.out.mono ?_
  rintro e w3 ⟨rfl, hb⟩
  have HB3 := hide (HB2.out.trans (hb.mono HB2.out.size))
  clear hb a0 a1 a2 a3 a4 a5 a6 a7 a8 b0 b1 b2 b3 b4 b5 b6 b7 b8
  go_wp2
  go_ret
  exact ⟨by simp, HB3.out⟩
end Go.Proofs.YtcinjckajnnhmaaGreat
set_option linter.unusedSimpArgs false
set_option linter.unusedVariables false
namespace Go.Proofs.YtcinjckajnnhmaaGreat
open Go.RowKit Go.WideShapes Go.ChangeShapes
attribute [local go_sem] Oper.semAt_some
set_option maxRecDepth 100000 in
theorem pxCompact_nil (w : World) : Calls Tryz.prog 154 #[.slice none 0 0] w fun e w' => e = .returned (.slice none 0 0) ∧ w' = w := by
  have hnil := fun w => Lib.run_eql_slice_nil (P := Tryz.prog) w
  go_enter Tryz.func154, Tryz.ntmps154
  go_wp2
  go_ret
  exact ⟨rfl, rfl⟩
set_option maxRecDepth 100000 in
theorem pxIns_nil (f : Value) (w : World) : Calls Tryz.prog 238 #[.slice none 0 0, .int .i64 0, .int .i64 0, f] w fun e w' => e = .returned (.tuple #[]) ∧ w' = w := by
  go_enter Tryz.func238, Tryz.ntmps238
  go_wp2
  go_loopw [8] (fun iv wr => iv = .int .i64 1 ∧ wr = w) (fun iv _ => 0)
  case atStart => exact ⟨rfl, rfl⟩
  case round =>
    obtain ⟨rfl, rfl⟩ := hrel
    go_wp2
    refine bodyPost_end (results_none rfl _ _ _) rfl ?_
    exact ⟨rfl, rfl⟩
set_option maxRecDepth 100000 in
set_option maxHeartbeats 4000000 in
theorem pxPdq_nil (f : Value) (k : Int) (w : World) : Calls Tryz.prog 195 #[.slice none 0 0, .int .i64 0, .int .i64 0, .int .i64 k, f] w fun e w' => e = .returned (.tuple #[]) ∧ w' = w := by
  have H := hide (pxIns_nil f w)
  go_enter Tryz.func195, Tryz.ntmps195
  go_wp2
  go_loopw [1, 2] (fun a b wr => a = .int .i64 0 ∧ b = .int .i64 0 ∧ wr = w) (fun _ _ _ => 0)
  case atStart => exact ⟨rfl, rfl, rfl⟩
  case round =>
    obtain ⟨rfl, rfl, rfl⟩ := hrel
    go_wp2_with fail
    refine H.out.mono ?_
    rintro e w1 ⟨rfl, rfl⟩
    go_wp2
    refine bodyPost_ret (results_none rfl _ _ _) rfl ?_
    exact ⟨rfl, rfl⟩
set_option maxRecDepth 100000 in
theorem pxSortF_nil (f : Value) (w : World) : Calls Tryz.prog 152 #[.slice none 0 0, f] w fun e w' => e = .returned (.tuple #[]) ∧ w' = w := by
  have HL := hide (Tryz.bits_Len 0 w (by omega) (by omega))
  have H := hide (fun k w => pxPdq_nil f k w)
  go_enter Tryz.func152, Tryz.ntmps152
  go_wp2_with fail
  refine HL.out.mono ?_
  rintro e w1 ⟨rfl, rfl⟩
  go_wp2_with fail
  refine (H.out _ _).mono ?_
  rintro e w1 ⟨rfl, rfl⟩
  go_wp2
  refine bodyPost_end (results_none rfl _ _ _) rfl ?_
  exact ⟨rfl, rfl⟩
end Go.Proofs.YtcinjckajnnhmaaGreat
set_option linter.unusedSimpArgs false
set_option linter.unusedVariables false
namespace Go.Proofs.YtcinjckajnnhmaaGreat
open Go.RowKit Go.WideShapes Go.ChangeShapes
attribute [local go_sem] Oper.semAt_some
/-- No attributes. -/
def X0 : AT := ⟨0, 0, [], 0, 0, 0, 0, 0, []⟩
theorem pg8 : PG 167772160 8 := ⟨by decide, by decide, by decide⟩
end Go.Proofs.YtcinjckajnnhmaaGreat
set_option linter.unusedSimpArgs false
set_option linter.unusedVariables false
namespace Go.Proofs.YtcinjckajnnhmaaGreat
open Go.RowKit Go.WideShapes Go.ChangeShapes
attribute [local go_sem] Oper.semAt_some
instance pg_dec (a n : Nat) : Decidable (PG a n) := by unfold PG; infer_instance
def pK (x : Nat × Nat) : Nat := x.1 * 64 + x.2
def unK (x : Nat) : Nat × Nat := (x / 64, x % 64)
theorem unK_pK {x : Nat × Nat} (h : PG x.1 x.2) : unK (pK x) = x := by
  obtain ⟨a, n⟩ := x
  have h2 := h.2.1
  simp only at h2
  unfold unK pK
  simp only [Prod.mk.injEq]
  omega
def nk (x : Nat) : Nat := if PG (x / 64) (x % 64) then x else 0
theorem nk_pg (x : Nat) : PG (nk x / 64) (nk x % 64) := by
  unfold nk
  split
  · assumption
  · decide
theorem nk_of {x : Nat} (h : PG (x / 64) (x % 64)) : nk x = x := by unfold nk; rw [if_pos h]
theorem nk_pK {x : Nat × Nat} (h : PG x.1 x.2) : nk (pK x) = pK x := by
  refine nk_of ?_
  have := unK_pK h
  unfold unK at this
  rw [← this] at h
  exact h
def enK (x : Nat) : List Value := [.int .u32 ((nk x / 64 : Nat) : Int), .int .i64 ((nk x % 64 : Nat) : Int)]
theorem enK_len (x : Nat) : (enK x).length = 2 := rfl
theorem enK_of {x : Nat} (h : nk x = x) : enK x = [.int .u32 ((x / 64 : Nat) : Int), .int .i64 ((x % 64 : Nat) : Int)] := by unfold enK; rw [h]
def cfK (x y : Nat) : Int := if nk x < nk y then -1 else if nk x = nk y then 0 else 1
theorem cmpK (x y : Nat) : cmpP (nk x / 64) ((nk x % 64 : Nat) : Int) (nk y / 64) ((nk y % 64 : Nat) : Int) = cfK x y := by
  unfold cmpP cfK
  have h1 := (nk_pg x).2.1
  have h2 := (nk_pg y).2.1
  generalize nk x = u at *
  generalize nk y = v at *
  by_cases h : u < v
  · rw [if_pos h, if_pos (by omega)]
  · rw [if_neg h, if_neg (by omega)]
    by_cases h3 : u = v
    · subst h3; simp
    · rw [if_neg h3, if_neg (by omega)]
def pkC (l : List Nat) : List Value := l.flatMap enK
theorem flat2 {α β : Type} (f : α → List β) (hf : ∀ x, (f x).length = 2) : ∀ (l : List α) (j i : Nat) (x : α), l[j]? = some x → i < 2 → (l.flatMap f)[j * 2 + i]? = (f x)[i]?
  | [], _, _, _, h, _ => by simp at h
  | y :: l, 0, i, x, h, hi => by
      simp only [List.getElem?_cons_zero, Option.some.injEq] at h
      subst h
      rw [List.flatMap_cons, List.getElem?_append_left (by rw [hf]; omega)]
      simp
  | y :: l, j + 1, i, x, h, hi => by
      rw [List.flatMap_cons, List.getElem?_append_right (by rw [hf]; omega), hf, show (j + 1) * 2 + i - 2 = j * 2 + i by omega]
      exact flat2 f hf l j i x (by simpa using h) hi
theorem flat2_len {α β : Type} (f : α → List β) (hf : ∀ x, (f x).length = 2) (l : List α) : (l.flatMap f).length = l.length * 2 := by
  induction l with
  | nil => rfl
  | cons x l ih => rw [List.flatMap_cons, List.length_append, hf, ih, List.length_cons]; omega
theorem two_of {α : Type} : ∀ {l : List α}, l.length = 2 → ∃ p q, l = [p, q]
  | [p, q], _ => ⟨p, q, rfl⟩
  | [], h => by simp at h
  | [_], h => by simp at h
  | _ :: _ :: _ :: _, h => by simp at h
theorem flat2_set {α β : Type} (f : α → List β) (hf : ∀ x, (f x).length = 2) : ∀ (l : List α) (k : Nat) (x : α) (u v : β), f x = [u, v] → ((l.flatMap f).set (k * 2) u).set (k * 2 + 1) v = (l.set k x).flatMap f
  | [], k, x, u, v, h => by simp
  | y :: l, 0, x, u, v, h => by
      obtain ⟨p, q, hp⟩ := two_of (hf y)
      simp [List.flatMap_cons, hp, h]
  | y :: l, k + 1, x, u, v, h => by
      obtain ⟨p, q, hp⟩ := two_of (hf y)
      have := flat2_set f hf l k x u v h
      simp only [List.set_cons_succ, List.flatMap_cons, hp, ← this]
      rw [show (k + 1) * 2 = k * 2 + 1 + 1 by omega]
      simp
theorem flat2_take {α β : Type} (f : α → List β) (hf : ∀ x, (f x).length = 2) : ∀ (l : List α) (k : Nat), (l.take k).flatMap f = (l.flatMap f).take (k * 2)
  | [], k => by simp
  | y :: l, 0 => by simp
  | y :: l, k + 1 => by
      rw [List.take_succ_cons, List.flatMap_cons, List.flatMap_cons, flat2_take f hf l k, show (k + 1) * 2 = 2 + k * 2 by omega, ← hf y, List.take_length_add_append]
theorem pkC_len (l : List Nat) : (pkC l).length = l.length * 2 := flat2_len enK enK_len l
theorem pkC_pxC : ∀ (l : List Nat), (∀ x ∈ l, nk x = x) → pkC l = pxC (l.map unK)
  | [], _ => rfl
  | x :: l, h => by
      have ih := pkC_pxC l (fun y hy => h y (List.mem_cons_of_mem _ hy))
      unfold pkC pxC at *
      rw [List.map_cons, List.flatMap_cons, List.flatMap_cons, ih, enK_of (h x (List.mem_cons_self ..))]
      rfl
theorem map_unK {l : List (Nat × Nat)} (h : ∀ x ∈ l, PG x.1 x.2) : (l.map pK).map unK = l := by
  rw [List.map_map]
  conv => rhs; rw [← List.map_id l]
  exact List.map_congr_left fun x hx => unK_pK (h x hx)
/-- A row of the call's own that holds the prefixes d. -/
def PkRow (base g cap : Nat) (w : World) (d : Array Nat) : Prop := w.ownsRow base 24 2 (.slice (some ⟨g, 0, none⟩) d.size cap) d.size (pkC d.toList) ∧ (∀ x ∈ d.toList, nk x = x) ∧ base ≤ g ∧ g < w.heap.size ∧ d.size ≤ cap ∧ cap ≤ maxLen
theorem PkRow.val {base g cap : Nat} {w : World} {d : Array Nat} (h : PkRow base g cap w d) (j : Nat) : nk (d[j]! : Nat) = d[j]! := by
  by_cases hj : j < d.size
  · rw [getElem!_pos d j hj]; exact h.2.1 _ (by simp)
  · rw [getElem!_neg d j hj]; decide
theorem PkRow.cell {base g cap : Nat} {w : World} {d : Array Nat} (h : PkRow base g cap w d) {j : Nat} (hj : j < d.size) : w.cell? ⟨g, j * 2, none⟩ = some (.int .u32 ((d[j]! / 64 : Nat) : Int)) ∧ w.cell? ⟨g, j * 2 + 1, none⟩ = some (.int .i64 ((d[j]! % 64 : Nat) : Int)) := by
  have hx : d.toList[j]? = some d[j]! := by simp [hj]
  have e := enK_of (h.val j)
  constructor
  · rw [h.1.cellAt _ (by omega)]
    have := flat2 enK enK_len d.toList j 0 _ hx (by omega)
    rw [Nat.add_zero, e] at this
    exact this
  · rw [h.1.cellAt _ (by omega)]
    have := flat2 enK enK_len d.toList j 1 _ hx (by omega)
    rw [e] at this
    exact this
theorem PkRow.drewN {base g cap : Nat} {w : World} {d : Array Nat} (h : PkRow base g cap w d) (n : Nat) : PkRow base g cap (w.drewN n) d := h
theorem PkRow.set_ {base g cap : Nat} {w : World} {d : Array Nat} (h : PkRow base g cap w d) {k x : Nat} (hx : nk x = x) : PkRow base g cap (w.setCells g (k * 2) [.int .u32 ((x / 64 : Nat) : Int), .int .i64 ((x % 64 : Nat) : Int)]) (d.setIfInBounds k x) := by
  obtain ⟨h1, h2, h3, h4, h5, h6⟩ := h
  have e1 := (h1.stored (k * 2) (.int .u32 ((x / 64 : Nat) : Int))).1
  have e2 := (e1.stored (k * 2 + 1) (.int .i64 ((x % 64 : Nat) : Int))).1
  unfold pkC at e2
  rw [flat2_set enK enK_len d.toList k x _ _ (enK_of hx)] at e2
  refine ⟨?_, fun y hy => ?_, h3, by simpa [World.setCells, World.setCell] using h4, by simpa using h5, h6⟩
  · unfold pkC
    simpa [World.setCells] using e2
  · have hy' : y ∈ d.toList.set k x := by simpa using hy
    rcases List.mem_or_eq_of_mem_set hy' with h | h
    · exact h2 y h
    · rw [h]; exact hx
theorem own_setCellsK {base g n cap e sz : Nat} : ∀ (vs : List Value) (j : Nat) {w : World} {xs : List Value}, w.ownsRow base e sz (.slice (some ⟨g, 0, none⟩) n cap) n xs → j + vs.length ≤ n * sz →
    (w.setCells g j vs).ownsRow base e sz (.slice (some ⟨g, 0, none⟩) n cap) n (xs.take j ++ vs ++ xs.drop (j + vs.length))
  | [], j, w, xs, h, _ => by simpa [World.setCells] using h
  | v :: vs, j, w, xs, h, hj => by
    have hl : xs.length = n * sz := h.1
    have hj' : j + (vs.length + 1) ≤ n * sz := by simpa using hj
    have h1 := (h.stored j v).1
    have h2 := own_setCellsK vs (j + 1) h1 (by omega)
    have e1 : (xs.set j v).take (j + 1) = xs.take j ++ [v] := by
      rw [List.take_add_one, List.take_set_of_le (by omega), List.getElem?_set_self (by omega)]
      rfl
    have e2 : (xs.set j v).drop (j + 1 + vs.length) = xs.drop (j + (v :: vs).length) := by
      rw [List.drop_set_of_lt (by omega)]
      congr 1
      simp; omega
    rw [e1, e2] at h2
    simpa [World.setCells, List.append_assoc] using h2
theorem PkRow.cut {base g cap k : Nat} {w : World} {d : Array Nat} (h : PkRow base g cap w d) (hk : k ≤ d.size) : w.ownsRow base 24 2 (.slice (some ⟨g, 0, none⟩) k cap) k (pkC (d.toList.take k)) := by
  obtain ⟨h1, h2, h3, h4, h5, h6⟩ := h
  rcases h1.2 with ⟨hv, _⟩ | ⟨g', cap', cur, hv, r1, r2, r3, r4, r5, r6⟩
  · cases hv
  · cases hv
    refine ⟨by rw [pkC_len, List.length_take]; simp; omega, .inr ⟨g, cap, cur, rfl, r1, r2, by omega, r4, r5, ?_⟩⟩
    have e : pkC (d.toList.take k) = (pkC d.toList).take (k * 2) := flat2_take enK enK_len _ _
    rw [e, ← r6, List.take_take]
    congr 1; omega
theorem own_clearK {base g cap k e sz : Nat} {xs : List Value} : ∀ (vs : List Value) (j : Nat) {w : World}, w.ownsRow base e sz (.slice (some ⟨g, 0, none⟩) k cap) k xs → k * sz ≤ j → (w.setCells g j vs).ownsRow base e sz (.slice (some ⟨g, 0, none⟩) k cap) k xs
  | [], _, _, h, _ => h
  | v :: vs, j, w, h, hj => by
    refine own_clearK vs (j + 1) ?_ (by omega)
    have := (h.stored j v).1
    rwa [List.set_eq_of_length_le (by have := h.1; omega)] at this
/-- A row that is read: of good prefixes. -/
def sortP (l : List (Nat × Nat)) : List (Nat × Nat) := (setOf (l.map pK)).map unK
def PZ (a : Nat) (m : Int) : Prop := a < 4294967296 ∧ -9223372036854775808 ≤ m ∧ m ≤ 9223372036854775807
def pzR (w : World) (vs : List Value) (x : Nat × Int) : Prop := vs = [.int .u32 (x.1 : Int), .int .i64 x.2] ∧ PZ x.1 x.2
theorem pzMono : SMono pzR := fun _ _ _ _ _ h => h
theorem PZat {w : World} {A : Option Addr} {n c k : Nat} {l : List (Nat × Int)} (h : LstAt 2 pzR w A n c l) (hk : k < n) : ∃ g o a m, A = some ⟨g, o, none⟩ ∧ g < w.heap.size ∧ l[k]? = some (a, m) ∧ PZ a m ∧ w.cell? ⟨g, o + k * 2, none⟩ = some (.int .u32 (a : Int)) ∧ w.cell? ⟨g, o + k * 2 + 1, none⟩ = some (.int .i64 m) := by
  obtain ⟨h1, h2, h3, h4⟩ := h
  obtain ⟨g, o, rfl, hg, hc⟩ := h4 (by omega)
  have hx : l[k]? = some l[k] := List.getElem?_eq_getElem (by omega)
  obtain ⟨vs, hl, ⟨rfl, hr⟩, hcs⟩ := hc k _ hx
  exact ⟨g, o, _, _, rfl, hg, hx, hr, hcs 0 _ rfl, hcs 1 _ rfl⟩
def zP (x : Nat × Nat) : Nat × Int := (x.1, (x.2 : Int))
theorem pz_of_pg {a n : Nat} (h : PG a n) : PZ a (n : Int) := by
  have h1 := h.1
  have h2 := h.2.1
  exact ⟨h1, by omega, by omega⟩
theorem pz_of_px {w : World} {A : Option Addr} {n c : Nat} {l : List (Nat × Nat)} (h : LstAt 2 pxR w A n c l) (hg : ∀ x ∈ l, PG x.1 x.2) : LstAt 2 pzR w A n c (l.map zP) := by
  obtain ⟨h1, h2, h3, h4⟩ := h
  refine ⟨by simpa using h1, h2, h3, fun hn => ?_⟩
  obtain ⟨g, o, hA, hlt, hc⟩ := h4 hn
  refine ⟨g, o, hA, hlt, fun k x hk => ?_⟩
  rw [List.getElem?_map] at hk
  cases hz : l[k]? with
  | none => rw [hz] at hk; cases hk
  | some z =>
    rw [hz] at hk
    simp only [Option.map_some, Option.some.injEq] at hk
    subst hk
    obtain ⟨vs, hl, rfl, hcs⟩ := hc k z hz
    exact ⟨_, rfl, ⟨rfl, pz_of_pg (hg _ (List.mem_of_getElem? hz))⟩, hcs⟩
set_option maxRecDepth 100000 in
theorem pzIndex0_any (F : FuncId) (p : (Nat × Int) → Bool) (A : Option Addr) (n c : Nat) (l : List (Nat × Int)) (w : World) (h : LstAt 2 pzR w A n c l) (hF : ∀ (args : Array Value) (W : World), (callFunc F args).run Tryz.prog W = .ok (.enter F args) W)
    (HF : ∀ (a : Nat) (m : Int) (W : World), Below w.heap.size w W → PZ a m → Calls Tryz.prog F #[.agg #[.int .u32 (a : Int), .int .i64 m]] W (GoodP (p (a, m)) W)) :
    Calls Tryz.prog 194 #[.slice A n c, .func (.func F) #[] #[]] w fun e w' => e = .returned (.int .i64 (idxP p l)) ∧ Below w.heap.size w w' := by
  have hm := h.2.2.1
  have hnc := h.2.1
  unfold maxLen at hm
  have HU := hide h
  have HP := hide HF
  have HE := hide hF
  clear h HF hF
  go_enter Tryz.func194, Tryz.ntmps194
  go_wp2
  go_loopw [8] (fun i wr => ∃ k : Nat, k ≤ n ∧ i = .int .i64 k ∧ (∀ y ∈ l.take k, p y = false) ∧ Below w.heap.size w wr) (fun i _ => n - (intOf i).toNat)
  case atStart => exact ⟨0, Nat.zero_le _, rfl, by simp, Below.refl _ _⟩
  case round =>
    obtain ⟨k, hk, rfl, hno, hb⟩ := hrel
    have HN := hide hno
    have HA := hide (HU.out.below pzMono hb)
    have HB := hide hb
    have hsz := hb.size
    clear hno hb
    by_cases hlt : k < n
    · obtain ⟨g, o, a, m, rfl, hg, hy, hok, c0, c1⟩ := PZat HA.out hlt
      have HO := hide (HP.out a m wr HB.out hok)
      have HY := hide hy
      clear hy
      obtain ⟨q, hq⟩ : ∃ q, p (a, m) = q := ⟨_, rfl⟩
      rw [hq] at HO
      have HQ := hide hq
      clear hq hok
      go_wp2_with fail
      rw [HE.out, Oper.upon_enter]
      refine HO.out.mono ?_
      rintro e w1 ⟨rfl, hb1⟩
      have HB1 := hide (HB.out.trans (hb1.mono hsz))
      clear hb1
      cases q
      · have hn2 := hide (show ∀ y ∈ l.take (k + 1), p y = false by
          intro y hy
          rw [List.take_add_one, HY.out, List.mem_append] at hy
          rcases hy with hy | hy
          · exact HN.out y hy
          · simp at hy; subst hy; exact HQ.out)
        go_wp2
        go_roundw
        case rel => exact ⟨k + 1, by omega, by go_num, hn2.out, HB1.out⟩
        case measure => simp [intOf]; omega
      · have hin := hide (idxP_at p l k _ HN.out HY.out HQ.out)
        go_wp2
        go_ret
        exact ⟨ret_i64 hin.out.symm, HB1.out⟩
    · obtain rfl : k = n := by omega
      have hf := hide (idxP_none p l (fun y hy => HN.out y (by rw [List.take_of_length_le (by rw [HU.out.1]; exact Nat.le_refl _)]; exact hy)))
      go_wp2
      go_ret
      exact ⟨ret_i64 hf.out.symm, HB.out⟩
theorem pzContains0_any (F : FuncId) (p : (Nat × Int) → Bool) (A : Option Addr) (n c : Nat) (l : List (Nat × Int)) (w : World) (h : LstAt 2 pzR w A n c l) (hF : ∀ (args : Array Value) (W : World), (callFunc F args).run Tryz.prog W = .ok (.enter F args) W)
    (HF : ∀ (a : Nat) (m : Int) (W : World), Below w.heap.size w W → PZ a m → Calls Tryz.prog F #[.agg #[.int .u32 (a : Int), .int .i64 m]] W (GoodP (p (a, m)) W)) :
    Calls Tryz.prog 200 #[.slice A n c, .func (.func F) #[] #[]] w (GoodP (l.any p) w) := by
  have HI := hide (pzIndex0_any F p A n c l w h hF HF)
  have hd := idxP_any p l
  obtain ⟨q, hq⟩ : ∃ q, l.any p = q := ⟨_, rfl⟩
  obtain ⟨i, hi⟩ : ∃ i, idxP p l = i := ⟨_, rfl⟩
  rw [hi] at HI hd
  rw [hq] at hd ⊢
  clear h hF HF hi hq
  go_enter Tryz.func200, Tryz.ntmps200
  go_wp2_with fail
  refine HI.out.mono ?_
  rintro e w1 ⟨rfl, hb⟩
  have HB := hide hb
  clear hb
  go_wp2
  go_ret
  exact ⟨rfl, HB.out⟩
theorem nOdd_any (a : Nat) (m : Int) (h : PZ a m) (w : World) : Calls Tryz.prog 151 #[.agg #[.int .u32 (a : Int), .int .i64 m]] w (GoodP (!goodB a m) w) := by
  have H := hide (fun W => Good_any a m h.1 h.2.1 h.2.2 W)
  unfold pfx at H
  obtain ⟨q, hq⟩ : ∃ q, goodB a m = q := ⟨_, rfl⟩
  rw [hq] at H ⊢
  clear hq h
  go_enter Tryz.func151, Tryz.ntmps151
  go_wp2_with fail
  refine (H.out _).mono ?_
  rintro e w1 ⟨rfl, hb⟩
  rw [World.size_alloc] at hb
  have HB := hide (((Below.refl _ w).alloc (Nat.le_refl _) _).trans (hb.mono (Nat.le_succ _)))
  clear hb
  cases q
  · go_wp2
    go_ret
    exact ⟨rfl, HB.out⟩
  · go_wp2
    go_ret
    exact ⟨rfl, HB.out⟩
set_option maxRecDepth 100000 in
theorem pxDelete_good (A : Option Addr) (n c : Nat) (l : List (Nat × Nat)) (w : World) (h : LstAt 2 pxR w A n c l) (hg : ∀ x ∈ l, PG x.1 x.2) :
    Calls Tryz.prog 150 #[.slice A n c, .func (.func 151) #[] #[]] w fun e w' => e = .returned (.slice A n c) ∧ Below w.heap.size w w' := by
  have H := hide (pzIndex0_any 151 (fun x => !goodB x.1 x.2) A n c (l.map zP) w (pz_of_px h hg) (fun args W => by simp [callFunc, go_sem, Tryz.func151]; rfl) (fun a m W _ hz => nOdd_any a m hz W))
  have hi : idxP (fun x : Nat × Int => !goodB x.1 x.2) (l.map zP) = -1 := idxP_none _ _ (fun y hy => by
    obtain ⟨x, hx, rfl⟩ := List.mem_map.1 hy
    have := good_pg (hg x hx)
    unfold zP
    simp [this])
  rw [hi] at H
  clear h hg hi
  go_enter Tryz.func150, Tryz.ntmps150
  go_wp2_with fail
  refine H.out.mono ?_
  rintro e w1 ⟨rfl, hb⟩
  have HB := hide hb
  clear hb
  go_wp2
  go_ret
  exact ⟨rfl, HB.out⟩
theorem own_made0P (w : World) : (w.alloc (.cells #[] 24)).ownsRow w.heap.size 24 2 (.slice (some ⟨w.heap.size, 0, none⟩) 0 0) 0 [] := World.ownsRow_made _ _ _ (Nat.le_refl _) (by simp [maxLen]) (by simp)
theorem pxC_one (l : List (Nat × Nat)) : ∀ v ∈ pxC l, v.oneCell' = true := by
  intro v hv
  unfold pxC at hv
  simp only [List.mem_flatMap] at hv
  obtain ⟨x, _, hx⟩ := hv
  simp at hx
  rcases hx with rfl | rfl <;> rfl
theorem pxC_chunks_eq : ∀ {xs : List Value} {l : List (Nat × Nat)} {w : World}, Chunks 2 pxR w xs l → xs = pxC l := by
  intro xs l w h
  obtain ⟨h1, h2⟩ := h
  apply List.ext_getElem?
  intro t
  by_cases ht : t < l.length * 2
  · have hx : l[t / 2]? = some l[t / 2] := List.getElem?_eq_getElem (by omega)
    have h3 := h2 (t / 2) _ hx
    unfold pxR at h3
    have h4 := flat2 (fun x : Nat × Nat => [Value.int .u32 (x.1 : Int), .int .i64 (x.2 : Int)]) (fun _ => rfl) l (t / 2) (t % 2) _ hx (by omega)
    rw [show t / 2 * 2 + t % 2 = t by omega] at h4
    unfold pxC
    rw [h4, ← h3, List.getElem?_take, if_pos (by omega), List.getElem?_drop, show t / 2 * 2 + t % 2 = t by omega]
  · rw [List.getElem?_eq_none (by omega), List.getElem?_eq_none (by unfold pxC; rw [flat2_len _ (fun _ => rfl)]; omega)]
set_option maxRecDepth 100000 in
theorem pxClone_any (A : Option Addr) (n c : Nat) (l : List (Nat × Nat)) (w : World) (h : LstAt 2 pxR w A n c l) (hn : n ≤ 100000) :
    Calls Tryz.prog 116 #[.slice A n c] w fun e w' => ∃ v, e = .returned v ∧ w'.ownsRow w.heap.size 24 2 v n (pxC l) ∧ Below w.heap.size w w' := by
  obtain ⟨i0, hi, hz0, hz1, hz2⟩ := info_parts pxInfo
  obtain ⟨xs, hr, hx⟩ := h.reads (by decide)
  obtain rfl := pxC_chunks_eq hx
  have HR := hide hr
  have hnil := fun w => Lib.run_eql_slice_nil (P := Tryz.prog) w
  cases A with
  | none =>
    have h0 : n = 0 := by
      rcases Nat.eq_zero_or_pos n with h1 | h1
      · exact h1
      · obtain ⟨g, o, hA, _⟩ := h.2.2.2 h1
        cases hA
    subst h0
    have hl : Hid (l = []) := hide (List.eq_nil_of_length_eq_zero h.1)
    clear h hr hx HR
    go_enter Tryz.func116, Tryz.ntmps116
    go_wp2
    go_ret
    refine ⟨_, rfl, ?_, Below.refl _ _⟩
    rw [hl.out]
    exact World.ownsRow_nil _ _ _ _
  | some ad =>
    clear h hr hx
    go_enter Tryz.func116, Tryz.ntmps116
    go_wp2_with (at_builtin; refine wpList_append_any _ rfl (.tmp 5) (.tmp 6) 45 rfl w.heap.size 24 i0 _ 2 16 Tryz.underlying45 hi hz0 hz1 hz2 rfl (by decide) (.slice (some ⟨w.heap.size, 0, none⟩) 0 0) 0 [] rfl (own_made0P w) w.heap.size (some ad) n c (pxC l) rfl (HR.out.alloc (Nat.le_refl _) _) (pxC_one _) (by unfold maxLen; omega) (by omega) (by simp) ?_; intro v' w1 hown' hgrow _)
    go_ret
    refine ⟨_, rfl, ?_, ?_⟩
    · simpa using hown'
    · exact ((Below.refl _ _).alloc (Nat.le_refl _) _).grown hgrow (by simp) (fun k hk => by simp [Value.ownBlock] at hk; omega)
theorem gr_far {W x : World} : (far W x).drawn = x.drawn := rfl
set_option maxHeartbeats 400000 in
theorem goodD (a n : Nat) (h : PG a n) (w : World) : Calls Tryz.prog 130 #[pfx a (n : Int)] w fun e w' => e = .returned (.bool true) ∧ Below w.heap.size w w' ∧ w.drawn ≤ w'.drawn := by
  have hn : (n : Int) ≤ 32 := by have := h.2.1; omega
  have hn0 : (0 : Int) ≤ (n : Int) := by omega
  have hf := hide (show (bits .andNot .u32 (a : Int) ((maskN n : Nat) : Int) == 0) = true by rw [good_test a n h.1 h.2.1, h.2.2]; simp)
  have HM := hide (fun W => mask_in n h.2.1 W)
  unfold pfx
  clear h
  go_enter Tryz.func130, Tryz.ntmps130
  go_wp2
  go_quiet ((go_at_call 177; exact quiet_left (HM.out _)))
  go_wp2
  go_ret
  refine ⟨?_, below_drewN ((Below.refl _ _).alloc (Nat.le_refl _) _) _, Nat.le_add_right _ _⟩
  rw [hf.out]; rfl
set_option maxRecDepth 100000 in
set_option maxHeartbeats 1000000 in
theorem cmpD (a n b m : Nat) (hg : PG a n) (hh : PG b m) (w : World) :
    Calls Tryz.prog 153 #[pfx a (n : Int), pfx b (m : Int)] w fun e w' => e = .returned (.int .i64 (cmpP a n b m)) ∧ Below w.heap.size w w' ∧ w.drawn ≤ w'.drawn := by
  have hg1 := goodD a n hg
  have hh1 := goodD b m hh
  unfold pfx at hg1 hh1 ⊢
  have HG := hide hg1
  have HH := hide hh1
  have hf := hide (or_cmp a n b m)
  obtain ⟨k0, k1, k2, k3⟩ := boxes w (.int .u32 (a : Int)) (.int .i64 n) (.int .u32 (b : Int)) (.int .i64 m) 24 24
  clear hg hh hg1 hh1
  go_enter Tryz.func153, Tryz.ntmps153
  go_wp2_with fail
  refine (HG.out _).mono ?_
  rintro e w1 ⟨rfl, hb1, hd1⟩
  obtain ⟨x1, rfl⟩ := far_of_below hb1
  have HD1 := hide hd1
  clear hd1
  go_wp2_with fail
  refine (HH.out _).mono ?_
  rintro e w2 ⟨rfl, hb2, hd2⟩
  obtain ⟨x2, rfl⟩ := far_below hb2
  have HD2 := hide hd2
  clear hd2
  go_wp2_with fail
  refine wp_region_still_tail 10 (by kernel_rfl) (by kernel_rfl) ?_
  simp only [List.take_succ_cons, List.take_zero, List.drop_succ_cons, List.drop_zero]
  repeat (first | still_step | still_call (compareU_any a b _) | still_call (Tryz.cmp_Compare_int n m _))
  try refine wpStill_nil ?_
  refine wpList_gen (fun w3 => Below w.heap.size w w3 ∧ w.drawn ≤ w3.drawn) ⟨(below_boxes w _ _ x2).drew, ?_⟩ ?_
  · have h1 := HD1.out
    have h2 := HD2.out
    simp only [World.drawn_alloc, World.drawn_drew, gr_far] at h1 h2 ⊢
    omega
  intro w3 ⟨hb3, hd3⟩
  clear hb1 hb2 k0 k1 k2 k3 HG HH HD1 HD2
  go_wp2_with fail
  refine (or_any w3.heap.size (cmpN a b) (Lib.compareInt n m) _ (by simp) (by simp)).mono ?_
  rintro e w4 ⟨rfl, rfl⟩
  rw [hf.out]
  go_wp2
  go_ret
  exact ⟨rfl, hb3.alloc (hb3.size) _, by simpa using hd3⟩
theorem gr_of {w w' : World} (hb : Below w.heap.size w w') (hd : w.drawn ≤ w'.drawn) : ∃ q os, w' = Go.Sort.grow (w.drewN q) os := by
  obtain ⟨p, rfl⟩ := regrown_of_below hb
  have hd' : w.drawn ≤ p.d := hd
  refine ⟨p.d - w.drawn, p.os, ?_⟩
  unfold World.drewN redrawn
  rw [show w.drawn + (p.d - w.drawn) = p.d by omega]
theorem run_clear_sliceK {P : Program} (w : World) (t e ty : TypeId) (z : Value) (ht : P.underlying t = some (.slice e)) (hv : ∀ w, (zeroValue e).run P w = .ok z w) (h1 : ∀ v ∈ z.cells, v.oneCell' = true) (h0 : 0 < z.cells.size) (b o n c : Nat) (hn : 0 < n)
    (hc : ∀ j, j < n * z.cells.size → (w.cell? ⟨b, o + j, none⟩).isSome = true) (hf : ∀ j, j < n * z.cells.size → w.frozen? ⟨b, o + j, none⟩ = false) :
    (Builtin.clear_ #[t] ty #[.slice (some ⟨b, o, none⟩) n c]).run P w = .ok (.tuple #[]) (w.setCells b o (Builtin.zeroCells z.cells n).toList) := by
  have hl : (Builtin.zeroCells z.cells n).toList.length = n * z.cells.size := by simp [Builtin.zeroCells]
  have ho : ∀ v ∈ (Builtin.zeroCells z.cells n).toList, v.oneCell' = true := by
    intro v hv'
    simp only [Builtin.zeroCells, Array.toList_map, List.mem_map] at hv'
    obtain ⟨i, _, rfl⟩ := hv'
    have hi : i % z.cells.size < z.cells.size := Nat.mod_lt _ h0
    rw [getElem!_pos z.cells _ hi]
    exact h1 _ (Array.getElem_mem hi)
  have hst := run_storeCells_cells (P := P) b o (Builtin.zeroCells z.cells n).toList 0 w (by rw [hl]; simpa using hc) (by rw [hl]; simpa using hf) ho
  simp only [Nat.add_zero] at hst
  obtain ⟨m, rfl⟩ : ∃ m, n = m + 1 := ⟨n - 1, by omega⟩
  simp [Builtin.clear_, run_underlying ht, hv, hst]
theorem clearRunP (w : World) (g o n c : Nat) (hn : 0 < n) (hc : ∀ j, j < n * 2 → (w.cell? ⟨g, o + j, none⟩).isSome = true) (hf : ∀ j, j < n * 2 → w.frozen? ⟨g, o + j, none⟩ = false) (ty : TypeId) :
    (Builtin.clear_ #[45] ty #[.slice (some ⟨g, o, none⟩) n c]).run Tryz.prog w = .ok (.tuple #[]) (w.setCells g o (Builtin.zeroCells #[.int .u32 0, .int .i64 0] n).toList) :=
  run_clear_sliceK w 45 24 ty (.agg #[.int .u32 0, .int .i64 0]) Tryz.underlying45 Tryz.zeroValue24 (by intro v hv; simp [Value.cells] at hv; rcases hv with rfl | rfl <;> rfl) (by simp [Value.cells]) g o n c hn hc hf
set_option maxRecDepth 100000 in
set_option maxHeartbeats 4000000 in
theorem pxCompact_any (base g cap : Nat) (d : Array Nat) (w : World) (h : PkRow base g cap w d) (hu : Up d) (hsz : d.size ≤ 100000) :
    Calls Tryz.prog 154 #[.slice (some ⟨g, 0, none⟩) d.size cap] w fun e w' => ∃ m, e = .returned (.slice (some ⟨g, 0, none⟩) m cap) ∧ m = (setOf d.toList).length ∧ w'.ownsRow base 24 2 (.slice (some ⟨g, 0, none⟩) m cap) m (pkC (setOf d.toList)) ∧ Below base w w' := by
  have HR := hide h
  have HUp := hide hu
  have hcap := h.2.2.2.2.2
  have hdc := h.2.2.2.2.1
  have hbg := h.2.2.1
  unfold maxLen at hcap
  obtain ⟨n, hn⟩ : ∃ n, d.size = n := ⟨_, rfl⟩
  have HFin : Hid (∀ (w' : World) (d' : Array Nat) (k : Nat), PkRow base g cap w' d' → CompInv d d' k d.size → w'.ownsRow base 24 2 (.slice (some ⟨g, 0, none⟩) k cap) k (pkC (setOf d.toList)) ∧ k = (setOf d.toList).length) := hide (fun w' d' k hr hi => by
    have h1 := hr.cut (k := k) (by have := hi.size; have := hi.le; omega)
    rw [hi.done] at h1
    refine ⟨h1, ?_⟩
    have := congrArg List.length hi.done
    rw [List.length_take] at this
    have hh := hi.size; have hl := hi.le
    simp at this; omega)
  rw [hn] at hsz hdc HFin ⊢
  have HN := hide hn
  clear h hu hn
  by_cases h2 : n < 2
  · have HF : Hid (w.ownsRow base 24 2 (.slice (some ⟨g, 0, none⟩) n cap) n (pkC (setOf d.toList)) ∧ n = (setOf d.toList).length) := hide (by
      have h1 := HR.out.1
      rw [HN.out] at h1
      have e : setOf d.toList = d.toList := by
        have hl : d.toList.length = n := by simpa using HN.out
        match hd : d.toList, hl with
        | [], _ => rfl
        | [x], _ => rfl
        | x :: y :: l, hl => simp at hl; omega
      rw [e]
      exact ⟨h1, by simpa using HN.out.symm⟩)
    go_enter Tryz.func154, Tryz.ntmps154
    go_wp2
    go_ret
    exact ⟨_, rfl, HF.out.2, HF.out.1, Below.refl _ _⟩
  · have HSt := hide (CompInv.start (d := d) (by rw [HN.out]; omega))
    go_enter Tryz.func154, Tryz.ntmps154
    go_wp2
    go_loopw [3] (fun i wr => ∃ k : Nat, k ≤ n ∧ i = .int .i64 k ∧ CompInv d d k k ∧ ∃ q, wr = w.drewN q) (fun i _ => n - (intOf i).toNat)
    case atStart => exact ⟨1, by omega, rfl, HSt.out, 0, rfl⟩
    case round =>
      obtain ⟨k, hk, rfl, hinv, q, rfl⟩ := hrel
      have HI := hide hinv
      have hk1 := hinv.le.1
      clear hinv
      by_cases hlt : k < n
      · obtain ⟨p, rfl⟩ : ∃ p, k = p + 1 := ⟨k - 1, by omega⟩
        obtain ⟨hc1, hd1⟩ := HR.out.cell (j := p + 1) (by rw [HN.out]; omega)
        obtain ⟨hc2, hd2⟩ := HR.out.cell (j := p) (by rw [HN.out]; omega)
        obtain ⟨x, hx⟩ : ∃ x, d[p + 1]! = x := ⟨_, rfl⟩
        obtain ⟨y, hy⟩ : ∃ y, d[p]! = y := ⟨_, rfl⟩
        rw [hx] at hc1 hd1
        rw [hy] at hc2 hd2
        obtain ⟨xa, hxa⟩ : ∃ a, x / 64 = a := ⟨_, rfl⟩
        obtain ⟨xm, hxm⟩ : ∃ a, x % 64 = a := ⟨_, rfl⟩
        obtain ⟨ya, hya⟩ : ∃ a, y / 64 = a := ⟨_, rfl⟩
        obtain ⟨ym, hym⟩ : ∃ a, y % 64 = a := ⟨_, rfl⟩
        rw [hxa] at hc1
        rw [hxm] at hd1
        rw [hya] at hc2
        rw [hym] at hd2
        have HX := hide hx
        have HY := hide hy
        have hi0 : (0 : Int) ≤ (p : Int) := by omega
        have hi1 : (p : Int) + 1 < (n : Int) := by omega
        have hi2 : (p : Int) < (n : Int) := by omega
        have hi3 : (0 : Int) ≤ (p : Int) + 1 := by omega
        have hwp : IntKind.i64.wrap (p : Int) = (p : Int) := by rw [IntKind.wrap_i64]; omega
        by_cases hxy : x = y
        · have HXY := hide hxy
          have HI2 : Hid (CompInv d d (p + 1) (p + 1 + (0 + 1))) := hide (by
            have := HI.out.skip (by rw [HN.out]; exact hlt) (by rw [Nat.add_sub_cancel, HX.out, HY.out]; exact HXY.out)
            exact this)
          obtain rfl : xa = ya := by omega
          obtain rfl : xm = ym := by omega
          have hcp : ¬ cap = p + 1 := by omega
          have hi4 : (p : Int) + 1 ≤ (n : Int) := by omega
          have hi5 : (n : Int) ≤ (cap : Int) := by omega
          clear hxy hx hy hxa hxm hya hym
          go_wp2
          go_quiet (fail)
          go_wp2
          obtain ⟨wo, hwo⟩ : ∃ wo, (w.drewN q).drewN nq = wo := ⟨_, rfl⟩
          have HRo : Hid (PkRow base g cap wo d) := hide (by rw [← hwo]; exact (HR.out.drewN q).drewN nq)
          have HBo : Hid (Below base w wo) := hide (by rw [← hwo]; exact below_drewN (below_drewN (Below.refl _ _) _) _)
          obtain ⟨p0, hp0⟩ : ∃ p0, p = p0 := ⟨_, rfl⟩
          subst hp0
          clear hc1 hd1 hc2 hd2
          go_loopw [3, 5] (fun a b wr => ∃ (k r : Nat) (d' : Array Nat), a = .int .i64 k ∧ b = .int .i64 ((r : Int) + 1) ∧ r + 1 ≤ n - (p + 1) ∧ CompInv d d' k (p + 1 + (r + 1)) ∧ k < p + 1 + (r + 1) ∧ d'[p + 1 + r]! = d[p + 1 + r]! ∧ PkRow base g cap wr d' ∧ Below base w wr) (fun _ b _ => n - (intOf b).toNat)
          case atStart => exact ⟨p + 1, 0, d, by go_num, by go_num, by omega, HI2.out, by omega, rfl, by first | exact (HR.out.drewN _) | exact (HR.out.drewN _).drewN _, by first | exact below_drewN (Below.refl _ _) _ | exact below_drewN (below_drewN (Below.refl _ _) _) _⟩
          case round =>
            obtain ⟨k, r, d', rfl, rfl, hr, hinv, hkq, hrr, hrow, hbel⟩ := hrel
            have HI3 := hide hinv
            have HRR := hide hrr
            have HR3 := hide hrow
            have HB3 := hide hbel
            have hds := hinv.size
            have hle := hinv.le
            rw [HN.out] at hds hle
            clear hinv hrr hbel
            by_cases hlt2 : r + 1 < n - (p + 1)
            · obtain ⟨hc3, hd3⟩ := hrow.cell (j := p + 1 + (r + 1)) (by omega)
              obtain ⟨hc4, hd4⟩ := hrow.cell (j := p + 1 + r) (by omega)
              have hfz := hrow.1.frozenAt (k * 2)
              have hfz2 := hrow.1.frozenAt (k * 2 + 1)
              obtain ⟨hck, hdk⟩ := hrow.cell (j := k) (by omega)
              clear hrow
              obtain ⟨x2, hx2⟩ : ∃ x2, d[p + 1 + (r + 1)]! = x2 := ⟨_, rfl⟩
              obtain ⟨y2, hy2⟩ : ∃ y2, d[p + 1 + r]! = y2 := ⟨_, rfl⟩
              obtain ⟨z2, hz2⟩ : ∃ z2, d'[k]! = z2 := ⟨_, rfl⟩
              have hdx : d'[p + 1 + (r + 1)]! = x2 := by
                rcases HI3.out.rest (p + 1 + (r + 1)) (by omega) with h | h
                · rw [h, hx2]
                · omega
              rw [hdx] at hc3 hd3
              rw [HRR.out, hy2] at hc4 hd4
              rw [hz2] at hck hdk
              have HX2 := hide hx2
              have HY2 := hide hy2
              have HDX := hide hdx
              have hx3 : nk x2 = x2 := by rw [← hdx]; exact HR3.out.val _
              have HX3 := hide hx3
              obtain ⟨ua, hua⟩ : ∃ a, x2 / 64 = a := ⟨_, rfl⟩
              obtain ⟨um, hum⟩ : ∃ a, x2 % 64 = a := ⟨_, rfl⟩
              obtain ⟨va, hva⟩ : ∃ a, y2 / 64 = a := ⟨_, rfl⟩
              obtain ⟨vm, hvm⟩ : ∃ a, y2 % 64 = a := ⟨_, rfl⟩
              have HSt2 := hide (fun nq => (HR3.out.drewN nq).set_ (k := k) hx3)
              simp only [hua, hum] at HSt2
              rw [hua] at hc3
              rw [hum] at hd3
              rw [hva] at hc4
              rw [hvm] at hd4
              obtain ⟨za, hza⟩ : ∃ a, z2 / 64 = a := ⟨_, rfl⟩
              obtain ⟨zm, hzm⟩ : ∃ a, z2 % 64 = a := ⟨_, rfl⟩
              rw [hza] at hck
              rw [hzm] at hdk
              clear hx2 hy2 hdx hz2 hx3 hza hzm
              have hj0 : (0 : Int) ≤ (r : Int) := by omega
              have hj1 : (0 : Int) ≤ (r : Int) + 1 := by omega
              have hj2 : (r : Int) + 1 < (n : Int) - ((p : Int) + 1) := by omega
              have hj3 : (r : Int) < (n : Int) - ((p : Int) + 1) := by omega
              have hj4 : (k : Int) < (n : Int) := by omega
              have hwr : IntKind.i64.wrap (r : Int) = (r : Int) := by rw [IntKind.wrap_i64]; omega
              have ho1 : 0 + (p + 1) * 2 + (r + 1) * 2 = (p + 1 + (r + 1)) * 2 := by omega
              have ho2 : (p + 1) * 2 + (r + 1) * 2 = (p + 1 + (r + 1)) * 2 := by omega
              have ho3 : (p + 1) * 2 + r * 2 = (p + 1 + r) * 2 := by omega
              by_cases hxy2 : x2 = y2
              · have HI4 : Hid (CompInv d d' k (p + 1 + (r + 1 + 1))) := hide (by
                  have := HI3.out.skip (by rw [HN.out]; omega) (by rw [show p + 1 + (r + 1) - 1 = p + 1 + r by omega, HX2.out, HY2.out]; exact hxy2)
                  exact this)
                obtain rfl : ua = va := by omega
                obtain rfl : um = vm := by omega
                clear hxy2 hua hum hva hvm
                go_wp2
                go_quiet (fail)
                go_wp2
                go_roundw
                case rel => exact ⟨k, r + 1, d', rfl, by go_num, by omega, HI4.out, by omega, by rw [show p + 1 + (r + 1) = p + 1 + (r + 1) from rfl, HDX.out, HX2.out], HR3.out.drewN _, below_drewN HB3.out _⟩
                case measure => simp [intOf]; omega
              · have HI4 : Hid (CompInv d (d'.setIfInBounds k x2) (k + 1) (p + 1 + (r + 1 + 1))) := hide (by
                  have := HI3.out.put HUp.out (by rw [HN.out]; omega) (by rw [show p + 1 + (r + 1) - 1 = p + 1 + r by omega, HX2.out, HY2.out]; exact hxy2)
                  rw [HX2.out] at this
                  exact this)
                have hne : ¬ (ua = va ∧ um = vm) := fun h => by omega
                clear hxy2 hua hum hva hvm
                by_cases hua2 : ua = va
                · subst hua2
                  have he2 : ((um : Int) == (vm : Int)) = false := by simp; omega
                  clear hne
                  go_wp2
                  go_quiet (fail)
                  go_wp2
                  go_roundw
                  case rel => exact ⟨k + 1, r + 1, d'.setIfInBounds k x2, by go_num, by go_num, by omega, HI4.out, by omega, by rw [get_set _ _ _ _ (by omega), if_neg (by omega), HDX.out, HX2.out], by exact HSt2.out _, by exact below_clear (by exact HR3.out.2.2.1) [_, _] (k * 2) (below_drewN HB3.out _)⟩
                  case measure => simp [intOf]; omega
                · have he2 : ((ua : Int) == (va : Int)) = false := by simp; omega
                  clear hne hua2
                  go_wp2
                  go_quiet (fail)
                  go_wp2
                  go_roundw
                  case rel => exact ⟨k + 1, r + 1, d'.setIfInBounds k x2, by go_num, by go_num, by omega, HI4.out, by omega, by rw [get_set _ _ _ _ (by omega), if_neg (by omega), HDX.out, HX2.out], by exact HSt2.out _, by exact below_clear (by exact HR3.out.2.2.1) [_, _] (k * 2) (below_drewN HB3.out _)⟩
                  case measure => simp [intOf]; omega
            · have hkn : k < n := by omega
              have hrn : p + 1 + (r + 1) = n := by omega
              have HI4 : Hid (CompInv d d' k d.size) := hide (by rw [HN.out, ← hrn]; exact HI3.out)
              have hcl := clearRunP wr g (k * 2) (n - k) (cap - k) (by omega) (fun j hj => by
                have := HR3.out.1.cellAt (k * 2 + j) (by omega)
                rw [this, List.getElem?_eq_getElem (by rw [pkC_len]; simp; omega)]
                rfl) (fun j hj => HR3.out.1.frozenAt (k * 2 + j))
              have HF : Hid (wr.ownsRow base 24 2 (.slice (some ⟨g, 0, none⟩) k cap) k (pkC (setOf d.toList)) ∧ k = (setOf d.toList).length) := hide (HFin.out wr d' k HR3.out (by have := HI4.out; rwa [HN.out] at this))
              have hck : ¬ cap = k := by omega
              have hj4 : (k : Int) < (n : Int) := by omega
              clear hrow hrn
              go_wp2
              go_ret
              exact ⟨_, rfl, HF.out.2, own_clearK _ _ HF.out.1 (Nat.le_refl _), below_clear (by exact HR3.out.2.2.1) _ _ HB3.out⟩
        · have HI2 := hide (HI.out.grow HUp.out (by rw [HN.out]; exact hlt) (by rw [Nat.add_sub_cancel, HX.out, HY.out]; exact hxy))
          have hne : ¬ (xa = ya ∧ xm = ym) := fun h => by omega
          clear hxy hx hy hxa hxm hya hym
          by_cases hxa2 : xa = ya
          · subst hxa2
            have he : ((xm : Int) == (ym : Int)) = false := by simp; omega
            clear hne
            go_wp2
            go_quiet (fail)
            go_wp2
            go_roundw
            case rel => exact ⟨p + 1 + 1, by omega, by go_num, HI2.out, _, rfl⟩
            case measure => simp [intOf]; omega
          · have he : ((xa : Int) == (ya : Int)) = false := by simp; omega
            clear hne hxa2
            go_wp2
            go_quiet (fail)
            go_wp2
            go_roundw
            case rel => exact ⟨p + 1 + 1, by omega, by go_num, HI2.out, _, rfl⟩
            case measure => simp [intOf]; omega
      · obtain rfl : k = n := by omega
        have HF := hide (HFin.out (w.drewN q) d k (HR.out.drewN q) (by have := HI.out; rwa [← HN.out] at this ⊢))
        go_wp2
        go_ret
        exact ⟨_, rfl, HF.out.2, HF.out.1, below_drewN (Below.refl _ _) _⟩
end Go.Proofs.YtcinjckajnnhmaaGreat
set_option linter.unusedSimpArgs false
set_option linter.unusedVariables false
namespace Go.Proofs.YtcinjckajnnhmaaGreat
open Go.RowKit Go.WideShapes Go.ChangeShapes
attribute [local go_sem] Oper.semAt_some
theorem pz_one {xs : List Value} {l : List (Nat × Int)} {w : World} (h : Chunks 2 pzR w xs l) : ∀ u ∈ xs, u.oneCell' = true := by
  refine h.ones (fun w vs x hr u hu => ?_) (by decide)
  obtain ⟨rfl, _⟩ := hr
  simp at hu
  rcases hu with rfl | rfl <;> rfl
set_option maxRecDepth 100000 in
theorem pxFew_any (A : Option Addr) (n c : Nat) (l : List (Nat × Int)) (w : World) (h : LstAt 2 pzR w A n c l) :
    Calls Tryz.prog 90 #[.slice A n c, .int .i64 30] w fun e w' => ∃ A' n' c', e = .returned (.slice A' n' c') ∧ LstAt 2 pzR w' A' n' c' (l.take 30) ∧ (∀ k, (Value.slice A' n' c').ownBlock = some k → w.heap.size ≤ k) ∧ Below w.heap.size w w' := by
  obtain ⟨i0, hi, hz0, hz1, hz2⟩ := info_parts pxInfo
  have hnc := h.2.1
  have hmx := h.2.2.1
  unfold maxLen at hmx
  have hln := h.1
  obtain ⟨m, hm, hcase⟩ : ∃ m, LstAt 2 pzR w A m c (l.take 30) ∧ ((30 < n ∧ m = 30) ∨ (n ≤ 30 ∧ m = n)) := by
    by_cases h30 : 30 < n
    · exact ⟨30, h.take_ (by omega), .inl ⟨h30, rfl⟩⟩
    · exact ⟨n, by rw [List.take_of_length_le (by omega)]; exact h, .inr ⟨by omega, rfl⟩⟩
  obtain ⟨xs, hr, hx⟩ := hm.reads (by decide)
  have HR := hide hr
  have HX := hide hx
  have H1 := hide (pz_one hx)
  have hmc := hm.2.1
  have HF : Hid (∀ (v : Value) (w1 : World), w1.ownsRow w.heap.size 24 2 v (0 + m) ([] ++ xs) → ∃ A' n' c', v = .slice A' n' c' ∧ LstAt 2 pzR w1 A' n' c' (l.take 30) ∧ ∀ k, v.ownBlock = some k → w.heap.size ≤ k) := hide (fun v w1 ho => by
    rw [Nat.zero_add, List.nil_append] at ho
    have hc' : Chunks 2 pzR w1 xs (l.take 30) := ⟨HX.out.1, fun k x hk => HX.out.2 k x hk⟩
    have hlow := own_low_block ho
    rcases ho.2 with ⟨rfl, h0⟩ | ⟨g, cap, cur, rfl, r⟩
    · subst h0
      exact ⟨none, 0, 0, rfl, LstAt.of_own (by decide) ho hc', hlow⟩
    · exact ⟨_, _, _, rfl, LstAt.of_own (by decide) ho hc', hlow⟩)
  clear h hm hr hx hln
  go_enter Tryz.func90, Tryz.ntmps90
  rcases hcase with ⟨h30, rfl⟩ | ⟨h30, rfl⟩
  all_goals
    have i1 : (30 : Int) ≤ (c : Int) ∨ True := .inr trivial
    clear i1
  · have e1 : decide ((n : Int) > 30) = true := decide_eq_true (by omega)
    have e2 : (30 : Int) ≤ (c : Int) := by omega
    go_wp2_with (at_builtin; refine wpList_append_any _ rfl (.tmp 12) (.tmp 13) 45 rfl w.heap.size 24 i0 _ 2 16 Tryz.underlying45 hi hz0 hz1 hz2 rfl (by decide) (.slice (some ⟨w.heap.size, 0, none⟩) 0 0) 0 [] rfl (own_made0P w) w.heap.size A _ c xs rfl (HR.out.alloc (Nat.le_refl _) _) H1.out (by unfold maxLen; omega) (by omega) (by simp) ?_; intro v' w1 hown' hgrow _)
    go_ret
    obtain ⟨A', n', c', e, hl, hb⟩ := HF.out _ _ hown'
    exact ⟨A', n', c', by rw [e]; rfl, hl, by rw [← e]; exact hb, ((Below.refl _ _).alloc (Nat.le_refl _) _).grown hgrow (by simp) (fun k hk => by simp [Value.ownBlock] at hk; omega)⟩
  · have e1 : decide ((m : Int) > 30) = false := decide_eq_false (by omega)
    go_wp2_with (at_builtin; refine wpList_append_any _ rfl (.tmp 12) (.tmp 13) 45 rfl w.heap.size 24 i0 _ 2 16 Tryz.underlying45 hi hz0 hz1 hz2 rfl (by decide) (.slice (some ⟨w.heap.size, 0, none⟩) 0 0) 0 [] rfl (own_made0P w) w.heap.size A _ c xs rfl (HR.out.alloc (Nat.le_refl _) _) H1.out (by unfold maxLen; omega) (by omega) (by simp) ?_; intro v' w1 hown' hgrow _)
    go_ret
    obtain ⟨A', n', c', e, hl, hb⟩ := HF.out _ _ hown'
    exact ⟨A', n', c', by rw [e]; rfl, hl, by rw [← e]; exact hb, ((Below.refl _ _).alloc (Nat.le_refl _) _).grown hgrow (by simp) (fun k hk => by simp [Value.ownBlock] at hk; omega)⟩
end Go.Proofs.YtcinjckajnnhmaaGreat
set_option linter.unusedSimpArgs false
set_option linter.unusedVariables false
namespace Go.Proofs.YtcinjckajnnhmaaGreat
open Go.RowKit Go.WideShapes Go.ChangeShapes
attribute [local go_sem] Oper.semAt_some
theorem pGood_own (A : Option Addr) (n c : Nat) (l : List SG) (w : World) (h : LstAt 2 sgR w A n c l) (hno : normS l = l) (hl : ∀ x ∈ l, 1 ≤ x.r.length ∧ x.r.length ≤ 255) (hn : n ≤ 100) (hnum : numS l ≤ 10000) :
    Calls Tryz.prog 311 #[.slice A n c] w (GoodP true w) := by
  have H := hide (pgood_eq A n c l w h hno hl hn hnum)
  clear h hno hl
  go_enter Tryz.func311, Tryz.ntmps311
  go_wp2_with fail
  refine H.out.mono ?_
  rintro e w1 ⟨rfl, hb⟩
  have HB := hide hb
  clear hb
  go_wp2
  go_ret
  exact ⟨rfl, HB.out⟩
set_option maxRecDepth 100000 in
set_option maxHeartbeats 4000000 in
theorem attrways_own (A : Option Addr) (n c : Nat) (l : List SG) (w : World) (h : LstAt 2 sgR w A n c l) (hno : normS l = l) (hl : ∀ x ∈ l, 1 ≤ x.r.length ∧ x.r.length ≤ 255) (hn : n ≤ 100) (hnum : numS l ≤ 2000) :
    Calls Tryz.prog 284 #[.slice A n c] w (GoodP true w) := by
  have hln := h.1
  have hnc := h.2.1
  have hmx := h.2.2.1
  unfold maxLen at hmx
  have HLs := hide h
  have HG := hide (fun W (hb : Below w.heap.size w W) => pGood_own A n c l W (h.below sgMono hb) hno hl hn (by omega))
  clear h hno hl
  go_enter Tryz.func284, Tryz.ntmps284
  go_wp2
  go_loopw [3, 8] (fun av iv wr => ∃ q : Nat, q ≤ n ∧ iv = .int .i64 (q : Nat) ∧ av = .int .i64 (numS (l.take q) : Int) ∧ Below w.heap.size w wr) (fun _ iv _ => n - (intOf iv).toNat)
  case atStart => exact ⟨0, Nat.zero_le _, rfl, rfl, Below.refl _ _⟩
  case round =>
    obtain ⟨q, hq, rfl, rfl, hbel⟩ := hrel
    have HBe := hide hbel
    have hs1 := hbel.size
    by_cases hlt : q < n
    · obtain ⟨g, o, b, B, m, d, r, rfl, hg, hx, hr, hc0, hc1⟩ := SGat (HLs.out.below sgMono hbel) hlt
      have HS := hide (numS_snoc l q _ hx)
      have h2 := numS_take_le l (q + 1)
      have hrl : r.length = m := hr.1
      have q1 : (q : Int) < (n : Int) := by omega
      have q0 : (0 : Int) ≤ (q : Int) := by omega
      have hwq : IntKind.i64.wrap ((q : Int) + 1) = (q : Int) + 1 := by rw [IntKind.wrap_i64]; omega
      have hsn := HS.out
      have HBx : Hid (∀ o1 : Obj, Below w.heap.size w (wr.alloc o1)) := hide (fun o1 => HBe.out.alloc hs1 o1)
      simp only [hrl] at hsn
      clear hbel hx hr
      have hwa : IntKind.i64.wrap ((numS (l.take q) : Int) + (m : Int)) = (numS (l.take (q + 1)) : Int) := by rw [IntKind.wrap_i64]; omega
      go_wp2
      go_roundw
      case rel => exact ⟨q + 1, by omega, by go_num, by first | rfl | exact congrArg (Value.int .i64) (by omega), HBx.out _⟩
      case measure => simp [intOf]; omega
    · obtain rfl : q = n := by omega
      have HE : Hid (numS (l.take q) = numS l) := hide (by rw [List.take_of_length_le (by omega)])
      have HGd := hide (HG.out wr hbel)
      have e9 : decide ((numS (l.take q) : Int) ≤ 2000) = true := decide_eq_true (by rw [HE.out]; omega)
      clear hbel hlt
      go_wp2_with fail
      refine HGd.out.mono ?_
      rintro e w2 ⟨rfl, hb2⟩
      have HB2 := hide (HBe.out.trans (hb2.mono hs1))
      clear hb2
      go_wp2
      go_ret
      exact ⟨rfl, HB2.out⟩
theorem attrhop_5 (w : World) : Calls Tryz.prog 283 #[.int .u32 5] w fun e w' => e = .returned (.bool true) ∧ w' = w := by
  go_enter Tryz.func283, Tryz.ntmps283
  go_wp2
  go_ret
  exact ⟨rfl, rfl⟩
set_option maxRecDepth 100000 in
set_option maxHeartbeats 8000000 in
theorem attrgood_own (X : AT) (v : Value) (w : World) (hv : AtR w X v) (hN : normA X = X) (h0 : 0 ≤ X.org) (h2 : X.org ≤ 2) (hcm : X.comms.length ≤ 255) (hh : attB X.has 3 = true ∧ X.hop = 5) (hpo : normS X.path = X.path) (hpl : ∀ x ∈ X.path, 1 ≤ x.r.length ∧ x.r.length ≤ 255) (hpn : X.path.length ≤ 100) (hnum : numS X.path ≤ 2000) :
    Calls Tryz.prog 250 #[v] w (GoodP true w) := by
  obtain ⟨A, n, c, B, m, d, rfl, hP, hC⟩ := hv
  obtain ⟨w1, hw1⟩ : ∃ w1, w.alloc (.cells #[.int .i64 X.has, .int .i64 X.org, .slice A n c, .int .u32 X.hop, .int .u32 X.med, .int .u32 X.pref, .int .u32 X.aas, .int .u32 X.aid, .slice B m d] 28) = w1 := ⟨_, rfl⟩
  have hb1 : Below w.heap.size w w1 := hw1 ▸ blkBelow1 w _
  have HK : Hid (Blk w1 w.heap.size 28 #[.int .i64 X.has, .int .i64 X.org, .slice A n c, .int .u32 X.hop, .int .u32 X.med, .int .u32 X.pref, .int .u32 X.aas, .int .u32 X.aid, .slice B m d]) := hide (hw1 ▸ Blk.new w _ _)
  have hn := hP.1
  have hm := hC.1
  have HN1 : Hid (numS X.path ≤ 10000) := hide (by omega)
  have HN2 : Hid (m ≤ 10000) := hide (by omega)
  have HPl : Hid (X.path.length ≤ 100000) := hide (by omega)
  have HNx : Hid (normA X = X) := hide hN
  have HP := hide (fun W (hb : Below w1.heap.size w1 W) => (hP.below sgMono hb1).below sgMono hb)
  have HC := hide (fun W (hb : Below w1.heap.size w1 W) => (hC.below hb1).below hb)
  have HWy := hide (fun W (hb : Below w1.heap.size w1 W) => attrways_own A n c X.path W (HP.out W hb) hpo hpl (by omega) hnum)
  have HHs := hide (fun W => attrHas_any 3 (by unfold K8; omega) X.has X.org A n c X.hop X.med X.pref X.aas X.aid B m d W)
  rw [hh.1] at HHs
  have HHp := hide (fun W => attrhop_5 W)
  have HHo := hide hh.2
  have hml : (m : Int) ≤ 255 := by omega
  have HB1 := hide hb1
  have HW1 := hide hw1
  clear hw1 hb1 hP hC hN hpo hpl hpn hnum hh hcm hn hm
  go_enter Tryz.func250, Tryz.ntmps250
  go_upto_region 1 with fail
  rw [HW1.out]
  have Hmn := hide (show AllMono [(fun v _ => v = .agg #[.int .i64 X.has, .int .i64 X.org, .slice A n c, .int .u32 X.hop, .int .u32 X.med, .int .u32 X.pref, .int .u32 X.aas, .int .u32 X.aid, .slice B m d]), (fun v W => AtR W X v), (fun v _ => v = .agg #[.int .i64 X.has, .int .i64 X.org, .slice A n c, .int .u32 X.hop, .int .u32 X.med, .int .u32 X.pref, .int .u32 X.aas, .int .u32 X.aid, .slice B m d]), (fun v _ => v = .bool true), (fun v _ => v = .bool false)] from ⟨fun _ _ _ _ h => h, fun v w2 w3 hb ⟨A, n, c, B, m, d, e, h1, h2⟩ => ⟨A, n, c, B, m, d, e, h1.below sgMono hb, h2.below hb⟩, fun _ _ _ _ h => h, fun _ _ _ _ h => h, fun _ _ _ _ h => h, trivial⟩)
  refine wp_region_relT 5 _ (by kernel_rfl) (by kernel_rfl) (by kernel_rfl) (by kernel_rfl) (by kernel_rfl) (relMono _ Hmn.out) ⟨?_, ?_, ?_, ?_, ?_, trivial⟩ ?_
  · refine relStep_plain rfl ?_
    intro Ac w5 hp
    have hb := hp.bel
    have a1 : Ac.eval (.tmp 1) = .pointer (some ⟨w.heap.size, 0, none⟩) := hp.out 1 (by rfl)
    have hx5 := HK.out.below hb HK.out.lt
    have x0 : w5.cell? ⟨w.heap.size, 0, none⟩ = some (.int .i64 X.has) := hx5.cell 0
    have x1 : w5.cell? ⟨w.heap.size, 1, none⟩ = some (.int .i64 X.org) := hx5.cell 1
    have x2 : w5.cell? ⟨w.heap.size, 2, none⟩ = some (.slice A n c) := hx5.cell 2
    have x3 : w5.cell? ⟨w.heap.size, 3, none⟩ = some (.int .u32 X.hop) := hx5.cell 3
    have x4 : w5.cell? ⟨w.heap.size, 4, none⟩ = some (.int .u32 X.med) := hx5.cell 4
    have x5 : w5.cell? ⟨w.heap.size, 5, none⟩ = some (.int .u32 X.pref) := hx5.cell 5
    have x6 : w5.cell? ⟨w.heap.size, 6, none⟩ = some (.int .u32 X.aas) := hx5.cell 6
    have x7 : w5.cell? ⟨w.heap.size, 7, none⟩ = some (.int .u32 X.aid) := hx5.cell 7
    have x8 : w5.cell? ⟨w.heap.size, 8, none⟩ = some (.slice B m d) := hx5.cell 8
    have hc := evalC Ac; have hf := evalF Ac; have hgl := evalG Ac
    obtain ⟨ρ, hρ⟩ : ∃ ρ, Ac.eval = ρ := ⟨_, rfl⟩
    rw [hρ] at a1 hc hf hgl
    exact relPure hρ (.agg #[.int .i64 X.has, .int .i64 X.org, .slice A n c, .int .u32 X.hop, .int .u32 X.med, .int .u32 X.pref, .int .u32 X.aas, .int .u32 X.aid, .slice B m d]) (by simp [go_sem, hc, hf, hgl, ↓IntWalk.iteOmega, a1, *]) rfl
  · refine relStep_plain rfl ?_
    intro Ac w5 hp
    have hb := hp.bel
    have a4 : Ac.eval (.tmp 4) = .agg #[.int .i64 X.has, .int .i64 X.org, .slice A n c, .int .u32 X.hop, .int .u32 X.med, .int .u32 X.pref, .int .u32 X.aas, .int .u32 X.aid, .slice B m d] := hp.dep 0 (by kernel_rfl)
    have hc := evalC Ac; have hf := evalF Ac; have hgl := evalG Ac
    obtain ⟨ρ, hρ⟩ : ∃ ρ, Ac.eval = ρ := ⟨_, rfl⟩
    rw [hρ] at a4 hc hf hgl
    refine relCall hρ 131 #[.agg #[.int .i64 X.has, .int .i64 X.org, .slice A n c, .int .u32 X.hop, .int .u32 X.med, .int .u32 X.pref, .int .u32 X.aas, .int .u32 X.aid, .slice B m d]] (by simp [go_sem, hc, hf, hgl, ↓IntWalk.iteOmega, a4, *]) ?_
    refine (attrNorm_any X.has X.org A n c X.hop X.med X.pref X.aas X.aid B m d X.path X.comms w5 (HP.out w5 hb) (HC.out w5 hb) HN1.out HN2.out).mono ?_
    rintro e w6 ⟨v6, rfl, ⟨A6, n6, c6, xs6, B6, m6, d6, rfl, hl6, hu6⟩, hb6⟩
    have hNx : normA ⟨X.has, X.org, X.path, X.hop, X.med, X.pref, X.aas, X.aid, X.comms⟩ = X := HNx.out
    rw [hNx] at hl6 hu6 ⊢
    exact ⟨_, rfl, ⟨A6, n6, c6, B6, m6, d6, rfl, (hl6.lst (by decide)).below sgMono (Below.refl _ _), hu6.here⟩, hb6⟩
  · refine relStep_plain rfl ?_
    intro Ac w5 hp
    have hb := hp.bel
    have a1 : Ac.eval (.tmp 1) = .pointer (some ⟨w.heap.size, 0, none⟩) := hp.out 1 (by rfl)
    have hx5 := HK.out.below hb HK.out.lt
    have x0 : w5.cell? ⟨w.heap.size, 0, none⟩ = some (.int .i64 X.has) := hx5.cell 0
    have x1 : w5.cell? ⟨w.heap.size, 1, none⟩ = some (.int .i64 X.org) := hx5.cell 1
    have x2 : w5.cell? ⟨w.heap.size, 2, none⟩ = some (.slice A n c) := hx5.cell 2
    have x3 : w5.cell? ⟨w.heap.size, 3, none⟩ = some (.int .u32 X.hop) := hx5.cell 3
    have x4 : w5.cell? ⟨w.heap.size, 4, none⟩ = some (.int .u32 X.med) := hx5.cell 4
    have x5 : w5.cell? ⟨w.heap.size, 5, none⟩ = some (.int .u32 X.pref) := hx5.cell 5
    have x6 : w5.cell? ⟨w.heap.size, 6, none⟩ = some (.int .u32 X.aas) := hx5.cell 6
    have x7 : w5.cell? ⟨w.heap.size, 7, none⟩ = some (.int .u32 X.aid) := hx5.cell 7
    have x8 : w5.cell? ⟨w.heap.size, 8, none⟩ = some (.slice B m d) := hx5.cell 8
    have hc := evalC Ac; have hf := evalF Ac; have hgl := evalG Ac
    obtain ⟨ρ, hρ⟩ : ∃ ρ, Ac.eval = ρ := ⟨_, rfl⟩
    rw [hρ] at a1 hc hf hgl
    exact relPure hρ (.agg #[.int .i64 X.has, .int .i64 X.org, .slice A n c, .int .u32 X.hop, .int .u32 X.med, .int .u32 X.pref, .int .u32 X.aas, .int .u32 X.aid, .slice B m d]) (by simp [go_sem, hc, hf, hgl, ↓IntWalk.iteOmega, a1, *]) rfl
  · refine relStep_plain rfl ?_
    intro Ac w5 hp
    have hb := hp.bel
    obtain ⟨A5, n5, c5, B5, m5, d5, a5, hl5, hu5⟩ := hp.dep 1 (by kernel_rfl)
    change Ac.eval (.tmp 5) = _ at a5
    have a6 : Ac.eval (.tmp 6) = .agg #[.int .i64 X.has, .int .i64 X.org, .slice A n c, .int .u32 X.hop, .int .u32 X.med, .int .u32 X.pref, .int .u32 X.aas, .int .u32 X.aid, .slice B m d] := hp.dep 2 (by kernel_rfl)
    have hc := evalC Ac; have hf := evalF Ac; have hgl := evalG Ac
    obtain ⟨ρ, hρ⟩ : ∃ ρ, Ac.eval = ρ := ⟨_, rfl⟩
    rw [hρ] at a5 a6 hc hf hgl
    refine relCall hρ 190 #[.agg #[.int .i64 X.has, .int .i64 X.org, .slice A5 n5 c5, .int .u32 X.hop, .int .u32 X.med, .int .u32 X.pref, .int .u32 X.aas, .int .u32 X.aid, .slice B5 m5 d5], .agg #[.int .i64 X.has, .int .i64 X.org, .slice A n c, .int .u32 X.hop, .int .u32 X.med, .int .u32 X.pref, .int .u32 X.aas, .int .u32 X.aid, .slice B m d]] (by simp [go_sem, hc, hf, hgl, ↓IntWalk.iteOmega, a5, a6, *]) ?_
    refine (attrsame_eq X _ _ w5 ⟨A5, n5, c5, B5, m5, d5, rfl, hl5, hu5⟩ ⟨A, n, c, B, m, d, rfl, HP.out w5 hb, HC.out w5 hb⟩ HPl.out).mono ?_
    rintro e w6 ⟨rfl, hb6⟩
    exact ⟨_, rfl, rfl, hb6⟩
  · refine relStep_plain rfl ?_
    intro Ac w5 hp
    have hb := hp.bel
    have a7 : Ac.eval (.tmp 7) = .bool true := hp.dep 3 (by kernel_rfl)
    have hc := evalC Ac; have hf := evalF Ac; have hgl := evalG Ac
    obtain ⟨ρ, hρ⟩ : ∃ ρ, Ac.eval = ρ := ⟨_, rfl⟩
    rw [hρ] at a7 hc hf hgl
    exact relPure hρ (.bool false) (by simp [go_sem, hc, hf, hgl, ↓IntWalk.iteOmega, a7, *]) rfl
  intro u w2 hb7 hall
  have e8 : u 4 = .bool false := relAll_at hall (i := 4) (by decide +kernel)
  clear hall
  simp only [List.drop_succ_cons, List.drop_zero, List.take_succ_cons, List.take_zero, putAll, Act.put, List.setIfInBounds_toArray, List.set_cons_zero, List.set_cons_succ, Nat.zero_add, Nat.reduceAdd, e8]
  have HB2 := hide (HB1.out.trans (hb7.mono HB1.out.size))
  have HK2 := hide (HK.out.below hb7 HK.out.lt)
  have HBw := hide hb7
  clear hb7 HK
  have x1 : w2.cell? ⟨w.heap.size, 1, none⟩ = some (.int .i64 X.org) := HK2.out.cell 1
  have x8 : w2.cell? ⟨w.heap.size, 8, none⟩ = some (.slice B m d) := HK2.out.cell 8
  have x0 : w2.cell? ⟨w.heap.size, 0, none⟩ = some (.int .i64 X.has) := HK2.out.cell 0
  have x2 : w2.cell? ⟨w.heap.size, 2, none⟩ = some (.slice A n c) := HK2.out.cell 2
  have x3 : w2.cell? ⟨w.heap.size, 3, none⟩ = some (.int .u32 X.hop) := HK2.out.cell 3
  have x4 : w2.cell? ⟨w.heap.size, 4, none⟩ = some (.int .u32 X.med) := HK2.out.cell 4
  have x5 : w2.cell? ⟨w.heap.size, 5, none⟩ = some (.int .u32 X.pref) := HK2.out.cell 5
  have x6 : w2.cell? ⟨w.heap.size, 6, none⟩ = some (.int .u32 X.aas) := HK2.out.cell 6
  have x7 : w2.cell? ⟨w.heap.size, 7, none⟩ = some (.int .u32 X.aid) := HK2.out.cell 7
  have d1 : decide (X.org < 0) = false := decide_eq_false (by omega)
  have d2 : decide (X.org > 2) = false := decide_eq_false (by omega)
  have d3 : decide ((m : Int) > 255) = false := decide_eq_false (by omega)
  go_wp2_with fail
  refine (HHs.out _).mono ?_
  rintro e w3 ⟨rfl, hb3⟩
  have HB3 := hide (HB2.out.trans (hb3.mono HB2.out.size))
  have HBw3 := hide (HBw.out.trans (hb3.mono HBw.out.size))
  have HK3 := hide (HK2.out.below hb3 HK2.out.lt)
  clear hb3 x0 x1 x2 x3 x4 x5 x6 x7 x8
  have y3 : w3.cell? ⟨w.heap.size, 3, none⟩ = some (.int .u32 X.hop) := HK3.out.cell 3
  rw [HHo.out] at y3
  have y2 : w3.cell? ⟨w.heap.size, 2, none⟩ = some (.slice A n c) := HK3.out.cell 2
  go_wp2_with fail
  refine (HHp.out _).mono ?_
  rintro e w4 ⟨rfl, rfl⟩
  go_wp2_with fail
  refine (HWy.out _ HBw3.out).mono ?_
  rintro e w5 ⟨rfl, hb5⟩
  have HB5 := hide (HB3.out.trans (hb5.mono HB3.out.size))
  clear hb5
  go_wp2
  go_ret
  exact ⟨rfl, HB5.out⟩
theorem attrGood_own (X : AT) (v : Value) (w : World) (hv : AtR w X v) (hN : normA X = X) (h0 : 0 ≤ X.org) (h2 : X.org ≤ 2) (hcm : X.comms.length ≤ 255) (hh : attB X.has 3 = true ∧ X.hop = 5) (hpo : normS X.path = X.path) (hpl : ∀ x ∈ X.path, 1 ≤ x.r.length ∧ x.r.length ≤ 255) (hpn : X.path.length ≤ 100) (hnum : numS X.path ≤ 2000) :
    Calls Tryz.prog 202 #[v] w (GoodP true w) := by
  have H := hide (fun W (hb : Below w.heap.size w W) => attrgood_own X v W (by obtain ⟨A, n, c, B, m, d, e, hP, hC⟩ := hv; exact ⟨A, n, c, B, m, d, e, hP.below sgMono hb, hC.below hb⟩) hN h0 h2 hcm hh hpo hpl hpn hnum)
  obtain ⟨A, n, c, B, m, d, rfl, hP, hC⟩ := hv
  have HB := hide (blkBelow1 w (.cells #[.int .i64 X.has, .int .i64 X.org, .slice A n c, .int .u32 X.hop, .int .u32 X.med, .int .u32 X.pref, .int .u32 X.aas, .int .u32 X.aid, .slice B m d] 28))
  clear hP hC hN hpo hpl hpn hnum hh hcm
  go_enter Tryz.func202, Tryz.ntmps202
  go_wp2_with fail
  refine (H.out _ HB.out).mono ?_
  rintro e w1 ⟨rfl, hb⟩
  have HB1 := hide (HB.out.trans (hb.mono HB.out.size))
  clear hb
  go_wp2
  go_ret
  exact ⟨rfl, HB1.out⟩
set_option maxRecDepth 100000 in
theorem sgIndex1_any (F : FuncId) (cap : Value) (p : SG → Bool) (A : Option Addr) (n c : Nat) (l : List SG) (w : World) (h : LstAt 2 sgR w A n c l) (hF : ∀ (args : Array Value) (W : World), (callFunc F args).run Tryz.prog W = .ok (.enter F args) W)
    (HF : ∀ (b : Int) (B : Option Addr) (m d : Nat) (r : List Nat) (W : World), Below w.heap.size w W → U32s W B m d r → Calls Tryz.prog F #[.agg #[.int .i64 b, .slice B m d], cap] W (GoodP (p ⟨b, r⟩) W)) :
    Calls Tryz.prog 285 #[.slice A n c, .func (.func F) #[] #[cap]] w fun e w' => e = .returned (.int .i64 (idxP p l)) ∧ Below w.heap.size w w' := by
  have hm := h.2.2.1
  have hnc := h.2.1
  unfold maxLen at hm
  have HU := hide h
  have HP := hide HF
  have HE := hide hF
  clear h HF hF
  go_enter Tryz.func285, Tryz.ntmps285
  go_wp2
  go_loopw [8] (fun i wr => ∃ k : Nat, k ≤ n ∧ i = .int .i64 k ∧ (∀ y ∈ l.take k, p y = false) ∧ Below w.heap.size w wr) (fun i _ => n - (intOf i).toNat)
  case atStart => exact ⟨0, Nat.zero_le _, rfl, by simp, Below.refl _ _⟩
  case round =>
    obtain ⟨k, hk, rfl, hno, hb⟩ := hrel
    have HN := hide hno
    have HA := hide (HU.out.below sgMono hb)
    have HB := hide hb
    have hsz := hb.size
    clear hno hb
    by_cases hlt : k < n
    · obtain ⟨g, o, b, B, m, d, r, rfl, hg, hy, hok, c0, c1⟩ := SGat HA.out hlt
      have HO := hide (HP.out b B m d r wr HB.out hok)
      have HY := hide hy
      clear hy
      obtain ⟨q, hq⟩ : ∃ q, p ⟨b, r⟩ = q := ⟨_, rfl⟩
      rw [hq] at HO
      have HQ := hide hq
      clear hq hok
      go_wp2_with fail
      rw [HE.out, Oper.upon_enter]
      refine HO.out.mono ?_
      rintro e w1 ⟨rfl, hb1⟩
      have HB1 := hide (HB.out.trans (hb1.mono hsz))
      clear hb1
      cases q
      · have hn2 := hide (show ∀ y ∈ l.take (k + 1), p y = false by
          intro y hy
          rw [List.take_add_one, HY.out, List.mem_append] at hy
          rcases hy with hy | hy
          · exact HN.out y hy
          · simp at hy; subst hy; exact HQ.out)
        go_wp2
        go_roundw
        case rel => exact ⟨k + 1, by omega, by go_num, hn2.out, HB1.out⟩
        case measure => simp [intOf]; omega
      · have hin := hide (idxP_at p l k _ HN.out HY.out HQ.out)
        go_wp2
        go_ret
        exact ⟨ret_i64 hin.out.symm, HB1.out⟩
    · obtain rfl : k = n := by omega
      have hf := hide (idxP_none p l (fun y hy => HN.out y (by rw [List.take_of_length_le (by rw [HU.out.1]; exact Nat.le_refl _)]; exact hy)))
      go_wp2
      go_ret
      exact ⟨ret_i64 hf.out.symm, HB.out⟩
theorem sgContains1_any (F : FuncId) (cap : Value) (p : SG → Bool) (A : Option Addr) (n c : Nat) (l : List SG) (w : World) (h : LstAt 2 sgR w A n c l) (hF : ∀ (args : Array Value) (W : World), (callFunc F args).run Tryz.prog W = .ok (.enter F args) W)
    (HF : ∀ (b : Int) (B : Option Addr) (m d : Nat) (r : List Nat) (W : World), Below w.heap.size w W → U32s W B m d r → Calls Tryz.prog F #[.agg #[.int .i64 b, .slice B m d], cap] W (GoodP (p ⟨b, r⟩) W)) :
    Calls Tryz.prog 253 #[.slice A n c, .func (.func F) #[] #[cap]] w (GoodP (l.any p) w) := by
  have HI := hide (sgIndex1_any F cap p A n c l w h hF HF)
  have hd := idxP_any p l
  obtain ⟨q, hq⟩ : ∃ q, l.any p = q := ⟨_, rfl⟩
  obtain ⟨i, hi⟩ : ∃ i, idxP p l = i := ⟨_, rfl⟩
  rw [hi] at HI hd
  rw [hq] at hd ⊢
  clear h hF HF hi hq
  go_enter Tryz.func253, Tryz.ntmps253
  go_wp2_with fail
  refine HI.out.mono ?_
  rintro e w1 ⟨rfl, hb⟩
  have HB := hide hb
  clear hb
  go_wp2
  go_ret
  exact ⟨rfl, HB.out⟩
def pathHas (l : List SG) (n : Nat) : Bool := l.any fun s => s.r.contains n
theorem phas1_any (n H : Nat) (b : Int) (B : Option Addr) (m d : Nat) (r : List Nat) (w : World) (hr : U32s w B m d r) (hc : w.cell? ⟨H, 0, none⟩ = some (.int .u32 (n : Int))) (hH : H < w.heap.size) :
    Calls Tryz.prog 254 #[.agg #[.int .i64 b, .slice B m d], .pointer (some ⟨H, 0, none⟩)] w (GoodP (r.contains n) w) := by
  have hb := blkBelow1 w (.cells #[.int .i64 b, .slice B m d] 133)
  have HCn := hide (contains32_any B m d r n _ (hr.below hb))
  have HC := hide ((hb.cell (p := ⟨H, 0, none⟩) hH).trans hc)
  have HB := hide hb
  obtain ⟨q, hq⟩ : ∃ q, r.contains n = q := ⟨_, rfl⟩
  rw [hq] at HCn ⊢
  clear hr hc hb hq
  have hcc := HC.out
  go_enter Tryz.func254, Tryz.ntmps254
  go_wp2_with fail
  refine HCn.out.mono ?_
  rintro e w1 ⟨rfl, rfl⟩
  go_wp2
  go_ret
  exact ⟨rfl, HB.out⟩
theorem pathHas_any (A : Option Addr) (n c : Nat) (l : List SG) (x : Nat) (w : World) (h : LstAt 2 sgR w A n c l) :
    Calls Tryz.prog 205 #[.slice A n c, .int .u32 (x : Int)] w (GoodP (pathHas l x) w) := by
  have hb := blkBelow1 w (.cells #[.int .u32 (x : Int)] 22)
  have HI := hide (sgContains1_any 254 (.pointer (some ⟨w.heap.size, 0, none⟩)) (fun s => s.r.contains x) A n c l _ (h.below sgMono hb) (fun args W => by simp [callFunc, go_sem, Tryz.func254]; rfl) (fun b B m d r W hbW hr => phas1_any x w.heap.size b B m d r W hr ((hbW.cell (p := ⟨w.heap.size, 0, none⟩) (by simp)).trans (by simp)) (Nat.lt_of_lt_of_le (by simp) hbW.size)))
  have HB := hide hb
  obtain ⟨q, hq⟩ : ∃ q, pathHas l x = q := ⟨_, rfl⟩
  have hq' : (l.any fun s => s.r.contains x) = q := hq
  rw [hq'] at HI
  rw [hq]
  clear h hb hq hq'
  go_enter Tryz.func205, Tryz.ntmps205
  go_wp2_with fail
  refine HI.out.mono ?_
  rintro e w1 ⟨rfl, hb1⟩
  have HB1 := hide (HB.out.trans (hb1.mono HB.out.size))
  clear hb1
  go_wp2
  go_ret
  exact ⟨rfl, HB1.out⟩
set_option maxRecDepth 100000 in
set_option maxHeartbeats 4000000 in
theorem attrwell_own (X : AT) (v : Value) (w : World) (hv : AtR w X v) (h1 : attB X.has 1 = true) (h2 : attB X.has 2 = true) (h3 : attB X.has 3 = true) :
    Calls Tryz.prog 203 #[v] w fun e w' => e = .returned (.agg #[.int .i64 0, .int .i64 0, .slice none 0 0]) ∧ Below w.heap.size w w' := by
  obtain ⟨A, n, c, B, m, d, rfl, hP, hC⟩ := hv
  obtain ⟨w1, hw1⟩ : ∃ w1, (w.alloc (.cells #[.int .i64 X.has, .int .i64 X.org, .slice A n c, .int .u32 X.hop, .int .u32 X.med, .int .u32 X.pref, .int .u32 X.aas, .int .u32 X.aid, .slice B m d] 28)).alloc (.cells #[.int .i64 0, .int .i64 0, .slice none 0 0] 266) = w1 := ⟨_, rfl⟩
  have hb1 : Below w.heap.size w w1 := hw1 ▸ blkBelow2 w _ _
  have HK : Hid (Blk w1 w.heap.size 28 #[.int .i64 X.has, .int .i64 X.org, .slice A n c, .int .u32 X.hop, .int .u32 X.med, .int .u32 X.pref, .int .u32 X.aas, .int .u32 X.aid, .slice B m d]) := hide (hw1 ▸ (Blk.new w _ _).alloc _)
  have HZ : Hid (Blk w1 (w.heap.size + 1) 266 #[.int .i64 0, .int .i64 0, .slice none 0 0]) := hide (hw1 ▸ blk_new' _ _ (by simp))
  have HHs : Hid (∀ (k : Nat), 1 ≤ k → k ≤ 3 → ∀ W, Calls Tryz.prog 178 #[.agg #[.int .i64 X.has, .int .i64 X.org, .slice A n c, .int .u32 X.hop, .int .u32 X.med, .int .u32 X.pref, .int .u32 X.aas, .int .u32 X.aid, .slice B m d], .int .i64 (k : Int)] W (GoodP true W)) := hide (fun k hk1 hk3 W => by
    have hk : attB X.has k = true := by
      rcases (show k = 1 ∨ k = 2 ∨ k = 3 by omega) with rfl | rfl | rfl
      · exact h1
      · exact h2
      · exact h3
    have := attrHas_any k (by unfold K8; omega) X.has X.org A n c X.hop X.med X.pref X.aas X.aid B m d W
    rw [hk] at this
    exact this)
  have HB1 := hide hb1
  have HW1 := hide hw1
  clear hw1 hb1 hP hC h1 h2 h3
  go_enter Tryz.func203, Tryz.ntmps203
  go_wp2
  rw [HW1.out]
  go_loopw [3] (fun iv wr => ∃ k : Nat, 1 ≤ k ∧ k ≤ 4 ∧ iv = .int .i64 (k : Nat) ∧ Below w1.heap.size w1 wr) (fun iv _ => 4 - (intOf iv).toNat)
  case atStart => exact ⟨1, Nat.le_refl _, by omega, rfl, Below.refl _ _⟩
  case round =>
    obtain ⟨k, hk1, hk4, rfl, hbel⟩ := hrel
    have HBe := hide hbel
    have hs1 := hbel.size
    by_cases hlt : k ≤ 3
    · have HKr := hide (HK.out.below hbel HK.out.lt)
      have x0 : wr.cell? ⟨w.heap.size, 0, none⟩ = some (.int .i64 X.has) := HKr.out.cell 0
      have x1 : wr.cell? ⟨w.heap.size, 1, none⟩ = some (.int .i64 X.org) := HKr.out.cell 1
      have x2 : wr.cell? ⟨w.heap.size, 2, none⟩ = some (.slice A n c) := HKr.out.cell 2
      have x3 : wr.cell? ⟨w.heap.size, 3, none⟩ = some (.int .u32 X.hop) := HKr.out.cell 3
      have x4 : wr.cell? ⟨w.heap.size, 4, none⟩ = some (.int .u32 X.med) := HKr.out.cell 4
      have x5 : wr.cell? ⟨w.heap.size, 5, none⟩ = some (.int .u32 X.pref) := HKr.out.cell 5
      have x6 : wr.cell? ⟨w.heap.size, 6, none⟩ = some (.int .u32 X.aas) := HKr.out.cell 6
      have x7 : wr.cell? ⟨w.heap.size, 7, none⟩ = some (.int .u32 X.aid) := HKr.out.cell 7
      have x8 : wr.cell? ⟨w.heap.size, 8, none⟩ = some (.slice B m d) := HKr.out.cell 8
      have HHk := hide (fun W => HHs.out k hk1 hlt W)
      have e1 : decide ((k : Int) ≤ 3) = true := decide_eq_true (by omega)
      have hwq : IntKind.i64.wrap ((k : Int) + 1) = (k : Int) + 1 := by rw [IntKind.wrap_i64]; omega
      clear hbel
      go_wp2_with fail
      refine (HHk.out _).mono ?_
      rintro e w3 ⟨rfl, hb3⟩
      have HB3 := hide (HBe.out.trans (hb3.mono hs1))
      clear hb3 x0 x1 x2 x3 x4 x5 x6 x7 x8
      go_wp2
      go_roundw
      case rel => exact ⟨k + 1, by omega, by omega, by go_num, HB3.out⟩
      case measure => simp [intOf]; omega
    · have HZr := hide (HZ.out.below hbel HZ.out.lt)
      have z0 : wr.cell? ⟨w.heap.size + 1, 0, none⟩ = some (.int .i64 0) := HZr.out.cell 0
      have z1 : wr.cell? ⟨w.heap.size + 1, 1, none⟩ = some (.int .i64 0) := HZr.out.cell 1
      have z2 : wr.cell? ⟨w.heap.size + 1, 2, none⟩ = some (.slice none 0 0) := HZr.out.cell 2
      have zf := fun i => HZr.out.frozen i
      have e1 : decide ((k : Int) ≤ 3) = false := decide_eq_false (by omega)
      clear hbel
      go_wp2
      change bodyPost _ _ _ _ _ (wr.setCells (w.heap.size + 1) 0 [.int .i64 0, .int .i64 0, .slice none 0 0])
      obtain ⟨wF, hwF⟩ : ∃ x, wr.setCells (w.heap.size + 1) 0 [.int .i64 0, .int .i64 0, .slice none 0 0] = x := ⟨_, rfl⟩
      have HFk := hide (hwF ▸ blk_sets [.int .i64 0, .int .i64 0, .slice none 0 0] [] [.int .i64 0, .int .i64 0, .slice none 0 0] HZr.out rfl : Blk wF (w.heap.size + 1) 266 #[.int .i64 0, .int .i64 0, .slice none 0 0])
      have HFb : Hid (Below w.heap.size w wF) := hide (hwF ▸ below_clear (Nat.le_succ _) _ _ (HB1.out.trans (HBe.out.mono HB1.out.size)))
      rw [hwF]
      clear hwF z0 z1 z2 zf
      have y0 : wF.cell? ⟨w.heap.size + 1, 0, none⟩ = some (.int .i64 0) := HFk.out.cell 0
      have y1 : wF.cell? ⟨w.heap.size + 1, 1, none⟩ = some (.int .i64 0) := HFk.out.cell 1
      have y2 : wF.cell? ⟨w.heap.size + 1, 2, none⟩ = some (.slice none 0 0) := HFk.out.cell 2
      refine bodyPost_ret (v := .agg #[.int .i64 0, .int .i64 0, .slice none 0 0]) (by simp [results, Tryz.results203, go_sem, y0, y1, y2]) rfl ⟨rfl, HFb.out⟩
end Go.Proofs.YtcinjckajnnhmaaGreat
