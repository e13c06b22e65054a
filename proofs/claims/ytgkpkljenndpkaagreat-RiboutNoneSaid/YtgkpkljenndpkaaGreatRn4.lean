import Derived.Test.YtgkpkljenndpkaaGreatRn3
import Derived.WalkKit
import Derived.ProofKit
import Derived.OpenShut
import Derived.Below
import Derived.Laws.OwnMore
import Derived.Laws.Rows
import Derived.Laws.MakeOwn
import Derived.Deep.AppendLies
import Derived.Deep.Draws
import Derived.Deep.OwnRows
import Derived.Deep.QuietTactic
import Derived.Maps.AppendAt
import Derived.RegionTactic
import Derived.OwnWalk
import Derived.ChangeSame
import Derived.Outline
import Derived.BigQuiet
import Derived.WalkMore
import Derived.ScopeJumps
import Derived.WalkLawsBesides
import Derived.WalkSpells
import Derived.Laws.BitsLemmas
import Derived.Laws.BitsAllLaws
import Derived.WideKeyArgs
import Derived.Deep.DeepHandedRow
import Derived.Deep.DeepWitnessRowRef
import Derived.Lib.LaidTab
import Derived.Lib.AppendIntMem
import Derived.LaidMore
import Derived.MakeChecks
import Derived.Lib.Itoa
import Derived.Lib.ItoaMem
import Derived.Deep.Quiet
import Derived.Deep.Slices
import Derived.BigRegion
import Derived.Orders
import Derived.OrdersIn
import Derived.RangeFuncCalls
import Derived.Shelf.RegionOpen
import Derived.StillTailTactics
import Derived.Lib.PathFns
import Derived.Lib.IndexBytes
import Derived.RangeFuncWrites
import Derived.RangeFuncNested
import Derived.RangeFuncBound
import Derived.RangeFuncLeaves
import Derived.RangeFuncBox
import Derived.Shelf.Abstract
import Derived.OwnWalkIn
import Derived.TacticsInMore
import Derived.LoopNIn
import Derived.LoopIn
import Derived.Lib.SmallJoins
import Derived.Lib.ParseIntBCases
import Derived.Lib.IndexMore
import Derived.Shelf.Vars
import Derived.Lib.AtoiAllCases
import Derived.SliceStrings
import Derived.Deep.RegionLaw
import Derived.Sort.LotA
import Derived.BigRegionIn
import Derived.Deep.RegionHeld3
import Derived.RangeFuncOwn
import Derived.Sort.WalkA6
import Derived.Sort.WalkB3
import Derived.Sort.WalkC4
import Derived.Sort.WalkA14
import Derived.Sort.Walk11
import Derived.Sort.Walk7
import Derived.Sort.Walk13
import Derived.Sort.Row
import Derived.Lib.Walk
import Derived.Lib.Strings
import Derived.BigGuard
import Derived.BigCall
import Derived.CellFam
import Derived.Deep.LoopGhost
import Derived.Sort.LotC
import Derived.Deep.RegionWith
import Derived.RowKit
import Derived.Sort.LotD3
import Derived.Sort.LotD4
import Derived.Sort.Grow
import Derived.Sort.AtCall
import Derived.Sort.LotD5
import Derived.Laws.Bits64
import Derived.Laws.Bits64b
import Derived.Sort.EncStr
import Derived.Sort.LotD1
import Derived.Sort.LotB
import Derived.Deep.Cut
import Derived.Sort.Walk13a
import Derived.Sort.AssemblyPlain
import Derived.Shelf.Spec.SlicesInsertGrow
import Derived.Deep.MidRow
import Derived.Lib.RowBridge
import Derived.Laws.CopyOwn
import Derived.Lib.AppendZerosOnto
import Derived.Deep.DeepCutAuto
import Derived.Lib.Bytealg
import Derived.Shelf.Strings.SplitShaped
import Derived.Shelf.Strings.Prefix
import Derived.Shelf.Small.Strs
set_option linter.unusedSimpArgs false
set_option linter.unusedVariables false
namespace Go.Proofs.YtgkpkljenndpkaaGreat
open Go.RowKit Go.WideShapes Go.ChangeShapes
attribute [local go_sem] Oper.semAt_some
def cutA (x : AT) : AT := ⟨x.has, x.org, cutP x.path, x.hop, x.med, x.pref, x.aas, x.aid, x.comms.take 260⟩
abbrev bxC (X : AT) (x2 x8 : Value) : Array Value := #[.int .i64 X.has, .int .i64 X.org, x2, .int .u32 X.hop, .int .u32 X.med, .int .u32 X.pref, .int .u32 X.aas, .int .u32 X.aid, x8]
def SlA (b : Nat) (P : List SG) (v : Value) (W : World) : Prop := ∃ A n c xs, v = .slice A n c ∧ LOw 2 64 sgR W b b A n c P xs
def SlB (b : Nat) (C : List Nat) (v : Value) (W : World) : Prop := ∃ B m d, v = .slice B m d ∧ FrB b none (fun w => U32s w B m d C) W
def BxA (H : Nat) (X : AT) (W : World) : Prop := ∃ x2 x8, Blk W H 54 (bxC X x2 x8) ∧ Blk W (H + 1) 54 zeroC
def StA (H b : Nat) (X : AT) (P : List SG) (W : World) : Prop := ∃ x2 x8, Blk W H 54 (bxC X x2 x8) ∧ Blk W (H + 1) 54 zeroC ∧ SlA b P x2 W
def StB (H b : Nat) (X : AT) (C : List Nat) (W : World) : Prop := ∃ x2 x8, Blk W H 54 (bxC X x2 x8) ∧ Blk W (H + 1) 54 zeroC ∧ SlB b C x8 W
section
variable {H b i : Nat} {X : AT} {P : List SG} {C : List Nat} {v u : Value} {W W' : World}
theorem SlA.below (h : SlA b P v W) (hb : Below W.heap.size W W') : SlA b P v W' := by
  obtain ⟨A, n, c, xs, e, hl⟩ := h
  exact ⟨A, n, c, xs, e, hl.below hb⟩
theorem SlB.below (h : SlB b C v W) (hb : Below W.heap.size W W') : SlB b C v W' := by
  obtain ⟨A, n, c, e, hl⟩ := h
  exact ⟨A, n, c, e, hl.below hb⟩
theorem SlA.setv (h : SlA b P v W) (hH : H < b) : SlA b P v (W.setCell ⟨H, i, none⟩ u) := by
  obtain ⟨A, n, c, xs, e, hl⟩ := h
  exact ⟨A, n, c, xs, e, hl.set hH hH u⟩
theorem SlB.setv (h : SlB b C v W) (hH : H < b) : SlB b C v (W.setCell ⟨H, i, none⟩ u) := by
  obtain ⟨A, n, c, e, hl⟩ := h
  exact ⟨A, n, c, e, hl.set (p := ⟨H, i, none⟩) hH u⟩
theorem BxA.lt_ (h : BxA H X W) : H < W.heap.size := by
  obtain ⟨x2, x8, h, _⟩ := h
  exact h.lt
theorem blk_up {t : TypeId} {cs : Array Value} (h : Blk W (H + 1) t cs) : Blk (W.setCell ⟨H, i, none⟩ u) (H + 1) t cs := h.far (p := ⟨H, i, none⟩) (by show H + 1 ≠ H; omega) u
theorem BxA.below (h : BxA H X W) (hb : Below W.heap.size W W') : BxA H X W' := by
  obtain ⟨x2, x8, h, hz⟩ := h
  exact ⟨x2, x8, h.below hb h.lt, hz.below hb hz.lt⟩
theorem BxA.set2 (h : BxA H X W) (u : Value) : BxA H X (W.setCell ⟨H, 2, none⟩ u) := by
  obtain ⟨x2, x8, h, hz⟩ := h
  exact ⟨u, x8, h.set_ 2 u, blk_up hz⟩
theorem BxA.set8 (h : BxA H X W) (u : Value) : BxA H X (W.setCell ⟨H, 8, none⟩ u) := by
  obtain ⟨x2, x8, h, hz⟩ := h
  exact ⟨x2, u, h.set_ 8 u, blk_up hz⟩
theorem StA.below (h : StA H b X P W) (hb : Below W.heap.size W W') : StA H b X P W' := by
  obtain ⟨x2, x8, h, hz, hs⟩ := h
  exact ⟨x2, x8, h.below hb h.lt, hz.below hb hz.lt, hs.below hb⟩
theorem StB.below (h : StB H b X C W) (hb : Below W.heap.size W W') : StB H b X C W' := by
  obtain ⟨x2, x8, h, hz, hs⟩ := h
  exact ⟨x2, x8, h.below hb h.lt, hz.below hb hz.lt, hs.below hb⟩
theorem StA.set8 (h : StA H b X P W) (hH : H < b) : StA H b X P (W.setCell ⟨H, 8, none⟩ u) := by
  obtain ⟨x2, x8, h, hz, hs⟩ := h
  exact ⟨x2, u, h.set_ 8 u, blk_up hz, hs.setv hH⟩
theorem StB.set2 (h : StB H b X C W) (hH : H < b) : StB H b X C (W.setCell ⟨H, 2, none⟩ u) := by
  obtain ⟨x2, x8, h, hz, hs⟩ := h
  exact ⟨u, x8, h.set_ 2 u, blk_up hz, hs.setv hH⟩
theorem st_both (h : StA H b X P W) (h' : StB H b X C W) : ∃ A n c xs B m d, Blk W H 54 (bxC X (.slice A n c) (.slice B m d)) ∧ Blk W (H + 1) 54 zeroC ∧ LOw 2 64 sgR W b b A n c P xs ∧ FrB b none (fun w => U32s w B m d C) W := by
  obtain ⟨x2, x8, h1, hz, A, n, c, xs, rfl, hl⟩ := h
  obtain ⟨y2, y8, h2, _, B, m, d, rfl, hu⟩ := h'
  have e := (h1.cell 8).symm.trans (h2.cell 8)
  simp only [List.getElem?_toArray, List.getElem?_cons_succ, List.getElem?_cons_zero, Option.some.injEq] at e
  subst e
  exact ⟨A, n, c, xs, B, m, d, h1, hz, hl, hu⟩
theorem cell_set_ne {j : Nat} (hne : i ≠ j) : (W.setCell ⟨H, i, none⟩ u).cell? ⟨H, j, none⟩ = W.cell? ⟨H, j, none⟩ := by
  refine World.cell?_setCell_other _ _ _ _ ?_
  intro e
  cases e
  exact hne rfl
/-- One cell of a box stored. -/
theorem st1A {tc : TypeId} {f n c : Nat} {A : Option Addr} {cs : Array Value} (h : Blk W H tc cs) (hf : cs[f]?.isSome = true) :
    (Instr.storeAt 52 (.pointer (some ⟨H, f, none⟩)) (.slice A n c)).run Tryz.prog W = .ok () (W.setCell ⟨H, f, none⟩ (.slice A n c)) := by
  have hc := h.cell f
  have hz := h.frozen f
  obtain ⟨x, hx⟩ := Option.isSome_iff_exists.1 hf
  rw [hx] at hc
  simp [go_sem, hc, hz]
theorem st1B {tc : TypeId} {f n c : Nat} {A : Option Addr} {cs : Array Value} (h : Blk W H tc cs) (hf : cs[f]?.isSome = true) :
    (Instr.storeAt 35 (.pointer (some ⟨H, f, none⟩)) (.slice A n c)).run Tryz.prog W = .ok () (W.setCell ⟨H, f, none⟩ (.slice A n c)) := by
  have hc := h.cell f
  have hz := h.frozen f
  obtain ⟨x, hx⟩ := Option.isSome_iff_exists.1 hf
  rw [hx] at hc
  simp [go_sem, hc, hz]
end
set_option maxRecDepth 100000 in
set_option maxHeartbeats 8000000 in
theorem attrsFew_any (X : AT) (v : Value) (w : World) (hv : AtR w X v) : Calls Tryz.prog 118 #[v] w (AtP (cutA X) w) := by
  obtain ⟨A, n, c, Bb, m, d, rfl, hP, hC⟩ := hv
  obtain ⟨w1, hw1⟩ : ∃ w1, ((w.alloc (.cells (bxC X (.slice A n c) (.slice Bb m d)) 54)).alloc (.cells zeroC 54)) = w1 := ⟨_, rfl⟩
  have hb1 : Below w.heap.size w w1 := hw1 ▸ ((Below.refl _ w).alloc (Nat.le_refl _) _).alloc (by simp) _
  have HKb : Hid (Blk w1 w.heap.size 54 (bxC X (.slice A n c) (.slice Bb m d))) := hide (hw1 ▸ (Blk.new w _ _).alloc _)
  have HKz : Hid (Blk w1 (w.heap.size + 1) 54 zeroC) := hide (hw1 ▸ blk_new' _ _ (by simp))
  have HLt : Hid (w.heap.size < w1.heap.size) := hide HKb.out.lt
  have HP := hide hP
  have HC := hide hC
  have HB1 := hide hb1
  have HW1 := hide hw1
  obtain ⟨PN, hPN⟩ : ∃ P, cutP X.path = P := ⟨_, rfl⟩
  obtain ⟨CN, hCN⟩ : ∃ C, X.comms.take 260 = C := ⟨_, rfl⟩
  have HCNb : Hid (∀ y ∈ CN, y < 4294967296) := hide (fun y hy => by rw [← hCN] at hy; exact hC.2.2.2.1 y (List.mem_of_mem_take hy))
  have HPN := hide hPN
  have HCN := hide hCN
  have HX : Hid (cutA X = ⟨X.has, X.org, PN, X.hop, X.med, X.pref, X.aas, X.aid, CN⟩) := hide (by unfold cutA; rw [hPN, hCN])
  clear hw1 hb1 hP hC hPN hCN
  go_enter Tryz.func118, Tryz.ntmps118
  go_upto_region 1 with fail
  rw [HW1.out]
  refine wp_region_relH 10 w.heap.size (Nat.le_of_lt HLt.out) [(fun v _ => v = .pointer (some ⟨w.heap.size, 2, none⟩)), (fun v _ => v = .slice A n c), (SlA w1.heap.size PN), (fun v _ => v = .pointer (some ⟨w.heap.size, 8, none⟩)), (fun v _ => v = .slice Bb m d), (SlB w1.heap.size CN), (fun v _ => v = .pointer (some ⟨w.heap.size, 2, none⟩)), (fun _ W => StA w.heap.size w1.heap.size X PN W ), (fun v _ => v = .pointer (some ⟨w.heap.size, 8, none⟩)), (fun _ W => StB w.heap.size w1.heap.size X CN W )] (fun i W => BxA w.heap.size X W ∧ (i = 1 → W.cell? ⟨w.heap.size, 2, none⟩ = some (.slice A n c)) ∧ (i = 4 → W.cell? ⟨w.heap.size, 8, none⟩ = some (.slice Bb m d))) (fun i Wa Wb => if i = 7 then ∃ v, Wb = Wa.setCell ⟨w.heap.size, 2, none⟩ v else if i = 9 then ∃ v, Wb = Wa.setCell ⟨w.heap.size, 8, none⟩ v else Below Wa.heap.size Wa Wb) (by kernel_rfl) (by kernel_rfl) (by kernel_rfl) (by kernel_rfl) (by kernel_rfl) ?hE ?hR ?hP ?h0 ⟨?_, ?_, ?_, ?_, ?_, ?_, ?_, ?_, ?_, ?_, trivial⟩ ?_
  case hE =>
    intro i2 wa wb hB he
    split at he
    · obtain ⟨u, rfl⟩ := he
      exact (Below.refl w.heap.size wa).setCell (p := ⟨w.heap.size, 2, none⟩) (Nat.le_refl _) u
    · split at he
      · obtain ⟨u, rfl⟩ := he
        exact (Below.refl w.heap.size wa).setCell (p := ⟨w.heap.size, 8, none⟩) (Nat.le_refl _) u
      · exact he.mono hB
  case hR =>
    intro i2 j2 v2 wa wb hij hB he h
    split at he
    · rename_i hj2
      subst hj2
      refine keepAll_at (E := fun wa wb => ∃ v, wb = wa.setCell ⟨w.heap.size, 2, none⟩ v) (x := 7) (k := 0) ?_ (by omega) he h
      exact ⟨fun _ v wa wb he h => h, fun _ v wa wb he h => h, fun _ v wa wb he h => by obtain ⟨u, rfl⟩ := he; exact SlA.setv h HLt.out, fun _ v wa wb he h => h, fun _ v wa wb he h => h, fun _ v wa wb he h => by obtain ⟨u, rfl⟩ := he; exact SlB.setv h HLt.out, fun _ v wa wb he h => h, fun hn => absurd rfl hn, fun _ v wa wb he h => h, fun _ v wa wb he h => by obtain ⟨u, rfl⟩ := he; exact StB.set2 h HLt.out, trivial⟩
    · split at he
      · rename_i hj2
        subst hj2
        refine keepAll_at (E := fun wa wb => ∃ v, wb = wa.setCell ⟨w.heap.size, 8, none⟩ v) (x := 9) (k := 0) ?_ (by omega) he h
        exact ⟨fun _ v wa wb he h => h, fun _ v wa wb he h => h, fun _ v wa wb he h => by obtain ⟨u, rfl⟩ := he; exact SlA.setv h HLt.out, fun _ v wa wb he h => h, fun _ v wa wb he h => h, fun _ v wa wb he h => by obtain ⟨u, rfl⟩ := he; exact SlB.setv h HLt.out, fun _ v wa wb he h => h, fun _ v wa wb he h => by obtain ⟨u, rfl⟩ := he; exact StA.set8 h HLt.out, fun _ v wa wb he h => h, fun hn => absurd rfl hn, trivial⟩
      · refine relMono _ ?_ i2 v2 wa wb he h
        exact ⟨fun _ _ _ _ h => h, fun _ _ _ _ h => h, fun v w2 w3 hb h => SlA.below h hb, fun _ _ _ _ h => h, fun _ _ _ _ h => h, fun v w2 w3 hb h => SlB.below h hb, fun _ _ _ _ h => h, fun v w1 w2 hb h => StA.below h hb, fun _ _ _ _ h => h, fun v w1 w2 hb h => StB.below h hb, trivial⟩
  case hP =>
    intro i2 j2 wa wb hij hnb hB he h
    split at he
    · rename_i hj2
      subst hj2
      obtain ⟨u, rfl⟩ := he
      refine ⟨h.1.set2 u, fun e => ?_, fun e => (cell_set_ne (by decide)).trans (h.2.2 e)⟩
      subst e
      exact absurd hnb (by decide +kernel)
    · split at he
      · rename_i hj2
        subst hj2
        obtain ⟨u, rfl⟩ := he
        refine ⟨h.1.set8 u, fun e => (cell_set_ne (by decide)).trans (h.2.1 e), fun e => ?_⟩
        subst e
        exact absurd hnb (by decide +kernel)
      · exact ⟨h.1.below he, fun e => (he.cell h.1.lt_).trans (h.2.1 e), fun e => (he.cell h.1.lt_).trans (h.2.2 e)⟩
  case h0 =>
    intro j2 hj2
    exact ⟨⟨_, _, HKb.out.drew, HKz.out.drew⟩, fun _ => HKb.out.cell 2, fun _ => HKb.out.cell 8⟩
  · refine relG_plain rfl rfl (fun _ _ h => h) ?_
    intro Ac w5 hp
    have hb := hp.bel
    have a1 : Ac.eval (.tmp 1) = .pointer (some ⟨w.heap.size, 0, none⟩) := hp.out 1 (by rfl)
    have hc := evalC Ac; have hf := evalF Ac; have hgl := evalG Ac
    obtain ⟨ρ, hρ⟩ : ∃ ρ, Ac.eval = ρ := ⟨_, rfl⟩
    rw [hρ] at a1 hc hf hgl
    exact relPure hρ (.pointer (some ⟨w.heap.size, 2, none⟩)) (by simp [go_sem, hc, hf, hgl, ↓IntWalk.iteOmega, a1, *]) rfl
  · refine relG_plain rfl rfl (fun _ _ h => h) ?_
    intro Ac w5 hp
    have hb := hp.bel
    have a3 : Ac.eval (.tmp 3) = .pointer (some ⟨w.heap.size, 2, none⟩) := hp.dep 0 (by kernel_rfl)
    have z2 := hp.pre.2.1 rfl
    have hc := evalC Ac; have hf := evalF Ac; have hgl := evalG Ac
    obtain ⟨ρ, hρ⟩ : ∃ ρ, Ac.eval = ρ := ⟨_, rfl⟩
    rw [hρ] at a3 hc hf hgl
    exact relPure hρ (.slice A n c) (by simp [go_sem, hc, hf, hgl, ↓IntWalk.iteOmega, a3, *]) rfl
  · refine relG_plain rfl rfl (fun _ _ h => h) ?_
    intro Ac w5 hp
    have hb := hp.bel
    have a4 : Ac.eval (.tmp 4) = .slice A n c := hp.dep 1 (by kernel_rfl)
    have hc := evalC Ac; have hf := evalF Ac; have hgl := evalG Ac
    obtain ⟨ρ, hρ⟩ : ∃ ρ, Ac.eval = ρ := ⟨_, rfl⟩
    rw [hρ] at a4 hc hf hgl
    refine relCall hρ 211 #[.slice A n c] (by simp [go_sem, hc, hf, hgl, ↓IntWalk.iteOmega, a4, *]) ?_
    refine (pathFew_any A n c X.path w5 (HP.out.below sgMono (HB1.out.trans hp.bel))).mono ?_
    intro e w6 hmv
    unfold SegP at hmv
    obtain ⟨A6, n6, c6, xs6, rfl, hl6, hb6⟩ := hmv
    rw [HPN.out] at hl6
    exact ⟨_, rfl, ⟨A6, n6, c6, xs6, rfl, hl6.less hp.bel.size hp.bel.size⟩, hb6⟩
  · refine relG_plain rfl rfl (fun _ _ h => h) ?_
    intro Ac w5 hp
    have hb := hp.bel
    have a1 : Ac.eval (.tmp 1) = .pointer (some ⟨w.heap.size, 0, none⟩) := hp.out 1 (by rfl)
    have hc := evalC Ac; have hf := evalF Ac; have hgl := evalG Ac
    obtain ⟨ρ, hρ⟩ : ∃ ρ, Ac.eval = ρ := ⟨_, rfl⟩
    rw [hρ] at a1 hc hf hgl
    exact relPure hρ (.pointer (some ⟨w.heap.size, 8, none⟩)) (by simp [go_sem, hc, hf, hgl, ↓IntWalk.iteOmega, a1, *]) rfl
  · refine relG_plain rfl rfl (fun _ _ h => h) ?_
    intro Ac w5 hp
    have hb := hp.bel
    have a6 : Ac.eval (.tmp 6) = .pointer (some ⟨w.heap.size, 8, none⟩) := hp.dep 3 (by kernel_rfl)
    have z8 := hp.pre.2.2 rfl
    have hc := evalC Ac; have hf := evalF Ac; have hgl := evalG Ac
    obtain ⟨ρ, hρ⟩ : ∃ ρ, Ac.eval = ρ := ⟨_, rfl⟩
    rw [hρ] at a6 hc hf hgl
    exact relPure hρ (.slice Bb m d) (by simp [go_sem, hc, hf, hgl, ↓IntWalk.iteOmega, a6, *]) rfl
  · refine relG_plain rfl rfl (fun _ _ h => h) ?_
    intro Ac w5 hp
    have hb := hp.bel
    have a7 : Ac.eval (.tmp 7) = .slice Bb m d := hp.dep 4 (by kernel_rfl)
    have hc := evalC Ac; have hf := evalF Ac; have hgl := evalG Ac
    obtain ⟨ρ, hρ⟩ : ∃ ρ, Ac.eval = ρ := ⟨_, rfl⟩
    rw [hρ] at a7 hc hf hgl
    refine relCall hρ 80 #[.slice Bb m d, .int .i64 (260 : Nat)] (by simp [go_sem, hc, hf, hgl, ↓IntWalk.iteOmega, a7, *]) ?_
    refine (few_any Bb m d X.comms 260 (by decide) w5 (HC.out.below (HB1.out.trans hp.bel))).mono ?_
    rintro e w6 ⟨v6, rfl, ho6, hb6⟩
    rw [HCN.out] at ho6
    obtain ⟨A6, c6, rfl⟩ := own_slice ho6
    exact ⟨_, rfl, ⟨A6, _, c6, rfl, own_u32_fr ho6 HCNb.out hp.bel.size (fun k hk => by cases hk)⟩, hb6⟩
  · refine relG_plain rfl rfl (fun _ _ h => h) ?_
    intro Ac w5 hp
    have hb := hp.bel
    have a1 : Ac.eval (.tmp 1) = .pointer (some ⟨w.heap.size, 0, none⟩) := hp.out 1 (by rfl)
    have hc := evalC Ac; have hf := evalF Ac; have hgl := evalG Ac
    obtain ⟨ρ, hρ⟩ : ∃ ρ, Ac.eval = ρ := ⟨_, rfl⟩
    rw [hρ] at a1 hc hf hgl
    exact relPure hρ (.pointer (some ⟨w.heap.size, 2, none⟩)) (by simp [go_sem, hc, hf, hgl, ↓IntWalk.iteOmega, a1, *]) rfl
  · refine relG_store rfl ?_
    intro Ac w5 hp
    have hb := hp.bel
    have a9 : Ac.eval (.tmp 9) = .pointer (some ⟨w.heap.size, 2, none⟩) := hp.dep 6 (by kernel_rfl)
    obtain ⟨A5, n5, c5, xs5, a5, hl5⟩ := hp.dep 2 (by kernel_rfl)
    change Ac.eval (.tmp 5) = _ at a5
    have a9 : Ac.eval (.tmp 9) = .pointer (some ⟨w.heap.size, 2, none⟩) := hp.dep 6 (by kernel_rfl)
    obtain ⟨A5, n5, c5, xs5, ec, hl5⟩ := hp.dep 2 (by kernel_rfl)
    change Ac.eval (.tmp 5) = _ at ec
    obtain ⟨x2, x8, hk, hz⟩ := hp.pre.1
    have HK := hide hk
    have HZ := hide (hz.far (p := ⟨w.heap.size, 2, none⟩) (by show w.heap.size + 1 ≠ w.heap.size; omega) (.slice A5 n5 c5))
    have HL := hide hl5
    clear hp
    refine ⟨w5.setCell ⟨w.heap.size, 2, none⟩ (.slice A5 n5 c5), .inl (exec_store rfl a9 ec (st1A HK.out rfl)), ?_, ⟨_, rfl⟩⟩
    exact ⟨_, x8, HK.out.set_ 2 _, HZ.out, ⟨A5, n5, c5, xs5, rfl, HL.out.set HLt.out HLt.out _⟩⟩
  · refine relG_plain rfl rfl (fun _ _ h => h) ?_
    intro Ac w5 hp
    have hb := hp.bel
    have a1 : Ac.eval (.tmp 1) = .pointer (some ⟨w.heap.size, 0, none⟩) := hp.out 1 (by rfl)
    have hc := evalC Ac; have hf := evalF Ac; have hgl := evalG Ac
    obtain ⟨ρ, hρ⟩ : ∃ ρ, Ac.eval = ρ := ⟨_, rfl⟩
    rw [hρ] at a1 hc hf hgl
    exact relPure hρ (.pointer (some ⟨w.heap.size, 8, none⟩)) (by simp [go_sem, hc, hf, hgl, ↓IntWalk.iteOmega, a1, *]) rfl
  · refine relG_store rfl ?_
    intro Ac w5 hp
    have hb := hp.bel
    have a10 : Ac.eval (.tmp 10) = .pointer (some ⟨w.heap.size, 8, none⟩) := hp.dep 8 (by kernel_rfl)
    obtain ⟨A8, n8, c8, a8, hu8⟩ := hp.dep 5 (by kernel_rfl)
    change Ac.eval (.tmp 8) = _ at a8
    have a10 : Ac.eval (.tmp 10) = .pointer (some ⟨w.heap.size, 8, none⟩) := hp.dep 8 (by kernel_rfl)
    obtain ⟨A8, n8, c8, ec, hu8⟩ := hp.dep 5 (by kernel_rfl)
    change Ac.eval (.tmp 8) = _ at ec
    obtain ⟨x2, x8, hk, hz⟩ := hp.pre.1
    have HK := hide hk
    have HZ := hide (hz.far (p := ⟨w.heap.size, 8, none⟩) (by show w.heap.size + 1 ≠ w.heap.size; omega) (.slice A8 n8 c8))
    have HL := hide hu8
    clear hp
    refine ⟨w5.setCell ⟨w.heap.size, 8, none⟩ (.slice A8 n8 c8), .inl (exec_store rfl a10 ec (st1B HK.out rfl)), ?_, ⟨_, rfl⟩⟩
    exact ⟨x2, _, HK.out.set_ 8 _, HZ.out, ⟨A8, n8, c8, rfl, HL.out.set (p := ⟨w.heap.size, 8, none⟩) HLt.out _⟩⟩
  intro u w7 hb7 hall
  have efin : StA w.heap.size w1.heap.size X PN w7  := relAll_at hall (i := 7) (by decide +kernel)
  have efin1 : StB w.heap.size w1.heap.size X CN w7  := relAll_at hall (i := 9) (by decide +kernel)
  clear hall
  simp only [List.drop_succ_cons, List.drop_zero, List.take_succ_cons, List.take_zero, putAll, Act.put, List.setIfInBounds_toArray, List.set_cons_zero, List.set_cons_succ, Nat.zero_add, Nat.reduceAdd, ]
  obtain ⟨A8, n8, c8, xs8, B8, m8, d8, hk, hz, hl, hu⟩ := st_both efin efin1
  have HK := hide hk
  have HZ := hide hz
  have HB7 := hide (HB1.out.trans hb7)
  have HO := hide (show AtO w1.heap.size w7 ⟨X.has, X.org, PN, X.hop, X.med, X.pref, X.aas, X.aid, CN⟩ (atV X.has X.org A8 n8 c8 X.hop X.med X.pref X.aas X.aid B8 m8 d8) from ⟨A8, n8, c8, xs8, B8, m8, d8, rfl, hl, hu⟩)
  rw [← HX.out] at HO
  have hlt : w.heap.size + 1 < w1.heap.size := HKz.out.lt
  clear efin efin1 hk hz hl hu hb7
  obtain ⟨a0, a1, a2, a3, a4, a5, a6, a7, a8⟩ := blk9 HK.out
  obtain ⟨z0, z1, z2, z3, z4, z5, z6, z7, z8⟩ := blk9 HZ.out
  have zf := fun i => HZ.out.frozen i
  go_wp2
  change bodyPost _ _ _ _ _ (w7.setCells (w.heap.size + 1) 0 [.int .i64 X.has, .int .i64 X.org, .slice A8 n8 c8, .int .u32 X.hop, .int .u32 X.med, .int .u32 X.pref, .int .u32 X.aas, .int .u32 X.aid, .slice B8 m8 d8])
  obtain ⟨wF, hwF⟩ : ∃ x, w7.setCells (w.heap.size + 1) 0 [.int .i64 X.has, .int .i64 X.org, .slice A8 n8 c8, .int .u32 X.hop, .int .u32 X.med, .int .u32 X.pref, .int .u32 X.aas, .int .u32 X.aid, .slice B8 m8 d8] = x := ⟨_, rfl⟩
  have HFk := hide (hwF ▸ blk9_set HZ.out : Blk wF (w.heap.size + 1) 54 (atC X.has X.org A8 n8 c8 X.hop X.med X.pref X.aas X.aid B8 m8 d8))
  have HFo := hide (hwF ▸ AtO.sets _ 0 HO.out hlt : AtO w1.heap.size wF (cutA X) (atV X.has X.org A8 n8 c8 X.hop X.med X.pref X.aas X.aid B8 m8 d8))
  have HFb := hide (hwF ▸ below_sets _ 0 HB7.out (by omega) : Below w.heap.size w wF)
  rw [hwF]
  clear hwF z0 z1 z2 z3 z4 z5 z6 z7 z8 zf a0 a1 a2 a3 a4 a5 a6 a7 a8
  obtain ⟨z0, z1, z2, z3, z4, z5, z6, z7, z8⟩ := blk9 HFk.out
  exact bodyPost_ret (v := atV X.has X.org A8 n8 c8 X.hop X.med X.pref X.aas X.aid B8 m8 d8) (by simp [results, Tryz.results118, go_sem, z0, z1, z2, z3, z4, z5, z6, z7, z8]) rfl ⟨_, rfl, HFo.out.less (b' := w.heap.size) (by omega), HFb.out⟩
end Go.Proofs.YtgkpkljenndpkaaGreat
set_option linter.unusedSimpArgs false
set_option linter.unusedVariables false
namespace Go.Proofs.YtgkpkljenndpkaaGreat
open Go.RowKit Go.WideShapes Go.ChangeShapes
theorem putS_cases (q : List SG) (n : Nat) : putS q n = q ++ [⟨2, [n]⟩] ∨ ∃ q' r, q = q' ++ [⟨2, r⟩] ∧ putS q n = q' ++ [⟨2, r ++ [n]⟩] := by
  unfold putS
  cases h : q.getLast? with
  | none =>
    rw [List.getLast?_eq_none_iff] at h
    subst h
    exact .inl rfl
  | some x =>
    simp only
    split
    · right
      rename_i hx
      obtain ⟨k, r⟩ := x
      obtain ⟨rfl, _⟩ := hx
      obtain ⟨ys, hy⟩ := List.getLast?_eq_some_iff.1 h
      refine ⟨ys, r, hy, ?_⟩
      rw [hy, List.dropLast_concat]
    · exact .inl rfl
theorem numS_concat (q : List SG) (x : SG) : numS (q ++ [x]) = numS q + x.r.length := by simp [numS]
theorem numS_put (q : List SG) (n : Nat) : numS (putS q n) = numS q + 1 := by
  rcases putS_cases q n with e | ⟨q', r, rfl, e⟩
  · rw [e, numS_concat]; rfl
  · rw [e, numS_concat, numS_concat]; simp only [List.length_append, List.length_cons, List.length_nil]; omega
theorem numS_foldP : ∀ (r : List Nat) (q : List SG), numS (r.foldl putS q) = numS q + r.length
  | [], _ => rfl
  | n :: r, q => by rw [List.foldl_cons, numS_foldP r, numS_put, List.length_cons]; omega
theorem numS_step (q : List SG) (x : SG) : numS (stepS q x) ≤ numS q + x.r.length := by
  unfold stepS
  split
  · rw [numS_foldP]; omega
  · split
    · rw [numS_concat]
      have := setOf_len x.r
      simp only; omega
    · omega
theorem numS_cons (x : SG) (l : List SG) : numS (x :: l) = x.r.length + numS l := by simp [numS]
theorem numS_fold : ∀ (l q : List SG), numS (l.foldl stepS q) ≤ numS q + numS l
  | [], q => by simp [numS]
  | x :: l, q => by
    have h1 := numS_fold l (stepS q x)
    have h2 := numS_step q x
    rw [List.foldl_cons, numS_cons]; omega
theorem numS_norm (l : List SG) : numS (normS l) ≤ numS l := by have := numS_fold l []; simpa [numS, normS] using this
end Go.Proofs.YtgkpkljenndpkaaGreat
set_option linter.unusedSimpArgs false
set_option linter.unusedVariables false
namespace Go.Proofs.YtgkpkljenndpkaaGreat
open Go.RowKit Go.WideShapes Go.ChangeShapes
attribute [local go_sem] Oper.semAt_some
/-- A route, its attributes wherever they lie. -/
structure RT where
  pa : Int
  pl : Int
  at_ : AT
  A : Option Addr
  n : Nat
  c : Nat
  B : Option Addr
  m : Nat
  d : Nat
  rp : Int
  ra : Int
  ri : Int
  inn : Bool
  loc : Bool
theorem blk_sets_far {g H : Nat} {t : TypeId} {cs : Array Value} (hne : g ≠ H) : ∀ (vs : List Value) (i : Nat) {w : World}, Blk w g t cs → Blk (w.setCells H i vs) g t cs
  | [], _, _, h => h
  | v :: vs, i, _, h => blk_sets_far hne vs (i + 1) (h.far (p := ⟨H, i, none⟩) hne v)
end Go.Proofs.YtgkpkljenndpkaaGreat
set_option linter.unusedSimpArgs false
set_option linter.unusedVariables false
namespace Go.Proofs.YtgkpkljenndpkaaGreat
open Go.RowKit Go.WideShapes Go.ChangeShapes
attribute [local go_sem] Oper.semAt_some
theorem blkBelow2 (w : World) (a b : Obj) : Below w.heap.size w ((w.alloc a).alloc b) := ((Below.refl _ w).alloc (Nat.le_refl _) _).alloc (by simp) _
end Go.Proofs.YtgkpkljenndpkaaGreat
set_option linter.unusedSimpArgs false
set_option linter.unusedVariables false
namespace Go.Proofs.YtgkpkljenndpkaaGreat
open Go.RowKit Go.WideShapes Go.ChangeShapes
attribute [local go_sem] Oper.semAt_some
theorem lenA {l : List Value} (h0 : VOk 9 l) : ∃ v0 v1 v2 v3 v4 v5 v6 v7 v8, l = [v0, v1, v2, v3, v4, v5, v6, v7, v8] := by
  have h := h0.1
  clear h0
  obtain _ | ⟨v0, l⟩ := l
  · simp at h
  obtain _ | ⟨v1, l⟩ := l
  · simp at h
  obtain _ | ⟨v2, l⟩ := l
  · simp at h
  obtain _ | ⟨v3, l⟩ := l
  · simp at h
  obtain _ | ⟨v4, l⟩ := l
  · simp at h
  obtain _ | ⟨v5, l⟩ := l
  · simp at h
  obtain _ | ⟨v6, l⟩ := l
  · simp at h
  obtain _ | ⟨v7, l⟩ := l
  · simp at h
  obtain _ | ⟨v8, l⟩ := l
  · simp at h
  obtain _ | ⟨x, l⟩ := l
  · exact ⟨_, _, _, _, _, _, _, _, _, rfl⟩
  · simp at h
set_option maxRecDepth 100000 in
theorem side_any (a n b m : Nat) (hb : b < 4294967296) (hn : n ≤ 31) (w : World) : Calls Tryz.prog 319 #[.agg #[.int .u32 (a : Int), .int .i64 (n : Int)], .agg #[.int .u32 (b : Int), .int .i64 (m : Int)]] w fun e w' => e = .returned (.int .i64 ((bitN b n : Nat) : Int)) ∧ Below w.heap.size w w' := by
  have HB := hide (blkBelow2 w (.cells #[.int .u32 (a : Int), .int .i64 (n : Int)] 51) (.cells #[.int .u32 (b : Int), .int .i64 (m : Int)] 51))
  obtain ⟨k0, k1, k2, k3⟩ := boxes w (.int .u32 (a : Int)) (.int .i64 (n : Int)) (.int .u32 (b : Int)) (.int .i64 (m : Int)) 51 51
  have HBi := hide (fun W => bit_in b n hb hn W)
  clear k0 k1 k2 k3
  go_enter Tryz.func319, Tryz.ntmps319
  go_wp2_with fail
  refine (HBi.out _).mono ?_
  rintro e w1 ⟨rfl, rfl⟩
  go_wp2
  go_ret
  exact ⟨rfl, HB.out⟩
theorem covB_pg {a n b m : Nat} (ha : PG a n) (hb : PG b m) : covB a (n : Int) b (m : Int) = decide (CvN a n b m) := by
  have h1 := ha.2.1
  have h2 := hb.2.1
  have h3 := ha.2.2
  have h4 := hb.2.2
  unfold covB hasB goodB
  simp only [Int.toNat_natCast, h3, h4, BEq.rfl, Bool.and_true]
  rw [Bool.eq_iff_iff]
  simp only [Bool.and_eq_true, decide_eq_true_eq, beq_iff_eq]
  unfold CvN
  constructor
  · rintro ⟨⟨h5, h6⟩, h7, h8⟩
    exact ⟨by omega, h8⟩
  · rintro ⟨h5, h6⟩
    exact ⟨⟨⟨by omega, by omega⟩, by omega⟩, ⟨by omega, by omega⟩, h6⟩
theorem cov_pg {a n b m : Nat} (ha : PG a n) (hb : PG b m) (w : World) : Calls Tryz.prog 318 #[.agg #[.int .u32 (a : Int), .int .i64 (n : Int)], .agg #[.int .u32 (b : Int), .int .i64 (m : Int)]] w (GoodP (decide (CvN a n b m)) w) := by
  rw [← covB_pg ha hb]
  exact Covers_any a n b m ha.1 hb.1 (by omega) (by have := ha.2.1; omega) (by omega) (by have := hb.2.1; omega) w
theorem good_pg {a n : Nat} (h : PG a n) : goodB a (n : Int) = true := by
  have h1 := h.2.1
  have h2 := h.2.2
  unfold goodB
  simp only [Int.toNat_natCast, h2, BEq.rfl, Bool.and_true, Bool.and_eq_true, decide_eq_true_eq]
  omega
theorem blkBelow3q (w : World) (o1 o2 o3 : Obj) : Below w.heap.size w (((w.alloc o1).alloc o2).alloc o3) := (blkBelow2 w o1 o2).alloc (by simp; omega) _
end Go.Proofs.YtgkpkljenndpkaaGreat
set_option linter.unusedSimpArgs false
set_option linter.unusedVariables false
namespace Go.Proofs.YtgkpkljenndpkaaGreat
open Go.RowKit Go.WideShapes Go.ChangeShapes
attribute [local go_sem] Oper.semAt_some
/-- The node of a prefix. -/
def trFind {α : Type} (c k : Nat) : Tr α → Tr α
  | .nil => .nil
  | .nd b a n v l r => if CvN a n c k then (if a = c ∧ n = k then .nd b a n v l r else if bitN c n = 0 then trFind c k l else trFind c k r) else .nil
/-- How far down a node stands: for a measure. -/
def trDown (a : Act) (w : World) : Nat := match a.tmps.getD 5 undef with
  | .pointer (some p) => 33 - cellNat w ⟨p.block, 1, none⟩
  | _ => 0
def trRank {α : Type} : Tr α → Nat
  | .nil => 0
  | .nd _ _ n _ _ _ => 33 - n
theorem trRank_in {α : Type} {a n i : Nat} {t : Tr α} (h : trIn a n i t) (hn : n ≤ 32) : trRank t < 33 - n := by
  cases t with
  | nil => show 0 < 33 - n; omega
  | nd b p m v l r => have := h.1; show 33 - m < 33 - n; omega
/-- A scope in whose midst the label stands that its jumps go to: one walk of what lies behind the label serves the first time and every jump. -/
theorem wp_scope_mid {P : Program} {Q : Exit → Act → World → Prop} {a : Act} {w : World} {c X : Code} (l : Nat) (J : Act → World → Prop) (μ : Act → World → Nat) (hf : findLabel c l = some (.seq .skip X))
    (first : (∀ a w, J a w → X.wp P (Exit.jump l J Q) a w) → c.wp P (Exit.jump l J Q) a w) (pass : ∀ a w, J a w → X.wp P (Exit.jump l (fun a' w' => J a' w' ∧ μ a' w' < μ a w) Q) a w) : (Code.scope c).wp P Q a w :=
  wp_scope_jumps l J μ hf (first fun a w h => wp_mono (pass a w h) fun e a w h => by cases e <;> first | exact h | exact ⟨h.1, h.2.1⟩) (fun a w h => wp_seq (wp_skip (pass a w h)))
theorem blkBelow1 (w : World) (o1 : Obj) : Below w.heap.size w (w.alloc o1) := (Below.refl _ w).alloc (Nat.le_refl _) _
theorem trDownA {α : Type} {F : Nat → Prop} {R : World → List Value → α → Prop} {w : World} {s : Tr α} {a : Act} (h : TrW 9 255 F R w s) (e : a.tmps.getD 5 undef = trPtr s) : trDown a w = trRank s := by
  cases s with
  | nil => unfold trDown; rw [e]; rfl
  | nd b c n v l r =>
    obtain ⟨⟨vs, hv, hk, _⟩, _, _⟩ := h
    unfold trDown
    rw [e]
    have hz : w.cell? ⟨b, 1, none⟩ = some (.int .i64 (n : Int)) := hk.cell 1
    show 33 - cellNat w ⟨b, 1, none⟩ = 33 - n
    rw [cellNat_of hz]
def FindJA {α : Type} (F : Nat → Prop) (R : World → List Value → α → Prop) (g c k : Nat) (t : Tr α) (w : World) (a' : Act) (w' : World) : Prop := ∃ (s : Tr α) (xb : Nat) (l : List Value), a' = ⟨(.pointer (some ⟨g, 0, none⟩) :: .agg #[.int .u32 (c : Int), .int .i64 (k : Int)] :: undef :: .pointer (some ⟨xb, 0, none⟩) :: .pointer none :: trPtr s :: l).toArray, []⟩ ∧ l.length = 40 ∧
  TrW 9 255 F R w' s ∧ trWf s ∧ trFind c k s = trFind c k t ∧ Blk w' xb 51 #[.int .u32 (c : Int), .int .i64 (k : Int)] ∧ Below w.heap.size w w'
set_option maxRecDepth 100000 in
set_option maxHeartbeats 8000000 in
theorem findA_any {α : Type} {F : Nat → Prop} {R : World → List Value → α → Prop} (g c k : Nat) (t : Tr α) (w : World) (hc : PG c k) (hg : Blk w g 251 #[trPtr t]) (h : TrW 9 255 F R w t) (hw : trWf t) :
    Calls Tryz.prog 233 #[.pointer (some ⟨g, 0, none⟩), .agg #[.int .u32 (c : Int), .int .i64 (k : Int)]] w fun e w' => e = .returned (trPtr (trFind c k t)) ∧ Below w.heap.size w w' := by
  have HGd := hide (Good_any c (k : Int) hc.1 (by omega) (by have := hc.2.1; omega))
  rw [good_pg hc] at HGd
  unfold pfx at HGd
  obtain ⟨w0, hw0⟩ : ∃ w0, w.alloc (.cells #[.int .u32 (c : Int), .int .i64 (k : Int)] 51) = w0 := ⟨_, rfl⟩
  have hb0 : Below w.heap.size w w0 := hw0 ▸ blkBelow1 w _
  have HX0 : Hid (Blk w0 w.heap.size 51 #[.int .u32 (c : Int), .int .i64 (k : Int)]) := hide (hw0 ▸ Blk.new w _ _)
  have HB0 := hide hb0
  have HG := hide hg
  have HT := hide h
  have HWf := hide hw
  have HPc := hide hc
  have HW0 := hide hw0
  clear hw0 hb0 hg h hw hc
  go_enter Tryz.func233, Tryz.ntmps233
  have x0 : w0.cell? ⟨w.heap.size, 0, none⟩ = some (.int .u32 (c : Int)) := HX0.out.cell 0
  have x1 : w0.cell? ⟨w.heap.size, 1, none⟩ = some (.int .i64 (k : Int)) := HX0.out.cell 1
  go_wp2
  rw [HW0.out]
  refine wp_scope_mid 0 (FindJA F R g c k t w) trDown rfl ?_ ?_
  · intro HPass
    go_wp2_with fail
    refine (HGd.out _).mono ?_
    rintro e w1 ⟨rfl, hb1⟩
    have HB1 := hide (HB0.out.trans (hb1.mono HB0.out.size))
    have HX1 := hide (HX0.out.below hb1 HX0.out.lt)
    have z : w1.cell? ⟨g, 0, none⟩ = some (trPtr t) := (HG.out.below HB1.out HG.out.lt).cell 0
    clear hb1 x0 x1
    go_wp2
    go_step3
    rename_i hK
    refine hK _ _ (HPass _ _ ?_)
    refine ⟨t, w.heap.size, _, rfl, rfl, ?_⟩
    exact ⟨HT.out.chg (S := fun _ => False) (chg_below HB1.out) (by simp) (by simp), HWf.out, rfl, HX1.out, HB1.out⟩
  rintro a1 w2 ⟨s, xb, l0, rfl, hl0, hs, hsw, hsf, hxb, hb2⟩
  obtain ⟨u, rfl⟩ := list_fn hl0
  clear hl0 x0 x1
  rw [show (List.range 40).map u = [u 0, u 1, u 2, u 3, u 4, u 5, u 6, u 7, u 8, u 9, u 10, u 11, u 12, u 13, u 14, u 15, u 16, u 17, u 18, u 19, u 20, u 21, u 22, u 23, u 24, u 25, u 26, u 27, u 28, u 29, u 30, u 31, u 32, u 33, u 34, u 35, u 36, u 37, u 38, u 39] from rfl]
  have HX := hide hxb
  have HB2 := hide hb2
  have HSf := hide hsf
  clear hxb hb2 hsf HX0 HG HT HWf HGd
  cases s with
  | nil =>
    have e0 : trPtr (.nil : Tr α) = .pointer none := rfl
    rw [e0]
    have HR : Hid (trPtr (trFind c k t) = .pointer none) := hide (by rw [← HSf.out]; rfl)
    clear e0 hs hsw
    go_upto_region 4 with fail
    go_quiet (fail)
    go_wp2
    simp only [Exit.jump]
    go_ret
    exact ⟨by rw [HR.out]; rfl, below_drewN HB2.out _⟩
  | nd b a n v l r =>
    have e0 : trPtr (.nd b a n v l r) = .pointer (some ⟨b, 0, none⟩) := rfl
    rw [e0]
    clear e0
    obtain ⟨⟨vs, hv, hk, hval⟩, hl, hr⟩ := hs
    obtain ⟨v0, v1, v2, v3, v4, v5, v6, v7, v8, rfl⟩ := lenA hv
    obtain ⟨hga, hil, hir, hwl, hwr⟩ := hsw
    have HN := hide hk
    have HN0 := hide hk
    have HL := hide hl
    have HRr := hide hr
    have HGa := hide hga
    have HIl := hide hil
    have HIr := hide hir
    have HWl := hide hwl
    have HWr := hide hwr
    have HCv := hide (fun W => cov_pg hga HPc.out W)
    clear hk hl hr hga hil hir hwl hwr hv hval
    by_cases hcv : CvN a n c k
    · rw [decide_eq_true hcv] at HCv
      have HCvP := hide hcv
      clear hcv
      go_upto_region 4 with fail
      have Hmn := hide (show AllMono [(fun v _ => v = .pointer (some ⟨b, 0, none⟩)), (fun v _ => v = .bool false), (fun v _ => v = .bool false), (fun v _ => v = .pointer (some ⟨b, 0, none⟩)), (fun v _ => v = .pointer (some ⟨b, 0, none⟩)), (fun v _ => v = .pointer (some ⟨b, 0, none⟩)), (fun v _ => v = .agg #[.int .u32 (a : Int), .int .i64 (n : Int)]), (fun v _ => v = .agg #[.int .u32 (c : Int), .int .i64 (k : Int)]), (fun v _ => v = .bool true), (fun v _ => v = .bool false), (fun v _ => v = .bool false)] from ⟨fun _ _ _ _ h => h, fun _ _ _ _ h => h, fun _ _ _ _ h => h, fun _ _ _ _ h => h, fun _ _ _ _ h => h, fun _ _ _ _ h => h, fun _ _ _ _ h => h, fun _ _ _ _ h => h, fun _ _ _ _ h => h, fun _ _ _ _ h => h, fun _ _ _ _ h => h, trivial⟩)
      refine wp_region_rel _ (by kernel_rfl) (by kernel_rfl) (relMono _ Hmn.out) ⟨?_, ?_, ?_, ?_, ?_, ?_, ?_, ?_, ?_, ?_, ?_, trivial⟩ ?_
      · refine relStep_plain rfl ?_
        intro Ac w5 hp
        have hb := hp.bel
        have a5 : Ac.eval (.tmp 5) = .pointer (some ⟨b, 0, none⟩) := hp.out 5 (by rfl)
        have hc := evalC Ac; have hf := evalF Ac; have hgl := evalG Ac
        obtain ⟨ρ, hρ⟩ : ∃ ρ, Ac.eval = ρ := ⟨_, rfl⟩
        rw [hρ] at a5 hc hf hgl
        exact relPure hρ (.pointer (some ⟨b, 0, none⟩)) (by simp [go_sem, hc, hf, hgl, ↓IntWalk.iteOmega, a5, *]) rfl
      · refine relStep_plain rfl ?_
        intro Ac w5 hp
        have hb := hp.bel
        have a17 : Ac.eval (.tmp 17) = .pointer (some ⟨b, 0, none⟩) := hp.dep 0 (by kernel_rfl)
        have hc := evalC Ac; have hf := evalF Ac; have hgl := evalG Ac
        obtain ⟨ρ, hρ⟩ : ∃ ρ, Ac.eval = ρ := ⟨_, rfl⟩
        rw [hρ] at a17 hc hf hgl
        exact relPure hρ (.bool false) (by simp [go_sem, hc, hf, hgl, ↓IntWalk.iteOmega, a17, *]) rfl
      · refine relStep_plain rfl ?_
        intro Ac w5 hp
        have hb := hp.bel
        have a18 : Ac.eval (.tmp 18) = .bool false := hp.dep 1 (by kernel_rfl)
        have hc := evalC Ac; have hf := evalF Ac; have hgl := evalG Ac
        obtain ⟨ρ, hρ⟩ : ∃ ρ, Ac.eval = ρ := ⟨_, rfl⟩
        rw [hρ] at a18 hc hf hgl
        exact relPure hρ (.bool false) (by simp [go_sem, hc, hf, hgl, ↓IntWalk.iteOmega, a18, *]) rfl
      · refine relStep_guard (g := 2) (b := false) (x := false) rfl (by kernel_rfl) rfl (by kernel_rfl) rfl (fun _ _ h => h) ?_
        intro Ac w5 hp
        have hb := hp.bel
        have a5 : Ac.eval (.tmp 5) = .pointer (some ⟨b, 0, none⟩) := hp.out 5 (by rfl)
        have hc := evalC Ac; have hf := evalF Ac; have hgl := evalG Ac
        obtain ⟨ρ, hρ⟩ : ∃ ρ, Ac.eval = ρ := ⟨_, rfl⟩
        rw [hρ] at a5 hc hf hgl
        exact relPure hρ (.pointer (some ⟨b, 0, none⟩)) (by simp [go_sem, hc, hf, hgl, ↓IntWalk.iteOmega, a5, *]) rfl
      · refine relStep_guard (g := 2) (b := false) (x := false) rfl (by kernel_rfl) rfl (by kernel_rfl) rfl (fun _ _ h => h) ?_
        intro Ac w5 hp
        have hb := hp.bel
        have a20 : Ac.eval (.tmp 20) = .pointer (some ⟨b, 0, none⟩) := hp.dep 3 (by kernel_rfl)
        have hc := evalC Ac; have hf := evalF Ac; have hgl := evalG Ac
        obtain ⟨ρ, hρ⟩ : ∃ ρ, Ac.eval = ρ := ⟨_, rfl⟩
        rw [hρ] at a20 hc hf hgl
        exact relPure hρ (.pointer (some ⟨b, 0, none⟩)) (by simp [go_sem, hc, hf, hgl, ↓IntWalk.iteOmega, a20, *]) rfl
      · refine relStep_guard (g := 2) (b := false) (x := false) rfl (by kernel_rfl) rfl (by kernel_rfl) rfl (fun _ _ h => h) ?_
        intro Ac w5 hp
        have hb := hp.bel
        have a21 : Ac.eval (.tmp 21) = .pointer (some ⟨b, 0, none⟩) := hp.dep 4 (by kernel_rfl)
        have hc := evalC Ac; have hf := evalF Ac; have hgl := evalG Ac
        obtain ⟨ρ, hρ⟩ : ∃ ρ, Ac.eval = ρ := ⟨_, rfl⟩
        rw [hρ] at a21 hc hf hgl
        exact relPure hρ (.pointer (some ⟨b, 0, none⟩)) (by simp [go_sem, hc, hf, hgl, ↓IntWalk.iteOmega, a21, *]) rfl
      · refine relStep_guard (g := 2) (b := false) (x := false) rfl (by kernel_rfl) rfl (by kernel_rfl) rfl (fun _ _ h => h) ?_
        intro Ac w5 hp
        have hb := hp.bel
        have a22 : Ac.eval (.tmp 22) = .pointer (some ⟨b, 0, none⟩) := hp.dep 5 (by kernel_rfl)
        have hk5 := HN.out.below hb HN.out.lt
        have hx5 := HX.out.below hb HX.out.lt
        have y0 : w5.cell? ⟨b, 0, none⟩ = some (.int .u32 (a : Int)) := hk5.cell 0
        have y1 : w5.cell? ⟨b, 1, none⟩ = some (.int .i64 (n : Int)) := hk5.cell 1
        have x0 : w5.cell? ⟨xb, 0, none⟩ = some (.int .u32 (c : Int)) := hx5.cell 0
        have x1 : w5.cell? ⟨xb, 1, none⟩ = some (.int .i64 (k : Int)) := hx5.cell 1
        have hc := evalC Ac; have hf := evalF Ac; have hgl := evalG Ac
        obtain ⟨ρ, hρ⟩ : ∃ ρ, Ac.eval = ρ := ⟨_, rfl⟩
        rw [hρ] at a22 hc hf hgl
        exact relPure hρ (.agg #[.int .u32 (a : Int), .int .i64 (n : Int)]) (by simp [go_sem, hc, hf, hgl, ↓IntWalk.iteOmega, a22, *]) rfl
      · refine relStep_guard (g := 2) (b := false) (x := false) rfl (by kernel_rfl) rfl (by kernel_rfl) rfl (fun _ _ h => h) ?_
        intro Ac w5 hp
        have hb := hp.bel
        have a3 : Ac.eval (.tmp 3) = .pointer (some ⟨xb, 0, none⟩) := hp.out 3 (by rfl)
        have hk5 := HN.out.below hb HN.out.lt
        have hx5 := HX.out.below hb HX.out.lt
        have y0 : w5.cell? ⟨b, 0, none⟩ = some (.int .u32 (a : Int)) := hk5.cell 0
        have y1 : w5.cell? ⟨b, 1, none⟩ = some (.int .i64 (n : Int)) := hk5.cell 1
        have x0 : w5.cell? ⟨xb, 0, none⟩ = some (.int .u32 (c : Int)) := hx5.cell 0
        have x1 : w5.cell? ⟨xb, 1, none⟩ = some (.int .i64 (k : Int)) := hx5.cell 1
        have hc := evalC Ac; have hf := evalF Ac; have hgl := evalG Ac
        obtain ⟨ρ, hρ⟩ : ∃ ρ, Ac.eval = ρ := ⟨_, rfl⟩
        rw [hρ] at a3 hc hf hgl
        exact relPure hρ (.agg #[.int .u32 (c : Int), .int .i64 (k : Int)]) (by simp [go_sem, hc, hf, hgl, ↓IntWalk.iteOmega, a3, *]) rfl
      · refine relStep_guard (g := 2) (b := false) (x := false) rfl (by kernel_rfl) rfl (by kernel_rfl) rfl (fun _ _ h => h) ?_
        intro Ac w5 hp
        have hb := hp.bel
        have a23 : Ac.eval (.tmp 23) = .agg #[.int .u32 (a : Int), .int .i64 (n : Int)] := hp.dep 6 (by kernel_rfl)
        have a24 : Ac.eval (.tmp 24) = .agg #[.int .u32 (c : Int), .int .i64 (k : Int)] := hp.dep 7 (by kernel_rfl)
        have hc := evalC Ac; have hf := evalF Ac; have hgl := evalG Ac
        obtain ⟨ρ, hρ⟩ : ∃ ρ, Ac.eval = ρ := ⟨_, rfl⟩
        rw [hρ] at a23 a24 hc hf hgl
        refine relCall hρ 318 #[.agg #[.int .u32 (a : Int), .int .i64 (n : Int)], .agg #[.int .u32 (c : Int), .int .i64 (k : Int)]] (by simp [go_sem, hc, hf, hgl, ↓IntWalk.iteOmega, a23, a24, *]) ?_
        refine (HCv.out w5).mono ?_
        rintro e w6 ⟨rfl, hb6⟩
        exact ⟨_, rfl, rfl, hb6⟩
      · refine relStep_guard (g := 2) (b := false) (x := false) rfl (by kernel_rfl) rfl (by kernel_rfl) rfl (fun _ _ h => h) ?_
        intro Ac w5 hp
        have hb := hp.bel
        have a25 : Ac.eval (.tmp 25) = .bool true := hp.dep 8 (by kernel_rfl)
        have hc := evalC Ac; have hf := evalF Ac; have hgl := evalG Ac
        obtain ⟨ρ, hρ⟩ : ∃ ρ, Ac.eval = ρ := ⟨_, rfl⟩
        rw [hρ] at a25 hc hf hgl
        exact relPure hρ (.bool false) (by simp [go_sem, hc, hf, hgl, ↓IntWalk.iteOmega, a25, *]) rfl
      · refine relStep_plain rfl ?_
        intro Ac w5 hp
        have hb := hp.bel
        have a19 : Ac.eval (.tmp 19) = .bool false := hp.dep 2 (by kernel_rfl)
        have a26 : Ac.eval (.tmp 26) = .bool false := hp.dep 9 (by kernel_rfl)
        have hc := evalC Ac; have hf := evalF Ac; have hgl := evalG Ac
        obtain ⟨ρ, hρ⟩ : ∃ ρ, Ac.eval = ρ := ⟨_, rfl⟩
        rw [hρ] at a19 a26 hc hf hgl
        exact relPure hρ (.bool false) (by simp [go_sem, hc, hf, hgl, ↓IntWalk.iteOmega, a19, a26, *]) rfl
      intro u w7 hb7 hall
      have e27 : u 10 = .bool false := relAll_at hall (i := 10) (by decide +kernel)
      clear hall
      simp only [List.drop_succ_cons, List.drop_zero, List.take_succ_cons, List.take_zero, putAll, Act.put, List.setIfInBounds_toArray, List.set_cons_zero, List.set_cons_succ, Nat.zero_add, Nat.reduceAdd, e27]
      have HB7 := hide (HB2.out.trans (hb7.mono HB2.out.size))
      have HB27 := hide hb7
      have HX7 := hide (HX.out.below hb7 HX.out.lt)
      have HN7 := hide (HN.out.below hb7 HN.out.lt)
      clear hb7 HX HN
      have HN := hide HN7.out
      have HX := hide HX7.out
      clear HX7 HN7
      by_cases he : a = c ∧ n = k
      · obtain ⟨rfl, rfl⟩ := he
        have HR : Hid (trPtr (trFind a n t) = .pointer (some ⟨b, 0, none⟩)) := hide (by rw [← HSf.out, trFind, if_pos HCvP.out, if_pos ⟨rfl, rfl⟩]; rfl)
        go_upto_region 6 with fail
        have Hmn := hide (show AllMono [(fun v _ => v = .pointer (some ⟨b, 0, none⟩)), (fun v _ => v = .pointer (some ⟨b, 0, none⟩)), (fun v _ => v = .pointer (some ⟨b, 0, none⟩)), (fun v _ => v = .agg #[.int .u32 (a : Int), .int .i64 (n : Int)]), (fun v _ => v = .agg #[.int .u32 (a : Int), .int .i64 (n : Int)]), (fun v _ => v = .bool false)] from ⟨fun _ _ _ _ h => h, fun _ _ _ _ h => h, fun _ _ _ _ h => h, fun _ _ _ _ h => h, fun _ _ _ _ h => h, fun _ _ _ _ h => h, trivial⟩)
        refine wp_region_rel _ (by kernel_rfl) (by kernel_rfl) (relMono _ Hmn.out) ⟨?_, ?_, ?_, ?_, ?_, ?_, trivial⟩ ?_
        · refine relStep_plain rfl ?_
          intro Ac w5 hp
          have hb := hp.bel
          have a5 : Ac.eval (.tmp 5) = .pointer (some ⟨b, 0, none⟩) := hp.out 5 (by rfl)
          have hc := evalC Ac; have hf := evalF Ac; have hgl := evalG Ac
          obtain ⟨ρ, hρ⟩ : ∃ ρ, Ac.eval = ρ := ⟨_, rfl⟩
          rw [hρ] at a5 hc hf hgl
          exact relPure hρ (.pointer (some ⟨b, 0, none⟩)) (by simp [go_sem, hc, hf, hgl, ↓IntWalk.iteOmega, a5, *]) rfl
        · refine relStep_plain rfl ?_
          intro Ac w5 hp
          have hb := hp.bel
          have a28 : Ac.eval (.tmp 28) = .pointer (some ⟨b, 0, none⟩) := hp.dep 0 (by kernel_rfl)
          have hc := evalC Ac; have hf := evalF Ac; have hgl := evalG Ac
          obtain ⟨ρ, hρ⟩ : ∃ ρ, Ac.eval = ρ := ⟨_, rfl⟩
          rw [hρ] at a28 hc hf hgl
          exact relPure hρ (.pointer (some ⟨b, 0, none⟩)) (by simp [go_sem, hc, hf, hgl, ↓IntWalk.iteOmega, a28, *]) rfl
        · refine relStep_plain rfl ?_
          intro Ac w5 hp
          have hb := hp.bel
          have a29 : Ac.eval (.tmp 29) = .pointer (some ⟨b, 0, none⟩) := hp.dep 1 (by kernel_rfl)
          have hc := evalC Ac; have hf := evalF Ac; have hgl := evalG Ac
          obtain ⟨ρ, hρ⟩ : ∃ ρ, Ac.eval = ρ := ⟨_, rfl⟩
          rw [hρ] at a29 hc hf hgl
          exact relPure hρ (.pointer (some ⟨b, 0, none⟩)) (by simp [go_sem, hc, hf, hgl, ↓IntWalk.iteOmega, a29, *]) rfl
        · refine relStep_plain rfl ?_
          intro Ac w5 hp
          have hb := hp.bel
          have a30 : Ac.eval (.tmp 30) = .pointer (some ⟨b, 0, none⟩) := hp.dep 2 (by kernel_rfl)
          have hk5 := HN.out.below hb HN.out.lt
          have hx5 := HX.out.below hb HX.out.lt
          have y0 : w5.cell? ⟨b, 0, none⟩ = some (.int .u32 (a : Int)) := hk5.cell 0
          have y1 : w5.cell? ⟨b, 1, none⟩ = some (.int .i64 (n : Int)) := hk5.cell 1
          have x0 : w5.cell? ⟨xb, 0, none⟩ = some (.int .u32 (a : Int)) := hx5.cell 0
          have x1 : w5.cell? ⟨xb, 1, none⟩ = some (.int .i64 (n : Int)) := hx5.cell 1
          have hc := evalC Ac; have hf := evalF Ac; have hgl := evalG Ac
          obtain ⟨ρ, hρ⟩ : ∃ ρ, Ac.eval = ρ := ⟨_, rfl⟩
          rw [hρ] at a30 hc hf hgl
          exact relPure hρ (.agg #[.int .u32 (a : Int), .int .i64 (n : Int)]) (by simp [go_sem, hc, hf, hgl, ↓IntWalk.iteOmega, a30, *]) rfl
        · refine relStep_plain rfl ?_
          intro Ac w5 hp
          have hb := hp.bel
          have a3 : Ac.eval (.tmp 3) = .pointer (some ⟨xb, 0, none⟩) := hp.out 3 (by rfl)
          have hk5 := HN.out.below hb HN.out.lt
          have hx5 := HX.out.below hb HX.out.lt
          have y0 : w5.cell? ⟨b, 0, none⟩ = some (.int .u32 (a : Int)) := hk5.cell 0
          have y1 : w5.cell? ⟨b, 1, none⟩ = some (.int .i64 (n : Int)) := hk5.cell 1
          have x0 : w5.cell? ⟨xb, 0, none⟩ = some (.int .u32 (a : Int)) := hx5.cell 0
          have x1 : w5.cell? ⟨xb, 1, none⟩ = some (.int .i64 (n : Int)) := hx5.cell 1
          have hc := evalC Ac; have hf := evalF Ac; have hgl := evalG Ac
          obtain ⟨ρ, hρ⟩ : ∃ ρ, Ac.eval = ρ := ⟨_, rfl⟩
          rw [hρ] at a3 hc hf hgl
          exact relPure hρ (.agg #[.int .u32 (a : Int), .int .i64 (n : Int)]) (by simp [go_sem, hc, hf, hgl, ↓IntWalk.iteOmega, a3, *]) rfl
        · refine relStep_plain rfl ?_
          intro Ac w5 hp
          have hb := hp.bel
          have a31 : Ac.eval (.tmp 31) = .agg #[.int .u32 (a : Int), .int .i64 (n : Int)] := hp.dep 3 (by kernel_rfl)
          have a32 : Ac.eval (.tmp 32) = .agg #[.int .u32 (a : Int), .int .i64 (n : Int)] := hp.dep 4 (by kernel_rfl)
          have hc := evalC Ac; have hf := evalF Ac; have hgl := evalG Ac
          obtain ⟨ρ, hρ⟩ : ∃ ρ, Ac.eval = ρ := ⟨_, rfl⟩
          rw [hρ] at a31 a32 hc hf hgl
          exact relPure hρ (.bool false) (by simp [go_sem, hc, hf, hgl, ↓IntWalk.iteOmega, a31, a32, *]) rfl
        intro u w8 hb7 hall
        have e33 : u 5 = .bool false := relAll_at hall (i := 5) (by decide +kernel)
        clear hall
        simp only [List.drop_succ_cons, List.drop_zero, List.take_succ_cons, List.take_zero, putAll, Act.put, List.setIfInBounds_toArray, List.set_cons_zero, List.set_cons_succ, Nat.zero_add, Nat.reduceAdd, e33]
        have HB8 := hide (HB7.out.trans (hb7.mono HB7.out.size))
        clear hb7
        go_wp2
        simp only [Exit.jump]
        go_ret
        exact ⟨by rw [HR.out]; rfl, HB8.out⟩
      · have HNe := hide (show (a : Int) = (c : Int) → ¬ (n : Int) = (k : Int) from fun h1 h2 => he ⟨by omega, by omega⟩)
        have HE := hide he
        clear he
        have hlt : n < k := Nat.lt_of_le_of_ne HCvP.out.1 fun e => HE.out ⟨cvN_same HCvP.out HPc.out e, e⟩
        have hk32 := HPc.out.2.1
        have HSd := hide (fun W => side_any a n c k HPc.out.1 (by omega) W)
        have HRk := hide (show trDown ⟨(.pointer (some ⟨g, 0, none⟩) :: .agg #[.int .u32 (c : Int), .int .i64 (k : Int)] :: undef :: .pointer (some ⟨xb, 0, none⟩) :: .pointer none :: .pointer (some ⟨b, 0, none⟩) :: [u 0, u 1, u 2, u 3, u 4, u 5, u 6, u 7, u 8, u 9, u 10, u 11, u 12, u 13, u 14, u 15, u 16, u 17, u 18, u 19, u 20, u 21, u 22, u 23, u 24, u 25, u 26, u 27, u 28, u 29, u 30, u 31, u 32, u 33, u 34, u 35, u 36, u 37, u 38, u 39]).toArray, []⟩ w2 = 33 - n from congrArg (33 - ·) (cellNat_of (HN0.out.cell 1)))
        have HLt := hide hlt
        clear hlt hk32 HN0
        go_upto_region 6 with fail
        have Hmn := hide (show AllMono [(fun v _ => v = .pointer (some ⟨b, 0, none⟩)), (fun v _ => v = .pointer (some ⟨b, 0, none⟩)), (fun v _ => v = .pointer (some ⟨b, 0, none⟩)), (fun v _ => v = .agg #[.int .u32 (a : Int), .int .i64 (n : Int)]), (fun v _ => v = .agg #[.int .u32 (c : Int), .int .i64 (k : Int)]), (fun v _ => v = .bool true)] from ⟨fun _ _ _ _ h => h, fun _ _ _ _ h => h, fun _ _ _ _ h => h, fun _ _ _ _ h => h, fun _ _ _ _ h => h, fun _ _ _ _ h => h, trivial⟩)
        refine wp_region_rel _ (by kernel_rfl) (by kernel_rfl) (relMono _ Hmn.out) ⟨?_, ?_, ?_, ?_, ?_, ?_, trivial⟩ ?_
        · refine relStep_plain rfl ?_
          intro Ac w5 hp
          have hb := hp.bel
          have a5 : Ac.eval (.tmp 5) = .pointer (some ⟨b, 0, none⟩) := hp.out 5 (by rfl)
          have hc := evalC Ac; have hf := evalF Ac; have hgl := evalG Ac
          obtain ⟨ρ, hρ⟩ : ∃ ρ, Ac.eval = ρ := ⟨_, rfl⟩
          rw [hρ] at a5 hc hf hgl
          exact relPure hρ (.pointer (some ⟨b, 0, none⟩)) (by simp [go_sem, hc, hf, hgl, ↓IntWalk.iteOmega, a5, *]) rfl
        · refine relStep_plain rfl ?_
          intro Ac w5 hp
          have hb := hp.bel
          have a28 : Ac.eval (.tmp 28) = .pointer (some ⟨b, 0, none⟩) := hp.dep 0 (by kernel_rfl)
          have hc := evalC Ac; have hf := evalF Ac; have hgl := evalG Ac
          obtain ⟨ρ, hρ⟩ : ∃ ρ, Ac.eval = ρ := ⟨_, rfl⟩
          rw [hρ] at a28 hc hf hgl
          exact relPure hρ (.pointer (some ⟨b, 0, none⟩)) (by simp [go_sem, hc, hf, hgl, ↓IntWalk.iteOmega, a28, *]) rfl
        · refine relStep_plain rfl ?_
          intro Ac w5 hp
          have hb := hp.bel
          have a29 : Ac.eval (.tmp 29) = .pointer (some ⟨b, 0, none⟩) := hp.dep 1 (by kernel_rfl)
          have hc := evalC Ac; have hf := evalF Ac; have hgl := evalG Ac
          obtain ⟨ρ, hρ⟩ : ∃ ρ, Ac.eval = ρ := ⟨_, rfl⟩
          rw [hρ] at a29 hc hf hgl
          exact relPure hρ (.pointer (some ⟨b, 0, none⟩)) (by simp [go_sem, hc, hf, hgl, ↓IntWalk.iteOmega, a29, *]) rfl
        · refine relStep_plain rfl ?_
          intro Ac w5 hp
          have hb := hp.bel
          have a30 : Ac.eval (.tmp 30) = .pointer (some ⟨b, 0, none⟩) := hp.dep 2 (by kernel_rfl)
          have hk5 := HN.out.below hb HN.out.lt
          have hx5 := HX.out.below hb HX.out.lt
          have y0 : w5.cell? ⟨b, 0, none⟩ = some (.int .u32 (a : Int)) := hk5.cell 0
          have y1 : w5.cell? ⟨b, 1, none⟩ = some (.int .i64 (n : Int)) := hk5.cell 1
          have x0 : w5.cell? ⟨xb, 0, none⟩ = some (.int .u32 (c : Int)) := hx5.cell 0
          have x1 : w5.cell? ⟨xb, 1, none⟩ = some (.int .i64 (k : Int)) := hx5.cell 1
          have hc := evalC Ac; have hf := evalF Ac; have hgl := evalG Ac
          obtain ⟨ρ, hρ⟩ : ∃ ρ, Ac.eval = ρ := ⟨_, rfl⟩
          rw [hρ] at a30 hc hf hgl
          exact relPure hρ (.agg #[.int .u32 (a : Int), .int .i64 (n : Int)]) (by simp [go_sem, hc, hf, hgl, ↓IntWalk.iteOmega, a30, *]) rfl
        · refine relStep_plain rfl ?_
          intro Ac w5 hp
          have hb := hp.bel
          have a3 : Ac.eval (.tmp 3) = .pointer (some ⟨xb, 0, none⟩) := hp.out 3 (by rfl)
          have hk5 := HN.out.below hb HN.out.lt
          have hx5 := HX.out.below hb HX.out.lt
          have y0 : w5.cell? ⟨b, 0, none⟩ = some (.int .u32 (a : Int)) := hk5.cell 0
          have y1 : w5.cell? ⟨b, 1, none⟩ = some (.int .i64 (n : Int)) := hk5.cell 1
          have x0 : w5.cell? ⟨xb, 0, none⟩ = some (.int .u32 (c : Int)) := hx5.cell 0
          have x1 : w5.cell? ⟨xb, 1, none⟩ = some (.int .i64 (k : Int)) := hx5.cell 1
          have hc := evalC Ac; have hf := evalF Ac; have hgl := evalG Ac
          obtain ⟨ρ, hρ⟩ : ∃ ρ, Ac.eval = ρ := ⟨_, rfl⟩
          rw [hρ] at a3 hc hf hgl
          exact relPure hρ (.agg #[.int .u32 (c : Int), .int .i64 (k : Int)]) (by simp [go_sem, hc, hf, hgl, ↓IntWalk.iteOmega, a3, *]) rfl
        · refine relStep_plain rfl ?_
          intro Ac w5 hp
          have hb := hp.bel
          have a31 : Ac.eval (.tmp 31) = .agg #[.int .u32 (a : Int), .int .i64 (n : Int)] := hp.dep 3 (by kernel_rfl)
          have a32 : Ac.eval (.tmp 32) = .agg #[.int .u32 (c : Int), .int .i64 (k : Int)] := hp.dep 4 (by kernel_rfl)
          have hc := evalC Ac; have hf := evalF Ac; have hgl := evalG Ac
          obtain ⟨ρ, hρ⟩ : ∃ ρ, Ac.eval = ρ := ⟨_, rfl⟩
          rw [hρ] at a31 a32 hc hf hgl
          exact relPure hρ (.bool true) (by simp [go_sem, hc, hf, hgl, ↓IntWalk.iteOmega, a31, a32, *]; exact HNe.out) rfl
        intro u w8 hb7 hall
        have e33 : u 5 = .bool true := relAll_at hall (i := 5) (by decide +kernel)
        clear hall
        simp only [List.drop_succ_cons, List.drop_zero, List.take_succ_cons, List.take_zero, putAll, Act.put, List.setIfInBounds_toArray, List.set_cons_zero, List.set_cons_succ, Nat.zero_add, Nat.reduceAdd, e33]
        have HN8 := hide (HN.out.below hb7 HN.out.lt)
        have HX8 := hide (HX.out.below hb7 HX.out.lt)
        have HB28 := hide (HB27.out.trans (hb7.mono HB27.out.size))
        clear hb7 HN HX HB7 HB27
        have HN := hide HN8.out
        have HX := hide HX8.out
        clear HN8 HX8
        rcases bitN_01 c n with hbit | hbit
        all_goals
          have HBit := hide hbit
          clear hbit
          go_upto_region 7 with fail
        · skip
          have Hmn := hide (show AllMono [(fun v _ => v = .pointer (some ⟨b, 0, none⟩)), (fun v _ => v = .pointer (some ⟨b, 0, none⟩)), (fun v _ => v = .pointer (some ⟨b, 0, none⟩)), (fun v _ => v = .pointer (some ⟨b, 0, none⟩)), (fun v _ => v = .agg #[.int .u32 (a : Int), .int .i64 (n : Int)]), (fun v _ => v = .agg #[.int .u32 (c : Int), .int .i64 (k : Int)]), (fun v _ => v = .int .i64 0), (fun v _ => v = .pointer (some ⟨b, 0, none⟩)), (fun v _ => v = .pointer (some ⟨b, 13, none⟩)), (fun v _ => v = .pointer (some ⟨b, 13, none⟩)), (fun v _ => v = trPtr l)] from ⟨fun _ _ _ _ h => h, fun _ _ _ _ h => h, fun _ _ _ _ h => h, fun _ _ _ _ h => h, fun _ _ _ _ h => h, fun _ _ _ _ h => h, fun _ _ _ _ h => h, fun _ _ _ _ h => h, fun _ _ _ _ h => h, fun _ _ _ _ h => h, fun _ _ _ _ h => h, trivial⟩)
          refine wp_region_relT 11 _ (by kernel_rfl) (by kernel_rfl) (by kernel_rfl) (by kernel_rfl) (by kernel_rfl) (relMono _ Hmn.out) ⟨?_, ?_, ?_, ?_, ?_, ?_, ?_, ?_, ?_, ?_, ?_, trivial⟩ ?_
          · refine relStep_plain rfl ?_
            intro Ac w5 hp
            have hb := hp.bel
            have a5 : Ac.eval (.tmp 5) = .pointer (some ⟨b, 0, none⟩) := hp.out 5 (by rfl)
            have hc := evalC Ac; have hf := evalF Ac; have hgl := evalG Ac
            obtain ⟨ρ, hρ⟩ : ∃ ρ, Ac.eval = ρ := ⟨_, rfl⟩
            rw [hρ] at a5 hc hf hgl
            exact relPure hρ (.pointer (some ⟨b, 0, none⟩)) (by simp [go_sem, hc, hf, hgl, ↓IntWalk.iteOmega, a5, *]) rfl
          · refine relStep_plain rfl ?_
            intro Ac w5 hp
            have hb := hp.bel
            have a5 : Ac.eval (.tmp 5) = .pointer (some ⟨b, 0, none⟩) := hp.out 5 (by rfl)
            have hc := evalC Ac; have hf := evalF Ac; have hgl := evalG Ac
            obtain ⟨ρ, hρ⟩ : ∃ ρ, Ac.eval = ρ := ⟨_, rfl⟩
            rw [hρ] at a5 hc hf hgl
            exact relPure hρ (.pointer (some ⟨b, 0, none⟩)) (by simp [go_sem, hc, hf, hgl, ↓IntWalk.iteOmega, a5, *]) rfl
          · refine relStep_plain rfl ?_
            intro Ac w5 hp
            have hb := hp.bel
            have a35 : Ac.eval (.tmp 35) = .pointer (some ⟨b, 0, none⟩) := hp.dep 1 (by kernel_rfl)
            have hc := evalC Ac; have hf := evalF Ac; have hgl := evalG Ac
            obtain ⟨ρ, hρ⟩ : ∃ ρ, Ac.eval = ρ := ⟨_, rfl⟩
            rw [hρ] at a35 hc hf hgl
            exact relPure hρ (.pointer (some ⟨b, 0, none⟩)) (by simp [go_sem, hc, hf, hgl, ↓IntWalk.iteOmega, a35, *]) rfl
          · refine relStep_plain rfl ?_
            intro Ac w5 hp
            have hb := hp.bel
            have a36 : Ac.eval (.tmp 36) = .pointer (some ⟨b, 0, none⟩) := hp.dep 2 (by kernel_rfl)
            have hc := evalC Ac; have hf := evalF Ac; have hgl := evalG Ac
            obtain ⟨ρ, hρ⟩ : ∃ ρ, Ac.eval = ρ := ⟨_, rfl⟩
            rw [hρ] at a36 hc hf hgl
            exact relPure hρ (.pointer (some ⟨b, 0, none⟩)) (by simp [go_sem, hc, hf, hgl, ↓IntWalk.iteOmega, a36, *]) rfl
          · refine relStep_plain rfl ?_
            intro Ac w5 hp
            have hb := hp.bel
            have a37 : Ac.eval (.tmp 37) = .pointer (some ⟨b, 0, none⟩) := hp.dep 3 (by kernel_rfl)
            have hk5 := HN.out.below hb HN.out.lt
            have hx5 := HX.out.below hb HX.out.lt
            have y0 : w5.cell? ⟨b, 0, none⟩ = some (.int .u32 (a : Int)) := hk5.cell 0
            have y1 : w5.cell? ⟨b, 1, none⟩ = some (.int .i64 (n : Int)) := hk5.cell 1
            have y13 : w5.cell? ⟨b, 13, none⟩ = some (trPtr l) := hk5.cell 13
            have y14 : w5.cell? ⟨b, 14, none⟩ = some (trPtr r) := hk5.cell 14
            have x0 : w5.cell? ⟨xb, 0, none⟩ = some (.int .u32 (c : Int)) := hx5.cell 0
            have x1 : w5.cell? ⟨xb, 1, none⟩ = some (.int .i64 (k : Int)) := hx5.cell 1
            have hc := evalC Ac; have hf := evalF Ac; have hgl := evalG Ac
            obtain ⟨ρ, hρ⟩ : ∃ ρ, Ac.eval = ρ := ⟨_, rfl⟩
            rw [hρ] at a37 hc hf hgl
            exact relPure hρ (.agg #[.int .u32 (a : Int), .int .i64 (n : Int)]) (by simp [go_sem, hc, hf, hgl, ↓IntWalk.iteOmega, a37, *]) rfl
          · refine relStep_plain rfl ?_
            intro Ac w5 hp
            have hb := hp.bel
            have a3 : Ac.eval (.tmp 3) = .pointer (some ⟨xb, 0, none⟩) := hp.out 3 (by rfl)
            have hk5 := HN.out.below hb HN.out.lt
            have hx5 := HX.out.below hb HX.out.lt
            have y0 : w5.cell? ⟨b, 0, none⟩ = some (.int .u32 (a : Int)) := hk5.cell 0
            have y1 : w5.cell? ⟨b, 1, none⟩ = some (.int .i64 (n : Int)) := hk5.cell 1
            have y13 : w5.cell? ⟨b, 13, none⟩ = some (trPtr l) := hk5.cell 13
            have y14 : w5.cell? ⟨b, 14, none⟩ = some (trPtr r) := hk5.cell 14
            have x0 : w5.cell? ⟨xb, 0, none⟩ = some (.int .u32 (c : Int)) := hx5.cell 0
            have x1 : w5.cell? ⟨xb, 1, none⟩ = some (.int .i64 (k : Int)) := hx5.cell 1
            have hc := evalC Ac; have hf := evalF Ac; have hgl := evalG Ac
            obtain ⟨ρ, hρ⟩ : ∃ ρ, Ac.eval = ρ := ⟨_, rfl⟩
            rw [hρ] at a3 hc hf hgl
            exact relPure hρ (.agg #[.int .u32 (c : Int), .int .i64 (k : Int)]) (by simp [go_sem, hc, hf, hgl, ↓IntWalk.iteOmega, a3, *]) rfl
          · refine relStep_plain rfl ?_
            intro Ac w5 hp
            have hb := hp.bel
            have a38 : Ac.eval (.tmp 38) = .agg #[.int .u32 (a : Int), .int .i64 (n : Int)] := hp.dep 4 (by kernel_rfl)
            have a39 : Ac.eval (.tmp 39) = .agg #[.int .u32 (c : Int), .int .i64 (k : Int)] := hp.dep 5 (by kernel_rfl)
            have hc := evalC Ac; have hf := evalF Ac; have hgl := evalG Ac
            obtain ⟨ρ, hρ⟩ : ∃ ρ, Ac.eval = ρ := ⟨_, rfl⟩
            rw [hρ] at a38 a39 hc hf hgl
            refine relCall hρ 319 #[.agg #[.int .u32 (a : Int), .int .i64 (n : Int)], .agg #[.int .u32 (c : Int), .int .i64 (k : Int)]] (by simp [go_sem, hc, hf, hgl, ↓IntWalk.iteOmega, a38, a39, *]) ?_
            refine (HSd.out w5).mono ?_
            rintro e w6 ⟨rfl, hb6⟩
            exact ⟨_, rfl, by rw [HBit.out]; rfl, hb6⟩
          · refine relStep_plain rfl ?_
            intro Ac w5 hp
            have hb := hp.bel
            have a34 : Ac.eval (.tmp 34) = .pointer (some ⟨b, 0, none⟩) := hp.dep 0 (by kernel_rfl)
            have hc := evalC Ac; have hf := evalF Ac; have hgl := evalG Ac
            obtain ⟨ρ, hρ⟩ : ∃ ρ, Ac.eval = ρ := ⟨_, rfl⟩
            rw [hρ] at a34 hc hf hgl
            exact relPure hρ (.pointer (some ⟨b, 0, none⟩)) (by simp [go_sem, hc, hf, hgl, ↓IntWalk.iteOmega, a34, *]) rfl
          · refine relStep_plain rfl ?_
            intro Ac w5 hp
            have hb := hp.bel
            have a41 : Ac.eval (.tmp 41) = .pointer (some ⟨b, 0, none⟩) := hp.dep 7 (by kernel_rfl)
            have hc := evalC Ac; have hf := evalF Ac; have hgl := evalG Ac
            obtain ⟨ρ, hρ⟩ : ∃ ρ, Ac.eval = ρ := ⟨_, rfl⟩
            rw [hρ] at a41 hc hf hgl
            exact relPure hρ (.pointer (some ⟨b, 13, none⟩)) (by simp [go_sem, hc, hf, hgl, ↓IntWalk.iteOmega, a41, *]) rfl
          · refine relStep_plain rfl ?_
            intro Ac w5 hp
            have hb := hp.bel
            have a42 : Ac.eval (.tmp 42) = .pointer (some ⟨b, 13, none⟩) := hp.dep 8 (by kernel_rfl)
            have a40 : Ac.eval (.tmp 40) = .int .i64 0 := hp.dep 6 (by kernel_rfl)
            have hc := evalC Ac; have hf := evalF Ac; have hgl := evalG Ac
            obtain ⟨ρ, hρ⟩ : ∃ ρ, Ac.eval = ρ := ⟨_, rfl⟩
            rw [hρ] at a42 a40 hc hf hgl
            exact relPure hρ (.pointer (some ⟨b, 13, none⟩)) (by simp [go_sem, hc, hf, hgl, ↓IntWalk.iteOmega, a42, a40, *]) rfl
          · refine relStep_plain rfl ?_
            intro Ac w5 hp
            have hb := hp.bel
            have a43 : Ac.eval (.tmp 43) = .pointer (some ⟨b, 13, none⟩) := hp.dep 9 (by kernel_rfl)
            have hk5 := HN.out.below hb HN.out.lt
            have hx5 := HX.out.below hb HX.out.lt
            have y0 : w5.cell? ⟨b, 0, none⟩ = some (.int .u32 (a : Int)) := hk5.cell 0
            have y1 : w5.cell? ⟨b, 1, none⟩ = some (.int .i64 (n : Int)) := hk5.cell 1
            have y13 : w5.cell? ⟨b, 13, none⟩ = some (trPtr l) := hk5.cell 13
            have y14 : w5.cell? ⟨b, 14, none⟩ = some (trPtr r) := hk5.cell 14
            have x0 : w5.cell? ⟨xb, 0, none⟩ = some (.int .u32 (c : Int)) := hx5.cell 0
            have x1 : w5.cell? ⟨xb, 1, none⟩ = some (.int .i64 (k : Int)) := hx5.cell 1
            have hc := evalC Ac; have hf := evalF Ac; have hgl := evalG Ac
            obtain ⟨ρ, hρ⟩ : ∃ ρ, Ac.eval = ρ := ⟨_, rfl⟩
            rw [hρ] at a43 hc hf hgl
            exact relPure hρ (trPtr l) (by simp [go_sem, hc, hf, hgl, ↓IntWalk.iteOmega, a43, *]) rfl
          intro u w9 hb7 hall
          have e44 : u 10 = trPtr l := relAll_at hall (i := 10) (by decide +kernel)
          clear hall
          simp only [List.drop_succ_cons, List.drop_zero, List.take_succ_cons, List.take_zero, putAll, Act.put, List.setIfInBounds_toArray, List.set_cons_zero, List.set_cons_succ, Nat.zero_add, Nat.reduceAdd, e44]
          have HB9 := hide (HB28.out.trans (hb7.mono HB28.out.size))
          have HX9 := hide (HX.out.below hb7 HX.out.lt)
          clear hb7 HN HX
          go_wp2
          go_step3
          refine ⟨rfl, ⟨l, xb, _, rfl, rfl, HL.out.chg (S := fun _ => False) (chg_below HB9.out) (by simp) (by simp), HWl.out, ?_, HX9.out, HB2.out.trans (HB9.out.mono HB2.out.size)⟩, ?_⟩
          · rw [← HSf.out, trFind, if_pos HCvP.out, if_neg HE.out, if_pos HBit.out]
          · have h1 := trRank_in HIl.out HGa.out.2.1
            refine Nat.lt_of_le_of_lt (Nat.le_of_eq (trDownA (HL.out.chg (S := fun _ => False) (chg_below HB9.out) (by simp) (by simp)) ?_)) (Nat.lt_of_lt_of_eq h1 HRk.out.symm)
            rfl
        · skip
          have Hmn := hide (show AllMono [(fun v _ => v = .pointer (some ⟨b, 0, none⟩)), (fun v _ => v = .pointer (some ⟨b, 0, none⟩)), (fun v _ => v = .pointer (some ⟨b, 0, none⟩)), (fun v _ => v = .pointer (some ⟨b, 0, none⟩)), (fun v _ => v = .agg #[.int .u32 (a : Int), .int .i64 (n : Int)]), (fun v _ => v = .agg #[.int .u32 (c : Int), .int .i64 (k : Int)]), (fun v _ => v = .int .i64 1), (fun v _ => v = .pointer (some ⟨b, 0, none⟩)), (fun v _ => v = .pointer (some ⟨b, 13, none⟩)), (fun v _ => v = .pointer (some ⟨b, 14, none⟩)), (fun v _ => v = trPtr r)] from ⟨fun _ _ _ _ h => h, fun _ _ _ _ h => h, fun _ _ _ _ h => h, fun _ _ _ _ h => h, fun _ _ _ _ h => h, fun _ _ _ _ h => h, fun _ _ _ _ h => h, fun _ _ _ _ h => h, fun _ _ _ _ h => h, fun _ _ _ _ h => h, fun _ _ _ _ h => h, trivial⟩)
          refine wp_region_relT 11 _ (by kernel_rfl) (by kernel_rfl) (by kernel_rfl) (by kernel_rfl) (by kernel_rfl) (relMono _ Hmn.out) ⟨?_, ?_, ?_, ?_, ?_, ?_, ?_, ?_, ?_, ?_, ?_, trivial⟩ ?_
          · refine relStep_plain rfl ?_
            intro Ac w5 hp
            have hb := hp.bel
            have a5 : Ac.eval (.tmp 5) = .pointer (some ⟨b, 0, none⟩) := hp.out 5 (by rfl)
            have hc := evalC Ac; have hf := evalF Ac; have hgl := evalG Ac
            obtain ⟨ρ, hρ⟩ : ∃ ρ, Ac.eval = ρ := ⟨_, rfl⟩
            rw [hρ] at a5 hc hf hgl
            exact relPure hρ (.pointer (some ⟨b, 0, none⟩)) (by simp [go_sem, hc, hf, hgl, ↓IntWalk.iteOmega, a5, *]) rfl
          · refine relStep_plain rfl ?_
            intro Ac w5 hp
            have hb := hp.bel
            have a5 : Ac.eval (.tmp 5) = .pointer (some ⟨b, 0, none⟩) := hp.out 5 (by rfl)
            have hc := evalC Ac; have hf := evalF Ac; have hgl := evalG Ac
            obtain ⟨ρ, hρ⟩ : ∃ ρ, Ac.eval = ρ := ⟨_, rfl⟩
            rw [hρ] at a5 hc hf hgl
            exact relPure hρ (.pointer (some ⟨b, 0, none⟩)) (by simp [go_sem, hc, hf, hgl, ↓IntWalk.iteOmega, a5, *]) rfl
          · refine relStep_plain rfl ?_
            intro Ac w5 hp
            have hb := hp.bel
            have a35 : Ac.eval (.tmp 35) = .pointer (some ⟨b, 0, none⟩) := hp.dep 1 (by kernel_rfl)
            have hc := evalC Ac; have hf := evalF Ac; have hgl := evalG Ac
            obtain ⟨ρ, hρ⟩ : ∃ ρ, Ac.eval = ρ := ⟨_, rfl⟩
            rw [hρ] at a35 hc hf hgl
            exact relPure hρ (.pointer (some ⟨b, 0, none⟩)) (by simp [go_sem, hc, hf, hgl, ↓IntWalk.iteOmega, a35, *]) rfl
          · refine relStep_plain rfl ?_
            intro Ac w5 hp
            have hb := hp.bel
            have a36 : Ac.eval (.tmp 36) = .pointer (some ⟨b, 0, none⟩) := hp.dep 2 (by kernel_rfl)
            have hc := evalC Ac; have hf := evalF Ac; have hgl := evalG Ac
            obtain ⟨ρ, hρ⟩ : ∃ ρ, Ac.eval = ρ := ⟨_, rfl⟩
            rw [hρ] at a36 hc hf hgl
            exact relPure hρ (.pointer (some ⟨b, 0, none⟩)) (by simp [go_sem, hc, hf, hgl, ↓IntWalk.iteOmega, a36, *]) rfl
          · refine relStep_plain rfl ?_
            intro Ac w5 hp
            have hb := hp.bel
            have a37 : Ac.eval (.tmp 37) = .pointer (some ⟨b, 0, none⟩) := hp.dep 3 (by kernel_rfl)
            have hk5 := HN.out.below hb HN.out.lt
            have hx5 := HX.out.below hb HX.out.lt
            have y0 : w5.cell? ⟨b, 0, none⟩ = some (.int .u32 (a : Int)) := hk5.cell 0
            have y1 : w5.cell? ⟨b, 1, none⟩ = some (.int .i64 (n : Int)) := hk5.cell 1
            have y13 : w5.cell? ⟨b, 13, none⟩ = some (trPtr l) := hk5.cell 13
            have y14 : w5.cell? ⟨b, 14, none⟩ = some (trPtr r) := hk5.cell 14
            have x0 : w5.cell? ⟨xb, 0, none⟩ = some (.int .u32 (c : Int)) := hx5.cell 0
            have x1 : w5.cell? ⟨xb, 1, none⟩ = some (.int .i64 (k : Int)) := hx5.cell 1
            have hc := evalC Ac; have hf := evalF Ac; have hgl := evalG Ac
            obtain ⟨ρ, hρ⟩ : ∃ ρ, Ac.eval = ρ := ⟨_, rfl⟩
            rw [hρ] at a37 hc hf hgl
            exact relPure hρ (.agg #[.int .u32 (a : Int), .int .i64 (n : Int)]) (by simp [go_sem, hc, hf, hgl, ↓IntWalk.iteOmega, a37, *]) rfl
          · refine relStep_plain rfl ?_
            intro Ac w5 hp
            have hb := hp.bel
            have a3 : Ac.eval (.tmp 3) = .pointer (some ⟨xb, 0, none⟩) := hp.out 3 (by rfl)
            have hk5 := HN.out.below hb HN.out.lt
            have hx5 := HX.out.below hb HX.out.lt
            have y0 : w5.cell? ⟨b, 0, none⟩ = some (.int .u32 (a : Int)) := hk5.cell 0
            have y1 : w5.cell? ⟨b, 1, none⟩ = some (.int .i64 (n : Int)) := hk5.cell 1
            have y13 : w5.cell? ⟨b, 13, none⟩ = some (trPtr l) := hk5.cell 13
            have y14 : w5.cell? ⟨b, 14, none⟩ = some (trPtr r) := hk5.cell 14
            have x0 : w5.cell? ⟨xb, 0, none⟩ = some (.int .u32 (c : Int)) := hx5.cell 0
            have x1 : w5.cell? ⟨xb, 1, none⟩ = some (.int .i64 (k : Int)) := hx5.cell 1
            have hc := evalC Ac; have hf := evalF Ac; have hgl := evalG Ac
            obtain ⟨ρ, hρ⟩ : ∃ ρ, Ac.eval = ρ := ⟨_, rfl⟩
            rw [hρ] at a3 hc hf hgl
            exact relPure hρ (.agg #[.int .u32 (c : Int), .int .i64 (k : Int)]) (by simp [go_sem, hc, hf, hgl, ↓IntWalk.iteOmega, a3, *]) rfl
          · refine relStep_plain rfl ?_
            intro Ac w5 hp
            have hb := hp.bel
            have a38 : Ac.eval (.tmp 38) = .agg #[.int .u32 (a : Int), .int .i64 (n : Int)] := hp.dep 4 (by kernel_rfl)
            have a39 : Ac.eval (.tmp 39) = .agg #[.int .u32 (c : Int), .int .i64 (k : Int)] := hp.dep 5 (by kernel_rfl)
            have hc := evalC Ac; have hf := evalF Ac; have hgl := evalG Ac
            obtain ⟨ρ, hρ⟩ : ∃ ρ, Ac.eval = ρ := ⟨_, rfl⟩
            rw [hρ] at a38 a39 hc hf hgl
            refine relCall hρ 319 #[.agg #[.int .u32 (a : Int), .int .i64 (n : Int)], .agg #[.int .u32 (c : Int), .int .i64 (k : Int)]] (by simp [go_sem, hc, hf, hgl, ↓IntWalk.iteOmega, a38, a39, *]) ?_
            refine (HSd.out w5).mono ?_
            rintro e w6 ⟨rfl, hb6⟩
            exact ⟨_, rfl, by rw [HBit.out]; rfl, hb6⟩
          · refine relStep_plain rfl ?_
            intro Ac w5 hp
            have hb := hp.bel
            have a34 : Ac.eval (.tmp 34) = .pointer (some ⟨b, 0, none⟩) := hp.dep 0 (by kernel_rfl)
            have hc := evalC Ac; have hf := evalF Ac; have hgl := evalG Ac
            obtain ⟨ρ, hρ⟩ : ∃ ρ, Ac.eval = ρ := ⟨_, rfl⟩
            rw [hρ] at a34 hc hf hgl
            exact relPure hρ (.pointer (some ⟨b, 0, none⟩)) (by simp [go_sem, hc, hf, hgl, ↓IntWalk.iteOmega, a34, *]) rfl
          · refine relStep_plain rfl ?_
            intro Ac w5 hp
            have hb := hp.bel
            have a41 : Ac.eval (.tmp 41) = .pointer (some ⟨b, 0, none⟩) := hp.dep 7 (by kernel_rfl)
            have hc := evalC Ac; have hf := evalF Ac; have hgl := evalG Ac
            obtain ⟨ρ, hρ⟩ : ∃ ρ, Ac.eval = ρ := ⟨_, rfl⟩
            rw [hρ] at a41 hc hf hgl
            exact relPure hρ (.pointer (some ⟨b, 13, none⟩)) (by simp [go_sem, hc, hf, hgl, ↓IntWalk.iteOmega, a41, *]) rfl
          · refine relStep_plain rfl ?_
            intro Ac w5 hp
            have hb := hp.bel
            have a42 : Ac.eval (.tmp 42) = .pointer (some ⟨b, 13, none⟩) := hp.dep 8 (by kernel_rfl)
            have a40 : Ac.eval (.tmp 40) = .int .i64 1 := hp.dep 6 (by kernel_rfl)
            have hc := evalC Ac; have hf := evalF Ac; have hgl := evalG Ac
            obtain ⟨ρ, hρ⟩ : ∃ ρ, Ac.eval = ρ := ⟨_, rfl⟩
            rw [hρ] at a42 a40 hc hf hgl
            exact relPure hρ (.pointer (some ⟨b, 14, none⟩)) (by simp [go_sem, hc, hf, hgl, ↓IntWalk.iteOmega, a42, a40, *]) rfl
          · refine relStep_plain rfl ?_
            intro Ac w5 hp
            have hb := hp.bel
            have a43 : Ac.eval (.tmp 43) = .pointer (some ⟨b, 14, none⟩) := hp.dep 9 (by kernel_rfl)
            have hk5 := HN.out.below hb HN.out.lt
            have hx5 := HX.out.below hb HX.out.lt
            have y0 : w5.cell? ⟨b, 0, none⟩ = some (.int .u32 (a : Int)) := hk5.cell 0
            have y1 : w5.cell? ⟨b, 1, none⟩ = some (.int .i64 (n : Int)) := hk5.cell 1
            have y13 : w5.cell? ⟨b, 13, none⟩ = some (trPtr l) := hk5.cell 13
            have y14 : w5.cell? ⟨b, 14, none⟩ = some (trPtr r) := hk5.cell 14
            have x0 : w5.cell? ⟨xb, 0, none⟩ = some (.int .u32 (c : Int)) := hx5.cell 0
            have x1 : w5.cell? ⟨xb, 1, none⟩ = some (.int .i64 (k : Int)) := hx5.cell 1
            have hc := evalC Ac; have hf := evalF Ac; have hgl := evalG Ac
            obtain ⟨ρ, hρ⟩ : ∃ ρ, Ac.eval = ρ := ⟨_, rfl⟩
            rw [hρ] at a43 hc hf hgl
            exact relPure hρ (trPtr r) (by simp [go_sem, hc, hf, hgl, ↓IntWalk.iteOmega, a43, *]) rfl
          intro u w9 hb7 hall
          have e44 : u 10 = trPtr r := relAll_at hall (i := 10) (by decide +kernel)
          clear hall
          simp only [List.drop_succ_cons, List.drop_zero, List.take_succ_cons, List.take_zero, putAll, Act.put, List.setIfInBounds_toArray, List.set_cons_zero, List.set_cons_succ, Nat.zero_add, Nat.reduceAdd, e44]
          have HB9 := hide (HB28.out.trans (hb7.mono HB28.out.size))
          have HX9 := hide (HX.out.below hb7 HX.out.lt)
          clear hb7 HN HX
          go_wp2
          go_step3
          refine ⟨rfl, ⟨r, xb, _, rfl, rfl, HRr.out.chg (S := fun _ => False) (chg_below HB9.out) (by simp) (by simp), HWr.out, ?_, HX9.out, HB2.out.trans (HB9.out.mono HB2.out.size)⟩, ?_⟩
          · rw [← HSf.out, trFind, if_pos HCvP.out, if_neg HE.out, if_neg (by have := HBit.out; omega)]
          · have h1 := trRank_in HIr.out HGa.out.2.1
            refine Nat.lt_of_le_of_lt (Nat.le_of_eq (trDownA (HRr.out.chg (S := fun _ => False) (chg_below HB9.out) (by simp) (by simp)) ?_)) (Nat.lt_of_lt_of_eq h1 HRk.out.symm)
            rfl
    · rw [decide_eq_false hcv] at HCv
      have HR : Hid (trPtr (trFind c k t) = .pointer none) := hide (by rw [← HSf.out, trFind, if_neg hcv]; rfl)
      clear hcv
      go_upto_region 4 with fail
      have Hmn := hide (show AllMono [(fun v _ => v = .pointer (some ⟨b, 0, none⟩)), (fun v _ => v = .bool false), (fun v _ => v = .bool false), (fun v _ => v = .pointer (some ⟨b, 0, none⟩)), (fun v _ => v = .pointer (some ⟨b, 0, none⟩)), (fun v _ => v = .pointer (some ⟨b, 0, none⟩)), (fun v _ => v = .agg #[.int .u32 (a : Int), .int .i64 (n : Int)]), (fun v _ => v = .agg #[.int .u32 (c : Int), .int .i64 (k : Int)]), (fun v _ => v = .bool false), (fun v _ => v = .bool true), (fun v _ => v = .bool true)] from ⟨fun _ _ _ _ h => h, fun _ _ _ _ h => h, fun _ _ _ _ h => h, fun _ _ _ _ h => h, fun _ _ _ _ h => h, fun _ _ _ _ h => h, fun _ _ _ _ h => h, fun _ _ _ _ h => h, fun _ _ _ _ h => h, fun _ _ _ _ h => h, fun _ _ _ _ h => h, trivial⟩)
      refine wp_region_rel _ (by kernel_rfl) (by kernel_rfl) (relMono _ Hmn.out) ⟨?_, ?_, ?_, ?_, ?_, ?_, ?_, ?_, ?_, ?_, ?_, trivial⟩ ?_
      · refine relStep_plain rfl ?_
        intro Ac w5 hp
        have hb := hp.bel
        have a5 : Ac.eval (.tmp 5) = .pointer (some ⟨b, 0, none⟩) := hp.out 5 (by rfl)
        have hc := evalC Ac; have hf := evalF Ac; have hgl := evalG Ac
        obtain ⟨ρ, hρ⟩ : ∃ ρ, Ac.eval = ρ := ⟨_, rfl⟩
        rw [hρ] at a5 hc hf hgl
        exact relPure hρ (.pointer (some ⟨b, 0, none⟩)) (by simp [go_sem, hc, hf, hgl, ↓IntWalk.iteOmega, a5, *]) rfl
      · refine relStep_plain rfl ?_
        intro Ac w5 hp
        have hb := hp.bel
        have a17 : Ac.eval (.tmp 17) = .pointer (some ⟨b, 0, none⟩) := hp.dep 0 (by kernel_rfl)
        have hc := evalC Ac; have hf := evalF Ac; have hgl := evalG Ac
        obtain ⟨ρ, hρ⟩ : ∃ ρ, Ac.eval = ρ := ⟨_, rfl⟩
        rw [hρ] at a17 hc hf hgl
        exact relPure hρ (.bool false) (by simp [go_sem, hc, hf, hgl, ↓IntWalk.iteOmega, a17, *]) rfl
      · refine relStep_plain rfl ?_
        intro Ac w5 hp
        have hb := hp.bel
        have a18 : Ac.eval (.tmp 18) = .bool false := hp.dep 1 (by kernel_rfl)
        have hc := evalC Ac; have hf := evalF Ac; have hgl := evalG Ac
        obtain ⟨ρ, hρ⟩ : ∃ ρ, Ac.eval = ρ := ⟨_, rfl⟩
        rw [hρ] at a18 hc hf hgl
        exact relPure hρ (.bool false) (by simp [go_sem, hc, hf, hgl, ↓IntWalk.iteOmega, a18, *]) rfl
      · refine relStep_guard (g := 2) (b := false) (x := false) rfl (by kernel_rfl) rfl (by kernel_rfl) rfl (fun _ _ h => h) ?_
        intro Ac w5 hp
        have hb := hp.bel
        have a5 : Ac.eval (.tmp 5) = .pointer (some ⟨b, 0, none⟩) := hp.out 5 (by rfl)
        have hc := evalC Ac; have hf := evalF Ac; have hgl := evalG Ac
        obtain ⟨ρ, hρ⟩ : ∃ ρ, Ac.eval = ρ := ⟨_, rfl⟩
        rw [hρ] at a5 hc hf hgl
        exact relPure hρ (.pointer (some ⟨b, 0, none⟩)) (by simp [go_sem, hc, hf, hgl, ↓IntWalk.iteOmega, a5, *]) rfl
      · refine relStep_guard (g := 2) (b := false) (x := false) rfl (by kernel_rfl) rfl (by kernel_rfl) rfl (fun _ _ h => h) ?_
        intro Ac w5 hp
        have hb := hp.bel
        have a20 : Ac.eval (.tmp 20) = .pointer (some ⟨b, 0, none⟩) := hp.dep 3 (by kernel_rfl)
        have hc := evalC Ac; have hf := evalF Ac; have hgl := evalG Ac
        obtain ⟨ρ, hρ⟩ : ∃ ρ, Ac.eval = ρ := ⟨_, rfl⟩
        rw [hρ] at a20 hc hf hgl
        exact relPure hρ (.pointer (some ⟨b, 0, none⟩)) (by simp [go_sem, hc, hf, hgl, ↓IntWalk.iteOmega, a20, *]) rfl
      · refine relStep_guard (g := 2) (b := false) (x := false) rfl (by kernel_rfl) rfl (by kernel_rfl) rfl (fun _ _ h => h) ?_
        intro Ac w5 hp
        have hb := hp.bel
        have a21 : Ac.eval (.tmp 21) = .pointer (some ⟨b, 0, none⟩) := hp.dep 4 (by kernel_rfl)
        have hc := evalC Ac; have hf := evalF Ac; have hgl := evalG Ac
        obtain ⟨ρ, hρ⟩ : ∃ ρ, Ac.eval = ρ := ⟨_, rfl⟩
        rw [hρ] at a21 hc hf hgl
        exact relPure hρ (.pointer (some ⟨b, 0, none⟩)) (by simp [go_sem, hc, hf, hgl, ↓IntWalk.iteOmega, a21, *]) rfl
      · refine relStep_guard (g := 2) (b := false) (x := false) rfl (by kernel_rfl) rfl (by kernel_rfl) rfl (fun _ _ h => h) ?_
        intro Ac w5 hp
        have hb := hp.bel
        have a22 : Ac.eval (.tmp 22) = .pointer (some ⟨b, 0, none⟩) := hp.dep 5 (by kernel_rfl)
        have hk5 := HN.out.below hb HN.out.lt
        have hx5 := HX.out.below hb HX.out.lt
        have y0 : w5.cell? ⟨b, 0, none⟩ = some (.int .u32 (a : Int)) := hk5.cell 0
        have y1 : w5.cell? ⟨b, 1, none⟩ = some (.int .i64 (n : Int)) := hk5.cell 1
        have x0 : w5.cell? ⟨xb, 0, none⟩ = some (.int .u32 (c : Int)) := hx5.cell 0
        have x1 : w5.cell? ⟨xb, 1, none⟩ = some (.int .i64 (k : Int)) := hx5.cell 1
        have hc := evalC Ac; have hf := evalF Ac; have hgl := evalG Ac
        obtain ⟨ρ, hρ⟩ : ∃ ρ, Ac.eval = ρ := ⟨_, rfl⟩
        rw [hρ] at a22 hc hf hgl
        exact relPure hρ (.agg #[.int .u32 (a : Int), .int .i64 (n : Int)]) (by simp [go_sem, hc, hf, hgl, ↓IntWalk.iteOmega, a22, *]) rfl
      · refine relStep_guard (g := 2) (b := false) (x := false) rfl (by kernel_rfl) rfl (by kernel_rfl) rfl (fun _ _ h => h) ?_
        intro Ac w5 hp
        have hb := hp.bel
        have a3 : Ac.eval (.tmp 3) = .pointer (some ⟨xb, 0, none⟩) := hp.out 3 (by rfl)
        have hk5 := HN.out.below hb HN.out.lt
        have hx5 := HX.out.below hb HX.out.lt
        have y0 : w5.cell? ⟨b, 0, none⟩ = some (.int .u32 (a : Int)) := hk5.cell 0
        have y1 : w5.cell? ⟨b, 1, none⟩ = some (.int .i64 (n : Int)) := hk5.cell 1
        have x0 : w5.cell? ⟨xb, 0, none⟩ = some (.int .u32 (c : Int)) := hx5.cell 0
        have x1 : w5.cell? ⟨xb, 1, none⟩ = some (.int .i64 (k : Int)) := hx5.cell 1
        have hc := evalC Ac; have hf := evalF Ac; have hgl := evalG Ac
        obtain ⟨ρ, hρ⟩ : ∃ ρ, Ac.eval = ρ := ⟨_, rfl⟩
        rw [hρ] at a3 hc hf hgl
        exact relPure hρ (.agg #[.int .u32 (c : Int), .int .i64 (k : Int)]) (by simp [go_sem, hc, hf, hgl, ↓IntWalk.iteOmega, a3, *]) rfl
      · refine relStep_guard (g := 2) (b := false) (x := false) rfl (by kernel_rfl) rfl (by kernel_rfl) rfl (fun _ _ h => h) ?_
        intro Ac w5 hp
        have hb := hp.bel
        have a23 : Ac.eval (.tmp 23) = .agg #[.int .u32 (a : Int), .int .i64 (n : Int)] := hp.dep 6 (by kernel_rfl)
        have a24 : Ac.eval (.tmp 24) = .agg #[.int .u32 (c : Int), .int .i64 (k : Int)] := hp.dep 7 (by kernel_rfl)
        have hc := evalC Ac; have hf := evalF Ac; have hgl := evalG Ac
        obtain ⟨ρ, hρ⟩ : ∃ ρ, Ac.eval = ρ := ⟨_, rfl⟩
        rw [hρ] at a23 a24 hc hf hgl
        refine relCall hρ 318 #[.agg #[.int .u32 (a : Int), .int .i64 (n : Int)], .agg #[.int .u32 (c : Int), .int .i64 (k : Int)]] (by simp [go_sem, hc, hf, hgl, ↓IntWalk.iteOmega, a23, a24, *]) ?_
        refine (HCv.out w5).mono ?_
        rintro e w6 ⟨rfl, hb6⟩
        exact ⟨_, rfl, rfl, hb6⟩
      · refine relStep_guard (g := 2) (b := false) (x := false) rfl (by kernel_rfl) rfl (by kernel_rfl) rfl (fun _ _ h => h) ?_
        intro Ac w5 hp
        have hb := hp.bel
        have a25 : Ac.eval (.tmp 25) = .bool false := hp.dep 8 (by kernel_rfl)
        have hc := evalC Ac; have hf := evalF Ac; have hgl := evalG Ac
        obtain ⟨ρ, hρ⟩ : ∃ ρ, Ac.eval = ρ := ⟨_, rfl⟩
        rw [hρ] at a25 hc hf hgl
        exact relPure hρ (.bool true) (by simp [go_sem, hc, hf, hgl, ↓IntWalk.iteOmega, a25, *]) rfl
      · refine relStep_plain rfl ?_
        intro Ac w5 hp
        have hb := hp.bel
        have a19 : Ac.eval (.tmp 19) = .bool false := hp.dep 2 (by kernel_rfl)
        have a26 : Ac.eval (.tmp 26) = .bool true := hp.dep 9 (by kernel_rfl)
        have hc := evalC Ac; have hf := evalF Ac; have hgl := evalG Ac
        obtain ⟨ρ, hρ⟩ : ∃ ρ, Ac.eval = ρ := ⟨_, rfl⟩
        rw [hρ] at a19 a26 hc hf hgl
        exact relPure hρ (.bool true) (by simp [go_sem, hc, hf, hgl, ↓IntWalk.iteOmega, a19, a26, *]) rfl
      intro u w7 hb7 hall
      have e27 : u 10 = .bool true := relAll_at hall (i := 10) (by decide +kernel)
      clear hall
      simp only [List.drop_succ_cons, List.drop_zero, List.take_succ_cons, List.take_zero, putAll, Act.put, List.setIfInBounds_toArray, List.set_cons_zero, List.set_cons_succ, Nat.zero_add, Nat.reduceAdd, e27]
      have HB7 := hide (HB2.out.trans (hb7.mono HB2.out.size))
      clear hb7
      go_wp2
      simp only [Exit.jump]
      go_ret
      exact ⟨by rw [HR.out]; rfl, HB7.out⟩
end Go.Proofs.YtgkpkljenndpkaaGreat
set_option linter.unusedSimpArgs false
set_option linter.unusedVariables false
namespace Go.Proofs.YtgkpkljenndpkaaGreat
open Go.RowKit Go.WideShapes Go.ChangeShapes
attribute [local go_sem] Oper.semAt_some
/-- What is told of a prefix. -/
structure TD where
  a : Int
  n : Int
  at_ : AT
def tdR (w : World) (vs : List Value) (x : TD) : Prop := ∃ A k c B m d, vs = [.int .u32 x.a, .int .i64 x.n, .int .i64 x.at_.has, .int .i64 x.at_.org, .slice A k c, .int .u32 x.at_.hop, .int .u32 x.at_.med, .int .u32 x.at_.pref, .int .u32 x.at_.aas, .int .u32 x.at_.aid, .slice B m d] ∧ LstAt 2 sgR w A k c x.at_.path ∧ U32s w B m d x.at_.comms
theorem tdMono : SMono tdR := fun _ _ _ _ hb ⟨A, k, c, B, m, d, e, h1, h2⟩ => ⟨A, k, c, B, m, d, e, h1.below sgMono hb, h2.below hb⟩
theorem toldInfo : (Tryz.prog.info? 172).map (fun i => (i.zero, i.size, i.bytes)) = some (some (.agg #[.int .u32 0, .int .i64 0, .int .i64 0, .int .i64 0, .slice none 0 0, .int .u32 0, .int .u32 0, .int .u32 0, .int .u32 0, .int .u32 0, .slice none 0 0]), 11, 104) := by kernel_rfl
theorem frb_ob {B : Nat} {ob : Option Nat} {R : World → Prop} {w : World} (h : FrB B none R w) (hob : ∀ k, ob = some k → k < B) : FrB B ob R w := fun w2 h2 =>
  h w2 ⟨h2.1, fun k o h0 h1 hc _ => h2.2 k o h0 h1 hc (fun e => by have := hob k e.symm; omega)⟩
theorem td_fr {b B : Nat} {w : World} {Y : AT} {a n : Int} {A : Option Addr} {k c : Nat} {Bq : Option Addr} {m d : Nat} {xs : List Value} {ob : Option Nat} (h1 : LOw 2 64 sgR w b b A k c Y.path xs) (h2 : FrB b none (fun w => U32s w Bq m d Y.comms) w) (hB : B ≤ b) (hob : ∀ k, ob = some k → k < b) :
    FrB B ob (fun w => tdR w [.int .u32 a, .int .i64 n, .int .i64 Y.has, .int .i64 Y.org, .slice A k c, .int .u32 Y.hop, .int .u32 Y.med, .int .u32 Y.pref, .int .u32 Y.aas, .int .u32 Y.aid, .slice Bq m d] ⟨a, n, Y⟩) w :=
  (frb_ob (((h1.fr (by decide) (Nat.le_refl _)).and h2).imp fun w h => ⟨A, k, c, Bq, m, d, rfl, h.1, h.2⟩) hob).less hB
theorem TDat {w : World} {A : Option Addr} {n c q : Nat} {l : List TD} (h : LstAt 11 tdR w A n c l) (hq : q < n) : ∃ g o x B1 k1 c1 B2 m2 d2, A = some ⟨g, o, none⟩ ∧ g < w.heap.size ∧ l[q]? = some x ∧ LstAt 2 sgR w B1 k1 c1 x.at_.path ∧ U32s w B2 m2 d2 x.at_.comms ∧ ∀ (j : Nat) (v : Value), [.int .u32 x.a, .int .i64 x.n, .int .i64 x.at_.has, .int .i64 x.at_.org, .slice B1 k1 c1, .int .u32 x.at_.hop, .int .u32 x.at_.med, .int .u32 x.at_.pref, .int .u32 x.at_.aas, .int .u32 x.at_.aid, .slice B2 m2 d2][j]? = some v → w.cell? ⟨g, o + q * 11 + j, none⟩ = some v := by
  obtain ⟨h1, h2, h3, h4⟩ := h
  obtain ⟨g, o, rfl, hg, hc⟩ := h4 (by omega)
  have hx : l[q]? = some l[q] := List.getElem?_eq_getElem (by omega)
  obtain ⟨vs, hl, ⟨B1, k1, c1, B2, m2, d2, rfl, hr1, hr2⟩, hcs⟩ := hc q _ hx
  exact ⟨g, o, _, B1, k1, c1, B2, m2, d2, rfl, hg, hx, hr1, hr2, hcs⟩
def cutTD (x : TD) : TD := ⟨x.a, x.n, cutA x.at_⟩
set_option maxRecDepth 100000 in
set_option maxHeartbeats 8000000 in
theorem few36_any (A : Option Addr) (n c : Nat) (l : List TD) (w : World) (h : LstAt 11 tdR w A n c l) :
    Calls Tryz.prog 35 #[.slice A n c] w fun e w' => ∃ A' n' c' xs, e = .returned (.slice A' n' c') ∧ LOw 11 172 tdR w' w.heap.size w.heap.size A' n' c' ((l.take 12).map cutTD) xs ∧ Below w.heap.size w w' := by
  obtain ⟨i0, hi, hz0, hz1, hz2⟩ := info_parts toldInfo
  have hln := h.1
  have hnc := h.2.1
  have hmx := h.2.2.1
  unfold maxLen at hmx
  have HLs := hide h
  have HL0 : Hid (LOw 11 172 tdR (w.alloc (.cells #[] 172)) w.heap.size w.heap.size (some ⟨w.heap.size, 0, none⟩) 0 0 [] []) := hide ⟨w.ownsRow_lit #[] 0 (Nat.le_refl _) (by unfold maxLen; omega) rfl, by simp, fun k x hk => by simp at hk⟩
  have HB0 : Hid (Below w.heap.size w (w.alloc (.cells #[] 172))) := hide ((Below.refl _ w).alloc (Nat.le_refl _) _)
  clear h
  go_enter Tryz.func35, Tryz.ntmps35
  go_wp2
  go_loopw [3, 4] (fun vo iv wr => ∃ (q : Nat) (A1 : Option Addr) (n1 c1 : Nat) (xs : List Value), q ≤ n ∧ q ≤ 12 ∧ iv = .int .i64 (q : Nat) ∧ vo = .slice A1 n1 c1 ∧ LOw 11 172 tdR wr w.heap.size w.heap.size A1 n1 c1 ((l.take q).map cutTD) xs ∧ Below w.heap.size w wr) (fun _ iv _ => n - (intOf iv).toNat)
  case atStart => exact ⟨0, some ⟨w.heap.size, 0, none⟩, 0, 0, [], Nat.zero_le _, Nat.zero_le _, rfl, rfl, HL0.out, HB0.out⟩
  case round =>
    obtain ⟨q, A1, n1, c1, xs, hq, hq12, rfl, rfl, hlo, hbel⟩ := hrel
    have HLo := hide hlo
    have HBe := hide hbel
    have hs1 := hbel.size
    have hn1 := (hlo.lst (by decide)).1
    rw [List.length_map, List.length_take] at hn1
    by_cases hlt : q < n ∧ q < 12
    · obtain ⟨hlt, hl12⟩ := hlt
      obtain ⟨g, o, x, B1, k1, c1', B2, m2, d2, rfl, hg, hx, hr1, hr2, hcs⟩ := TDat (HLs.out.below tdMono hbel) hlt
      obtain ⟨Y, hY⟩ : ∃ Y, cutA x.at_ = Y := ⟨_, rfl⟩
      have HE : Hid ((l.take (q + 1)).map cutTD = (l.take q).map cutTD ++ [⟨x.a, x.n, Y⟩]) := hide (by rw [List.take_add_one, hx, ← hY]; simp [cutTD])
      have HCs := hide hcs
      have HZ0 : Hid (wr.cell? ⟨g, o + q * 11, none⟩ = some (.int .u32 x.a)) := hide (hcs 0 _ rfl)
      have HZ1 : Hid (wr.cell? ⟨g, o + q * 11 + 1, none⟩ = some (.int .i64 x.n)) := hide (hcs 1 _ rfl)
      have HR1 := hide hr1
      have HR2 := hide hr2
      have HY := hide hY
      have q1 : (q : Int) < (n : Int) := by omega
      have q2 : (q : Int) < 12 := by omega
      have q0 : (0 : Int) ≤ (q : Int) := by omega
      have hwq : IntKind.i64.wrap ((q : Int) + 1) = (q : Int) + 1 := by rw [IntKind.wrap_i64]; omega
      clear hlo hbel hx hr1 hr2 hcs hY
      go_wp2
      have Hmn := hide (show AllMono [(fun v _ => v = Value.slice A1 n1 c1), (fun v _ => v = .slice (some ⟨g, o, none⟩) n c), (fun v _ => v = .int .i64 (q : Int)), (fun v _ => v = .pointer (some ⟨g, o + q * 11, none⟩)), (fun v _ => v = .pointer (some ⟨g, o + q * 11, none⟩)), (fun v _ => v = .agg #[.int .u32 x.a, .int .i64 x.n]), (fun v _ => v = .slice (some ⟨g, o, none⟩) n c), (fun v _ => v = .int .i64 (q : Int)), (fun v _ => v = .pointer (some ⟨g, o + q * 11, none⟩)), (fun v _ => v = .pointer (some ⟨g, o + q * 11 + 2, none⟩)), (fun v _ => v = atV x.at_.has x.at_.org B1 k1 c1' x.at_.hop x.at_.med x.at_.pref x.at_.aas x.at_.aid B2 m2 d2), (fun v W2 => ∃ A n c B m d, v = atV Y.has Y.org A n c Y.hop Y.med Y.pref Y.aas Y.aid B m d ∧ (∃ xs, LOw 2 64 sgR W2 wr.heap.size wr.heap.size A n c Y.path xs) ∧ FrB wr.heap.size none (fun w => U32s w B m d Y.comms) W2), (fun v W2 => ∃ A n c B m d, v = .agg #[.int .u32 x.a, .int .i64 x.n, .int .i64 Y.has, .int .i64 Y.org, .slice A n c, .int .u32 Y.hop, .int .u32 Y.med, .int .u32 Y.pref, .int .u32 Y.aas, .int .u32 Y.aid, .slice B m d] ∧ (∃ xs, LOw 2 64 sgR W2 wr.heap.size wr.heap.size A n c Y.path xs) ∧ FrB wr.heap.size none (fun w => U32s w B m d Y.comms) W2), (fun v W2 => ∃ R A n c B m d, v = .slice (some ⟨R, 0, none⟩) 1 1 ∧ Blk W2 R 172 #[.int .u32 x.a, .int .i64 x.n, .int .i64 Y.has, .int .i64 Y.org, .slice A n c, .int .u32 Y.hop, .int .u32 Y.med, .int .u32 Y.pref, .int .u32 Y.aas, .int .u32 Y.aid, .slice B m d] ∧ (∃ xs, LOw 2 64 sgR W2 wr.heap.size wr.heap.size A n c Y.path xs) ∧ FrB wr.heap.size none (fun w => U32s w B m d Y.comms) W2)] from ⟨fun _ _ _ _ h => h, fun _ _ _ _ h => h, fun _ _ _ _ h => h, fun _ _ _ _ h => h, fun _ _ _ _ h => h, fun _ _ _ _ h => h, fun _ _ _ _ h => h, fun _ _ _ _ h => h, fun _ _ _ _ h => h, fun _ _ _ _ h => h, fun _ _ _ _ h => h, fun v w2 w3 hb ⟨A, n, c, B, m, d, e, ⟨xs, h1⟩, h2⟩ => ⟨A, n, c, B, m, d, e, ⟨xs, h1.below hb⟩, h2.below hb⟩, fun v w2 w3 hb ⟨A, n, c, B, m, d, e, ⟨xs, h1⟩, h2⟩ => ⟨A, n, c, B, m, d, e, ⟨xs, h1.below hb⟩, h2.below hb⟩, fun v w2 w3 hb ⟨R, A, n, c, B, m, d, e, hk, ⟨xs, h1⟩, h2⟩ => ⟨R, A, n, c, B, m, d, e, hk.below hb hk.lt, ⟨xs, h1.below hb⟩, h2.below hb⟩, trivial⟩)
      refine wp_region_relT 14 _ (by kernel_rfl) (by kernel_rfl) (by kernel_rfl) (by kernel_rfl) (by kernel_rfl) (relMono _ Hmn.out) ⟨?_, ?_, ?_, ?_, ?_, ?_, ?_, ?_, ?_, ?_, ?_, ?_, ?_, ?_, trivial⟩ ?_
      · refine relStep_plain rfl ?_
        intro Ac w5 hp
        have hb := hp.bel
        have a3 : Ac.eval (.tmp 3) = Value.slice A1 n1 c1 := hp.out 3 (by rfl)
        have hc := evalC Ac; have hf := evalF Ac; have hgl := evalG Ac
        obtain ⟨ρ, hρ⟩ : ∃ ρ, Ac.eval = ρ := ⟨_, rfl⟩
        rw [hρ] at a3 hc hf hgl
        exact relPure hρ (Value.slice A1 n1 c1) (by simp [go_sem, hc, hf, hgl, ↓IntWalk.iteOmega, a3, *]) rfl
      · refine relStep_plain rfl ?_
        intro Ac w5 hp
        have hb := hp.bel
        have a0 : Ac.eval (.tmp 0) = .slice (some ⟨g, o, none⟩) n c := hp.out 0 (by rfl)
        have hc := evalC Ac; have hf := evalF Ac; have hgl := evalG Ac
        obtain ⟨ρ, hρ⟩ : ∃ ρ, Ac.eval = ρ := ⟨_, rfl⟩
        rw [hρ] at a0 hc hf hgl
        exact relPure hρ (.slice (some ⟨g, o, none⟩) n c) (by simp [go_sem, hc, hf, hgl, ↓IntWalk.iteOmega, a0, *]) rfl
      · refine relStep_plain rfl ?_
        intro Ac w5 hp
        have hb := hp.bel
        have a4 : Ac.eval (.tmp 4) = .int .i64 (q : Int) := hp.out 4 (by rfl)
        have hc := evalC Ac; have hf := evalF Ac; have hgl := evalG Ac
        obtain ⟨ρ, hρ⟩ : ∃ ρ, Ac.eval = ρ := ⟨_, rfl⟩
        rw [hρ] at a4 hc hf hgl
        exact relPure hρ (.int .i64 (q : Int)) (by simp [go_sem, hc, hf, hgl, ↓IntWalk.iteOmega, a4, *]) rfl
      · refine relStep_plain rfl ?_
        intro Ac w5 hp
        have hb := hp.bel
        have a17 : Ac.eval (.tmp 17) = .slice (some ⟨g, o, none⟩) n c := hp.dep 1 (by kernel_rfl)
        have a18 : Ac.eval (.tmp 18) = .int .i64 (q : Int) := hp.dep 2 (by kernel_rfl)
        have hc := evalC Ac; have hf := evalF Ac; have hgl := evalG Ac
        obtain ⟨ρ, hρ⟩ : ∃ ρ, Ac.eval = ρ := ⟨_, rfl⟩
        rw [hρ] at a17 a18 hc hf hgl
        exact relPure hρ (.pointer (some ⟨g, o + q * 11, none⟩)) (by simp [go_sem, hc, hf, hgl, ↓IntWalk.iteOmega, a17, a18, *]) rfl
      · refine relStep_plain rfl ?_
        intro Ac w5 hp
        have hb := hp.bel
        have a19 : Ac.eval (.tmp 19) = .pointer (some ⟨g, o + q * 11, none⟩) := hp.dep 3 (by kernel_rfl)
        have hc := evalC Ac; have hf := evalF Ac; have hgl := evalG Ac
        obtain ⟨ρ, hρ⟩ : ∃ ρ, Ac.eval = ρ := ⟨_, rfl⟩
        rw [hρ] at a19 hc hf hgl
        exact relPure hρ (.pointer (some ⟨g, o + q * 11, none⟩)) (by simp [go_sem, hc, hf, hgl, ↓IntWalk.iteOmega, a19, *]) rfl
      · refine relStep_plain rfl ?_
        intro Ac w5 hp
        have hb := hp.bel
        have a20 : Ac.eval (.tmp 20) = .pointer (some ⟨g, o + q * 11, none⟩) := hp.dep 4 (by kernel_rfl)
        have z0 : w5.cell? ⟨g, o + q * 11, none⟩ = some (.int .u32 x.a) := (hb.cell hg).trans HZ0.out
        have z1 : w5.cell? ⟨g, o + q * 11 + 1, none⟩ = some (.int .i64 x.n) := (hb.cell hg).trans HZ1.out
        have hc := evalC Ac; have hf := evalF Ac; have hgl := evalG Ac
        obtain ⟨ρ, hρ⟩ : ∃ ρ, Ac.eval = ρ := ⟨_, rfl⟩
        rw [hρ] at a20 hc hf hgl
        exact relPure hρ (.agg #[.int .u32 x.a, .int .i64 x.n]) (by simp [go_sem, hc, hf, hgl, ↓IntWalk.iteOmega, a20, *]) rfl
      · refine relStep_plain rfl ?_
        intro Ac w5 hp
        have hb := hp.bel
        have a0 : Ac.eval (.tmp 0) = .slice (some ⟨g, o, none⟩) n c := hp.out 0 (by rfl)
        have hc := evalC Ac; have hf := evalF Ac; have hgl := evalG Ac
        obtain ⟨ρ, hρ⟩ : ∃ ρ, Ac.eval = ρ := ⟨_, rfl⟩
        rw [hρ] at a0 hc hf hgl
        exact relPure hρ (.slice (some ⟨g, o, none⟩) n c) (by simp [go_sem, hc, hf, hgl, ↓IntWalk.iteOmega, a0, *]) rfl
      · refine relStep_plain rfl ?_
        intro Ac w5 hp
        have hb := hp.bel
        have a4 : Ac.eval (.tmp 4) = .int .i64 (q : Int) := hp.out 4 (by rfl)
        have hc := evalC Ac; have hf := evalF Ac; have hgl := evalG Ac
        obtain ⟨ρ, hρ⟩ : ∃ ρ, Ac.eval = ρ := ⟨_, rfl⟩
        rw [hρ] at a4 hc hf hgl
        exact relPure hρ (.int .i64 (q : Int)) (by simp [go_sem, hc, hf, hgl, ↓IntWalk.iteOmega, a4, *]) rfl
      · refine relStep_plain rfl ?_
        intro Ac w5 hp
        have hb := hp.bel
        have a22 : Ac.eval (.tmp 22) = .slice (some ⟨g, o, none⟩) n c := hp.dep 6 (by kernel_rfl)
        have a23 : Ac.eval (.tmp 23) = .int .i64 (q : Int) := hp.dep 7 (by kernel_rfl)
        have hc := evalC Ac; have hf := evalF Ac; have hgl := evalG Ac
        obtain ⟨ρ, hρ⟩ : ∃ ρ, Ac.eval = ρ := ⟨_, rfl⟩
        rw [hρ] at a22 a23 hc hf hgl
        exact relPure hρ (.pointer (some ⟨g, o + q * 11, none⟩)) (by simp [go_sem, hc, hf, hgl, ↓IntWalk.iteOmega, a22, a23, *]) rfl
      · refine relStep_plain rfl ?_
        intro Ac w5 hp
        have hb := hp.bel
        have a24 : Ac.eval (.tmp 24) = .pointer (some ⟨g, o + q * 11, none⟩) := hp.dep 8 (by kernel_rfl)
        have hc := evalC Ac; have hf := evalF Ac; have hgl := evalG Ac
        obtain ⟨ρ, hρ⟩ : ∃ ρ, Ac.eval = ρ := ⟨_, rfl⟩
        rw [hρ] at a24 hc hf hgl
        exact relPure hρ (.pointer (some ⟨g, o + q * 11 + 2, none⟩)) (by simp [go_sem, hc, hf, hgl, ↓IntWalk.iteOmega, a24, *]) rfl
      · refine relStep_plain rfl ?_
        intro Ac w5 hp
        have hb := hp.bel
        have a25 : Ac.eval (.tmp 25) = .pointer (some ⟨g, o + q * 11 + 2, none⟩) := hp.dep 9 (by kernel_rfl)
        have z2 : w5.cell? ⟨g, o + q * 11 + 2, none⟩ = some (.int .i64 x.at_.has) := (hb.cell hg).trans (HCs.out 2 _ rfl)
        have z3 : w5.cell? ⟨g, o + q * 11 + 2 + 1, none⟩ = some (.int .i64 x.at_.org) := (hb.cell hg).trans (HCs.out 3 _ rfl)
        have z4 : w5.cell? ⟨g, o + q * 11 + 2 + 2, none⟩ = some (.slice B1 k1 c1') := (hb.cell hg).trans (HCs.out 4 _ rfl)
        have z5 : w5.cell? ⟨g, o + q * 11 + 2 + 3, none⟩ = some (.int .u32 x.at_.hop) := (hb.cell hg).trans (HCs.out 5 _ rfl)
        have z6 : w5.cell? ⟨g, o + q * 11 + 2 + 4, none⟩ = some (.int .u32 x.at_.med) := (hb.cell hg).trans (HCs.out 6 _ rfl)
        have z7 : w5.cell? ⟨g, o + q * 11 + 2 + 5, none⟩ = some (.int .u32 x.at_.pref) := (hb.cell hg).trans (HCs.out 7 _ rfl)
        have z8 : w5.cell? ⟨g, o + q * 11 + 2 + 6, none⟩ = some (.int .u32 x.at_.aas) := (hb.cell hg).trans (HCs.out 8 _ rfl)
        have z9 : w5.cell? ⟨g, o + q * 11 + 2 + 7, none⟩ = some (.int .u32 x.at_.aid) := (hb.cell hg).trans (HCs.out 9 _ rfl)
        have z10 : w5.cell? ⟨g, o + q * 11 + 2 + 8, none⟩ = some (.slice B2 m2 d2) := (hb.cell hg).trans (HCs.out 10 _ rfl)
        have hc := evalC Ac; have hf := evalF Ac; have hgl := evalG Ac
        obtain ⟨ρ, hρ⟩ : ∃ ρ, Ac.eval = ρ := ⟨_, rfl⟩
        rw [hρ] at a25 hc hf hgl
        exact relPure hρ (atV x.at_.has x.at_.org B1 k1 c1' x.at_.hop x.at_.med x.at_.pref x.at_.aas x.at_.aid B2 m2 d2) (by simp [go_sem, hc, hf, hgl, ↓IntWalk.iteOmega, a25, *]) rfl
      · refine relStep_plain rfl ?_
        intro Ac w5 hp
        have hb := hp.bel
        have a26 : Ac.eval (.tmp 26) = atV x.at_.has x.at_.org B1 k1 c1' x.at_.hop x.at_.med x.at_.pref x.at_.aas x.at_.aid B2 m2 d2 := hp.dep 10 (by kernel_rfl)
        have hc := evalC Ac; have hf := evalF Ac; have hgl := evalG Ac
        obtain ⟨ρ, hρ⟩ : ∃ ρ, Ac.eval = ρ := ⟨_, rfl⟩
        rw [hρ] at a26 hc hf hgl
        refine relCall hρ 118 #[atV x.at_.has x.at_.org B1 k1 c1' x.at_.hop x.at_.med x.at_.pref x.at_.aas x.at_.aid B2 m2 d2] (by simp [go_sem, hc, hf, hgl, ↓IntWalk.iteOmega, a26, *]) ?_
        refine (attrsFew_any x.at_ (atV x.at_.has x.at_.org B1 k1 c1' x.at_.hop x.at_.med x.at_.pref x.at_.aas x.at_.aid B2 m2 d2) w5 ⟨B1, k1, c1', B2, m2, d2, rfl, HR1.out.below sgMono hb, HR2.out.below hb⟩).mono ?_
        rintro e w6 ⟨v6, rfl, ⟨A6, n6, c6, xs6, B6, m6, d6, rfl, hl6, hu6⟩, hb6⟩
        rw [HY.out] at hl6 hu6 ⊢
        exact ⟨_, rfl, ⟨A6, n6, c6, B6, m6, d6, rfl, ⟨xs6, hl6.less hb.size hb.size⟩, hu6.less hb.size⟩, hb6⟩
      · refine relStep_plain rfl ?_
        intro Ac w5 hp
        have hb := hp.bel
        have a21 : Ac.eval (.tmp 21) = .agg #[.int .u32 x.a, .int .i64 x.n] := hp.dep 5 (by kernel_rfl)
        obtain ⟨A27, n27, c27, B27, m27, d27, a27, ⟨xs27, hl27⟩, hu27⟩ := hp.dep 11 (by kernel_rfl)
        change Ac.eval (.tmp 27) = _ at a27
        have hc := evalC Ac; have hf := evalF Ac; have hgl := evalG Ac
        obtain ⟨ρ, hρ⟩ : ∃ ρ, Ac.eval = ρ := ⟨_, rfl⟩
        rw [hρ] at a21 a27 hc hf hgl
        exact relPure hρ (.agg #[.int .u32 x.a, .int .i64 x.n, .int .i64 Y.has, .int .i64 Y.org, .slice A27 n27 c27, .int .u32 Y.hop, .int .u32 Y.med, .int .u32 Y.pref, .int .u32 Y.aas, .int .u32 Y.aid, .slice B27 m27 d27]) (by simp [go_sem, hc, hf, hgl, ↓IntWalk.iteOmega, a21, a27, *]) ⟨A27, n27, c27, B27, m27, d27, rfl, ⟨xs27, hl27⟩, hu27⟩
      · refine relStep_plain rfl ?_
        intro Ac w5 hp
        have hb := hp.bel
        obtain ⟨A28, n28, c28, B28, m28, d28, a28, ⟨xs28, hl28⟩, hu28⟩ := hp.dep 12 (by kernel_rfl)
        change Ac.eval (.tmp 28) = _ at a28
        have hc := evalC Ac; have hf := evalF Ac; have hgl := evalG Ac
        obtain ⟨ρ, hρ⟩ : ∃ ρ, Ac.eval = ρ := ⟨_, rfl⟩
        rw [hρ] at a28 hc hf hgl
        exact relVal hρ (.slice (some ⟨w5.heap.size, 0, none⟩) 1 1) (w5.alloc (.cells #[.int .u32 x.a, .int .i64 x.n, .int .i64 Y.has, .int .i64 Y.org, .slice A28 n28 c28, .int .u32 Y.hop, .int .u32 Y.med, .int .u32 Y.pref, .int .u32 Y.aas, .int .u32 Y.aid, .slice B28 m28 d28] 172)) (by simp [go_sem, hc, hf, hgl, ↓IntWalk.iteOmega, a28]) ⟨w5.heap.size, A28, n28, c28, B28, m28, d28, rfl, Blk.new w5 _ _, ⟨xs28, hl28.below (blkBelow1 w5 _)⟩, hu28.below (blkBelow1 w5 _)⟩ ((Below.refl _ _).alloc (Nat.le_refl _) _)
      intro u w8 hb7 hall
      have e16 : u 0 = Value.slice A1 n1 c1 := relAll_at hall (i := 0) (by decide +kernel)
      obtain ⟨R29, A29, n29, c29, B29, m29, d29, e29, hR29, ⟨xs29, hl29⟩, hu29⟩ := relAll_at hall (i := 13) (by decide +kernel)
      change u 13 = _ at e29
      clear hall
      simp only [List.drop_succ_cons, List.drop_zero, List.take_succ_cons, List.take_zero, putAll, Act.put, List.setIfInBounds_toArray, List.set_cons_zero, List.set_cons_succ, Nat.zero_add, Nat.reduceAdd, e16, e29]
      have hsw := hb7.size
      have HLo8 := hide (HLo.out.below hb7)
      have HB8 := hide (HBe.out.trans (hb7.mono hs1))
      refine wpList_append_any w8 rfl (.tmp 16) (.tmp 29) 76 rfl w.heap.size 172 i0 _ 11 104 Tryz.underlying76 hi hz0 hz1 hz2 rfl (by decide) (.slice A1 n1 c1) n1 xs rfl HLo8.out.1 w8.heap.size (some ⟨R29, 0, none⟩) 1 1 [.int .u32 x.a, .int .i64 x.n, .int .i64 Y.has, .int .i64 Y.org, .slice A29 n29 c29, .int .u32 Y.hop, .int .u32 Y.med, .int .u32 Y.pref, .int .u32 Y.aas, .int .u32 Y.aid, .slice B29 m29 d29] rfl (reads_blkN hR29 hR29.lt rfl rfl) (by simp [Value.oneCell']) (by unfold maxLen; omega) (by omega) (by omega) ?_
      intro v2 w9 h2 h3 h4
      obtain ⟨A4, c4, rfl, hlo4⟩ := LOw.push HLo8.out (chunk1_fr rfl (td_fr hl29 hu29 hs1 (fun k hk => own_block_lt HLo.out.1 k hk))) h2 h3 h4
      have HL9 := hide hlo4
      have HB9 := hide (HB8.out.grown h3 (by omega) (fun k hk => own_low_block HLo.out.1 k hk))
      clear hlo4 h2 h3 h4 hb7 hR29 hl29 hu29 e16 e29
      go_wp2
      go_roundw
      case rel => exact ⟨q + 1, A4, n1 + 1, c4, _, by omega, by omega, by go_num, rfl, by rw [HE.out]; exact HL9.out, HB9.out⟩
      case measure => simp [intOf]; omega
    · have HF : Hid (LOw 11 172 tdR wr w.heap.size w.heap.size A1 n1 c1 ((l.take 12).map cutTD) xs) := hide (by
        have e : l.take q = l.take 12 := by
          by_cases h12 : q = 12
          · rw [h12]
          · rw [List.take_of_length_le (by omega), List.take_of_length_le (by omega)]
        rw [e] at hlo
        exact hlo)
      clear hlo hbel
      by_cases hqn : q < n
      · have e1 : decide ((q : Int) < (n : Int)) = true := decide_eq_true (by omega)
        have e2 : decide ((q : Int) < 12) = false := decide_eq_false (by omega)
        clear hlt
        go_wp2
        go_ret
        exact ⟨A1, n1, c1, xs, rfl, HF.out, HBe.out⟩
      · have e1 : decide ((q : Int) < (n : Int)) = false := decide_eq_false (by omega)
        clear hlt
        go_wp2
        go_ret
        exact ⟨A1, n1, c1, xs, rfl, HF.out, HBe.out⟩
end Go.Proofs.YtgkpkljenndpkaaGreat
set_option linter.unusedSimpArgs false
set_option linter.unusedVariables false
namespace Go.Proofs.YtgkpkljenndpkaaGreat
open Go.RowKit Go.WideShapes Go.ChangeShapes
attribute [local go_sem] Oper.semAt_some
/-- Prefixes in memory. -/
def pxC (l : List (Nat × Nat)) : List Value := l.flatMap fun x => [.int .u32 (x.1 : Int), .int .i64 (x.2 : Int)]
theorem pxC_app (l : List (Nat × Nat)) (a n : Nat) : pxC (l ++ [(a, n)]) = pxC l ++ [.int .u32 (a : Int), .int .i64 (n : Int)] := by simp [pxC, List.flatMap_append]
theorem pxInfo : (Tryz.prog.info? 51).map (fun i => (i.zero, i.size, i.bytes)) = some (some (.agg #[.int .u32 0, .int .i64 0]), 2, 16) := by kernel_rfl
/-- A closure's row of prefixes: its own, its variable the box h. -/
def PxBox (b h : Nat) (L : List (Nat × Nat)) (w : World) : Prop := ∃ A c, Blk w h 44 #[.slice A L.length c] ∧ w.ownsRow b 51 2 (.slice A L.length c) L.length (pxC L)
/-- The keys of a tree. -/
def keyL {α : Type} (l : List (Nat × Nat × α)) : List (Nat × Nat) := l.map fun x => (x.1, x.2.1)
theorem trGet_find {α : Type} (c k : Nat) : ∀ t : Tr α, trGet c k t = (match trFind c k t with | .nil => none | .nd _ _ _ v _ _ => v)
  | .nil => rfl
  | .nd b a n v l r => by
      have h1 := trGet_find c k l
      have h2 := trGet_find c k r
      unfold trGet trFind
      split
      · split
        · rfl
        · split
          · exact h1
          · exact h2
      · rfl
theorem trFind_w {α : Type} {sz : Nat} {T : TypeId} {F : Nat → Prop} {R : World → List Value → α → Prop} {w : World} (c k : Nat) : ∀ t : Tr α, TrW sz T F R w t → TrW sz T F R w (trFind c k t)
  | .nil, _ => trivial
  | .nd b a n v l r, h => by
      unfold trFind
      split
      · split
        · exact h
        · split
          · exact trFind_w c k l h.2.1
          · exact trFind_w c k r h.2.2
      · trivial
set_option maxRecDepth 100000 in
theorem topA_any {α : Type} (g : Nat) (t : Tr α) (w : World) (hg : Blk w g 251 #[trPtr t]) : Calls Tryz.prog 235 #[.pointer (some ⟨g, 0, none⟩)] w fun e w' => e = .returned (trPtr t) ∧ w' = w := by
  have z : w.cell? ⟨g, 0, none⟩ = some (trPtr t) := hg.cell 0
  clear hg
  go_enter Tryz.func235, Tryz.ntmps235
  go_wp2
  go_ret
  exact ⟨rfl, rfl⟩
set_option maxRecDepth 100000 in
theorem newA_any (w : World) : Calls Tryz.prog 135 #[] w fun e w' => e = .returned (.pointer (some ⟨w.heap.size, 0, none⟩)) ∧ Blk w' w.heap.size 251 #[.pointer none] ∧ Below w.heap.size w w' := by
  have HB := hide (blkBelow1 w (.cells #[.pointer none] 251))
  have HK := hide (Blk.new w 251 #[.pointer none])
  go_enter Tryz.func135, Tryz.ntmps135
  go_wp2
  go_ret
  exact ⟨rfl, HK.out, HB.out⟩
set_option maxRecDepth 100000 in
set_option maxHeartbeats 4000000 in
theorem eachA_any {α : Type} {F : Nat → Prop} {R : World → List Value → α → Prop} (S : Nat → Prop) (w0 : World) (I : List (Nat × Nat) → World → Prop) (hI : ∀ L W, I L W → ChgS S w0 W) (hF : ∀ k, F k → ¬ S k) (cap : Value) (G : FuncId) (hG : ∀ (args : Array Value) (W : World), (callFunc G args).run Tryz.prog W = .ok (.enter G args) W) (m : Nat)
    (hY : ∀ (L : List (Nat × Nat)) (a n : Nat) (W : World), I L W → L.length < m → Calls Tryz.prog G #[.agg #[.int .u32 (a : Int), .int .i64 (n : Int)], cap] W fun e w' => e = .returned (.tuple #[]) ∧ I (L ++ [(a, n)]) w') :
    ∀ (t : Tr α), TrW 9 255 F R w0 t → (∀ k ∈ trB t, ¬ S k) → ∀ L W, I L W → L.length + trCnt t ≤ m → Calls Tryz.prog 236 #[trPtr t, .func (.func G) #[] #[cap]] W fun e w' => e = .returned (.tuple #[]) ∧ I (L ++ keyL (trL t)) w'
  | .nil, _, _, L, W, hL, _ => by
      have HL := hide hL
      clear hL hI hF hG hY
      show Calls Tryz.prog 236 #[.pointer none, .func (.func G) #[] #[cap]] W _
      go_enter Tryz.func236, Tryz.ntmps236
      go_wp2
      refine bodyPost_ret (results_none rfl _ _ _) rfl ?_
      exact ⟨rfl, by simpa [trL, keyL] using HL.out⟩
  | .nd b a n v l r, h, hS, L, W, hL, hm => by
      obtain ⟨⟨vs, hv, hk, hval⟩, hl, hr⟩ := h
      obtain ⟨v0, v1, v2, v3, v4, v5, v6, v7, v8, rfl⟩ := lenA hv
      have HIl := hide (eachA_any S w0 I hI hF cap G hG m hY l hl (fun k hk => hS k (by simp [trB, hk])))
      have HIr := hide (eachA_any S w0 I hI hF cap G hG m hY r hr (fun k hk => hS k (by simp [trB, hk])))
      have HE := hide hG
      have HY := hide hY
      have HI := hide hI
      have HK := hide hk
      have hbS := hS b (by simp [trB])
      have HKb : Hid (∀ L W, I L W → Blk W b 255 (ndC a n [v0, v1, v2, v3, v4, v5, v6, v7, v8] v.isSome (trCnt l + trCnt r + (if v.isSome then 1 else 0)) (trPtr l) (trPtr r))) := hide fun L W h => chg_blk (hI L W h) hk hbS
      have HM : Hid (L.length + trCnt l + trCnt r + (if v.isSome then 1 else 0) ≤ m) := hide (by simp only [trCnt] at hm; omega)
      have HKey : Hid (keyL (trL (.nd b a n v l r)) = (if v.isSome then [(a, n)] else []) ++ (keyL (trL l) ++ keyL (trL r))) := hide (by cases v <;> simp [keyL, trL])
      obtain ⟨cn, hcn⟩ : ∃ c, trCnt l + trCnt r + (if v.isSome then 1 else 0) = c := ⟨_, rfl⟩
      obtain ⟨K0, hK0⟩ : ∃ K, keyL (trL (.nd b a n v l r)) = K := ⟨_, rfl⟩
      obtain ⟨q, hq⟩ : ∃ q, v.isSome = q := ⟨_, rfl⟩
      rw [hcn, hq] at HKb
      rw [hq] at HM
      rw [hK0, hq] at HKey
      rw [hK0]
      have HL := hide hL
      clear hL hk hval hl hr hI hF hY hG hcn hK0 hq hm hS hv HK
      show Calls Tryz.prog 236 #[.pointer (some ⟨b, 0, none⟩), .func (.func G) #[] #[cap]] W _
      have y0 : W.cell? ⟨b, 0, none⟩ = some (.int .u32 (a : Int)) := (HKb.out L W HL.out).cell 0
      have y1 : W.cell? ⟨b, 1, none⟩ = some (.int .i64 (n : Int)) := (HKb.out L W HL.out).cell 1
      have yp : W.cell? ⟨b, 11, none⟩ = some (.bool q) := (HKb.out L W HL.out).cell 11
      have yl : W.cell? ⟨b, 13, none⟩ = some (trPtr l) := (HKb.out L W HL.out).cell 13
      have hlk : ∀ t : Tr α, (keyL (trL t)).length = trCnt t := fun t => by unfold keyL; rw [List.length_map, trL_len]
      have HLk := hide hlk
      clear hlk
      cases q
      · go_enter Tryz.func236, Tryz.ntmps236
        go_wp2_with fail
        refine (HIl.out L W HL.out (by have := HM.out; omega)).mono ?_
        rintro e w1 ⟨rfl, h1⟩
        have H1 := hide h1
        have yr : w1.cell? ⟨b, 14, none⟩ = some (trPtr r) := (HKb.out _ w1 h1).cell 14
        clear h1 y0 y1 yp yl
        go_wp2_with fail
        refine (HIr.out _ w1 H1.out (by rw [List.length_append, HLk.out]; have := HM.out; omega)).mono ?_
        rintro e w2 ⟨rfl, h2⟩
        have H2 := hide h2
        clear h2 yr
        go_wp2
        refine bodyPost_end (results_none rfl _ _ _) rfl ?_
        refine ⟨rfl, ?_⟩
        rw [HKey.out]
        simpa [List.append_assoc] using H2.out
      · have HYi := hide (HY.out L a n W HL.out (by have := HM.out; simp only [if_true] at this; omega))
        go_enter Tryz.func236, Tryz.ntmps236
        go_wp2_with fail
        rw [HE.out, Oper.upon_enter]
        refine HYi.out.mono ?_
        rintro e w0' ⟨rfl, h0⟩
        have H0 := hide h0
        have yl : w0'.cell? ⟨b, 13, none⟩ = some (trPtr l) := (HKb.out _ w0' h0).cell 13
        clear h0 y0 y1 yp
        go_wp2_with fail
        refine (HIl.out _ w0' H0.out (by rw [List.length_append]; have := HM.out; simp only [if_true] at this; simp; omega)).mono ?_
        rintro e w1 ⟨rfl, h1⟩
        have H1 := hide h1
        have yr : w1.cell? ⟨b, 14, none⟩ = some (trPtr r) := (HKb.out _ w1 h1).cell 14
        clear h1 yl
        go_wp2_with fail
        refine (HIr.out _ w1 H1.out (by rw [List.length_append, List.length_append, HLk.out]; have := HM.out; simp only [if_true] at this; simp; omega)).mono ?_
        rintro e w2 ⟨rfl, h2⟩
        have H2 := hide h2
        clear h2 yr
        go_wp2
        refine bodyPost_end (results_none rfl _ _ _) rfl ?_
        refine ⟨rfl, ?_⟩
        rw [HKey.out]
        simpa [List.append_assoc] using H2.out
set_option maxRecDepth 100000 in
set_option maxHeartbeats 4000000 in
theorem allfA_any (b h : Nat) (L : List (Nat × Nat)) (a m : Nat) (W : World) (hb : PxBox b h L W) (hh : h < b) (hbs : b ≤ W.heap.size) (hn : L.length ≤ 1000000) :
    Calls Tryz.prog 237 #[.agg #[.int .u32 (a : Int), .int .i64 (m : Int)], .pointer (some ⟨h, 0, none⟩)] W fun e w' => e = .returned (.tuple #[]) ∧ PxBox b h (L ++ [(a, m)]) w' ∧ Below h W w' := by
  obtain ⟨A, c, hk, ho⟩ := hb
  obtain ⟨i0, hi, hz0, hz1, hz2⟩ := info_parts pxInfo
  obtain ⟨n, hn0⟩ : ∃ n, L.length = n := ⟨_, rfl⟩
  obtain ⟨X, hX⟩ : ∃ X, pxC L = X := ⟨_, rfl⟩
  rw [hn0] at hk ho hn
  rw [hX] at ho
  have HX := hide hX
  have HN := hide hn0
  have HO := hide ho
  have HK := hide hk
  have hkl := hk.lt
  have z0 : W.cell? ⟨h, 0, none⟩ = some (.slice A n c) := hk.cell 0
  have zf := hk.frozen 0
  clear hX hn0 ho hk
  go_enter Tryz.func237, Tryz.ntmps237
  go_wp2_with (at_builtin; refine wpList_append_any _ rfl (.tmp 3) (.tmp 5) 44 rfl b 51 i0 _ 2 16 Tryz.underlying44 hi hz0 hz1 hz2 rfl (by decide) (.slice A n c) n X rfl ((HO.out.alloc _).alloc _) (W.heap.size + 1 + 1) (some ⟨W.heap.size + 1, 0, none⟩) 1 1 [.int .u32 (a : Int), .int .i64 (m : Int)] rfl (reads_blkN (blk_new' _ _ (by simp)) (by omega) rfl rfl) (by simp [Value.oneCell']) (by unfold maxLen; omega) (by omega) (by simp; omega) ?_; intro v' w3 hown hgrow hat; obtain ⟨A3, c3, rfl⟩ := own_slice hown; have HO3 := hide hown; have HG3 := hide hgrow; have HK3 := hide (((HK.out.alloc _).alloc _).grown hgrow (fun e => by have := own_low_block HO.out _ e.symm; omega)); have z3 := HK3.out.frozen 0; have z4 : w3.cell? ⟨h, 0, none⟩ = some (.slice A n c) := HK3.out.cell 0; clear hown hgrow hat z0 zf)
  refine bodyPost_end (results_none rfl _ _ _) rfl ?_
  refine ⟨rfl, ⟨A3, c3, ?_, ?_⟩, ?_⟩
  · rw [List.length_append, HN.out]
    exact HK3.out.set_ 0 _
  · rw [pxC_app, List.length_append, HN.out, HX.out]
    exact own_set HO3.out (fun e => absurd (own_low_block HO3.out _ e) (by show ¬ (b ≤ h); omega)) _
  · refine Below.setCell ?_ (p := ⟨h, 0, none⟩) (Nat.le_refl _) _
    refine Below.grown (((Below.refl h W).alloc (by omega) _).alloc (by simp; omega) _) HG3.out (by simp; omega) (fun k hk => ?_)
    have := own_low_block HO.out k hk
    show h ≤ k
    omega
theorem callAllA (args : Array Value) (W : World) : (callFunc 237 args).run Tryz.prog W = .ok (.enter 237 args) W := by
  simp [callFunc, go_sem, Tryz.func237]
  rfl
set_option maxRecDepth 100000 in
set_option maxHeartbeats 4000000 in
theorem allA_any {α : Type} {F : Nat → Prop} {R : World → List Value → α → Prop} (g : Nat) (t : Tr α) (w : World) (hg : Blk w g 251 #[trPtr t]) (h : TrW 9 255 F R w t) (hF : ∀ k, F k → k < w.heap.size) (hc : trCnt t ≤ 1000000) :
    Calls Tryz.prog 138 #[.pointer (some ⟨g, 0, none⟩)] w fun e w' => Below w.heap.size w w' ∧ ∃ A c, e = .returned (.slice A (trCnt t) c) ∧ w'.ownsRow w.heap.size 51 2 (.slice A (trCnt t) c) (trCnt t) (pxC (keyL (trL t))) := by
  obtain ⟨w0, hw0⟩ : ∃ w0, w.alloc (.cells #[.slice none 0 0] 44) = w0 := ⟨_, rfl⟩
  have hb0 : Below w.heap.size w w0 := hw0 ▸ blkBelow1 w _
  have HK0 : Hid (Blk w0 w.heap.size 44 #[.slice none 0 0]) := hide (hw0 ▸ Blk.new w _ _)
  have hs0 : w.heap.size + 1 = w0.heap.size := by rw [← hw0]; simp
  have HLt := h.lt
  have hlk : (keyL (trL t)).length = trCnt t := by unfold keyL; rw [List.length_map, trL_len]
  have HT := hide (topA_any g t w0 (hg.below hb0 hg.lt))
  have hch : ∀ k ∈ trB t, ¬ (w.heap.size ≤ k) := fun k hk h2 => by have := HLt k hk; omega
  have HE := hide (eachA_any (R := R) (fun k => w.heap.size ≤ k) w0 (fun L W => PxBox (w.heap.size + 1) w.heap.size L W ∧ Below w.heap.size w0 W ∧ w0.heap.size ≤ W.heap.size) (fun L W h => ⟨h.2.1.os, h.2.1.tape, h.2.1.output, h.2.1.size, fun k _ hk => h.2.1.block k (by omega)⟩) (fun k hk h2 => by have := hF k hk; omega) (.pointer (some ⟨w.heap.size, 0, none⟩)) 237 callAllA 1000000
    (fun L a n W hI hL => (allfA_any (w.heap.size + 1) w.heap.size L a n W hI.1 (by omega) (by have := hI.2.2; omega) (by omega)).mono (by
      rintro e w' ⟨rfl, h1, h2⟩
      exact ⟨rfl, h1, hI.2.1.trans h2, Nat.le_trans hI.2.2 h2.size⟩)) t (h.chg (chg_below (S := fun _ => False) hb0) (by simp) (by simp)) hch [] w0 ⟨⟨none, 0, HK0.out, by simp [pxC], .inl ⟨rfl, rfl⟩⟩, Below.refl _ _, Nat.le_refl _⟩ (by simpa using hc))
  have HW0 := hide hw0
  have HLk := hide hlk
  have HB0 := hide hb0
  have HS0 := hide hs0
  clear hw0 hb0 hs0 hg h hF hc hlk HLt hch HK0
  go_enter Tryz.func138, Tryz.ntmps138
  go_wp2_with fail
  rw [HW0.out]
  refine HT.out.mono ?_
  rintro e w1 ⟨rfl, rfl⟩
  go_wp2_with fail
  refine HE.out.mono ?_
  rintro e w2 ⟨rfl, ⟨A, c, hk, ho⟩, hb, _⟩
  rw [List.nil_append] at hk ho
  rw [HLk.out] at hk ho
  have z : w2.cell? ⟨w.heap.size, 0, none⟩ = some (.slice A (trCnt t) c) := hk.cell 0
  have HO := hide ho
  have HB := hide (HB0.out.trans hb)
  clear hk ho hb
  go_wp2
  go_ret
  exact ⟨HB.out, A, c, rfl, own_baseLe HO.out (by omega)⟩
end Go.Proofs.YtgkpkljenndpkaaGreat
set_option linter.unusedSimpArgs false
set_option linter.unusedVariables false
namespace Go.Proofs.YtgkpkljenndpkaaGreat
open Go.RowKit Go.WideShapes Go.ChangeShapes
attribute [local go_sem] Oper.semAt_some
set_option maxRecDepth 100000 in
set_option maxHeartbeats 4000000 in
theorem getA_any {α : Type} {F : Nat → Prop} {R : World → List Value → α → Prop} (g c k : Nat) (t : Tr α) (w : World) (hc : PG c k) (hg : Blk w g 251 #[trPtr t]) (h : TrW 9 255 F R w t) (hw : trWf t) (hF : ∀ k, F k → k < w.heap.size) :
    Calls Tryz.prog 139 #[.pointer (some ⟨g, 0, none⟩), .agg #[.int .u32 (c : Int), .int .i64 (k : Int)]] w fun e w' => Below w.heap.size w w' ∧ match trGet c k t with
      | some x => ∃ v0 v1 v2 v3 v4 v5 v6 v7 v8, e = .returned (.tuple #[.agg #[v0, v1, v2, v3, v4, v5, v6, v7, v8], .bool true]) ∧ FrS F none (fun w => R w [v0, v1, v2, v3, v4, v5, v6, v7, v8] x) w'
      | none => e = .returned (.tuple #[.agg #[.int .i64 0, .int .i64 0, .slice none 0 0, .int .u32 0, .int .u32 0, .int .u32 0, .int .u32 0, .int .u32 0, .slice none 0 0], .bool false]) := by
  obtain ⟨w0, hw0⟩ : ∃ w0, (w.alloc (.cells #[.int .u32 (c : Int), .int .i64 (k : Int)] 51)).alloc (.cells #[.int .i64 0, .int .i64 0, .slice none 0 0, .int .u32 0, .int .u32 0, .int .u32 0, .int .u32 0, .int .u32 0, .slice none 0 0] 54) = w0 := ⟨_, rfl⟩
  have hb0 : Below w.heap.size w w0 := hw0 ▸ blkBelow2 w _ _
  have HZ0 : Hid (Blk w0 (w.heap.size + 1) 54 #[.int .i64 0, .int .i64 0, .slice none 0 0, .int .u32 0, .int .u32 0, .int .u32 0, .int .u32 0, .int .u32 0, .slice none 0 0]) := hide (hw0 ▸ blk_new' _ _ (by simp))
  have HFd := hide (findA_any (R := R) g c k t w0 hc (hg.below hb0 hg.lt) (h.chg (chg_below (S := fun _ => False) hb0) (by simp) (by simp)) hw)
  have hgf := trGet_find c k t
  have hfw := trFind_w c k t h
  have HF := hide hF
  obtain ⟨s, hs⟩ : ∃ s, trFind c k t = s := ⟨_, rfl⟩
  rw [hs] at hgf hfw HFd
  have HW0 := hide hw0
  have HB0 := hide hb0
  clear hw0 hb0 hs hw hg h hF
  cases s with
  | nil =>
    simp only at hgf
    rw [hgf]
    have e0 : trPtr (.nil : Tr α) = .pointer none := rfl
    rw [e0] at HFd
    clear hgf e0 hfw
    go_enter Tryz.func139, Tryz.ntmps139
    go_wp2_with fail
    rw [HW0.out]
    refine HFd.out.mono ?_
    rintro e w1 ⟨rfl, hb1⟩
    have HB1 := hide (HB0.out.trans (hb1.mono HB0.out.size))
    have hz := HZ0.out.below hb1 HZ0.out.lt
    have z0 : w1.cell? ⟨w.heap.size + 1, 0, none⟩ = some (.int .i64 0) := hz.cell 0
    have z1 : w1.cell? ⟨w.heap.size + 1, 1, none⟩ = some (.int .i64 0) := hz.cell 1
    have z2 : w1.cell? ⟨w.heap.size + 1, 2, none⟩ = some (.slice none 0 0) := hz.cell 2
    have z3 : w1.cell? ⟨w.heap.size + 1, 3, none⟩ = some (.int .u32 0) := hz.cell 3
    have z4 : w1.cell? ⟨w.heap.size + 1, 4, none⟩ = some (.int .u32 0) := hz.cell 4
    have z5 : w1.cell? ⟨w.heap.size + 1, 5, none⟩ = some (.int .u32 0) := hz.cell 5
    have z6 : w1.cell? ⟨w.heap.size + 1, 6, none⟩ = some (.int .u32 0) := hz.cell 6
    have z7 : w1.cell? ⟨w.heap.size + 1, 7, none⟩ = some (.int .u32 0) := hz.cell 7
    have z8 : w1.cell? ⟨w.heap.size + 1, 8, none⟩ = some (.slice none 0 0) := hz.cell 8
    have zf := fun i => hz.frozen i
    have HZ1 := hide hz
    clear hb1 hz
    go_wp2
    change bodyPost _ _ _ _ _ (w1.setCells (w.heap.size + 1) 0 [.int .i64 0, .int .i64 0, .slice none 0 0, .int .u32 0, .int .u32 0, .int .u32 0, .int .u32 0, .int .u32 0, .slice none 0 0])
    obtain ⟨wF, hwF⟩ : ∃ x, w1.setCells (w.heap.size + 1) 0 [.int .i64 0, .int .i64 0, .slice none 0 0, .int .u32 0, .int .u32 0, .int .u32 0, .int .u32 0, .int .u32 0, .slice none 0 0] = x := ⟨_, rfl⟩
    have HFk := hide (hwF ▸ blk_sets [.int .i64 0, .int .i64 0, .slice none 0 0, .int .u32 0, .int .u32 0, .int .u32 0, .int .u32 0, .int .u32 0, .slice none 0 0] [] [.int .i64 0, .int .i64 0, .slice none 0 0, .int .u32 0, .int .u32 0, .int .u32 0, .int .u32 0, .int .u32 0, .slice none 0 0] HZ1.out rfl : Blk wF (w.heap.size + 1) 54 #[.int .i64 0, .int .i64 0, .slice none 0 0, .int .u32 0, .int .u32 0, .int .u32 0, .int .u32 0, .int .u32 0, .slice none 0 0])
    have HFb := hide (hwF ▸ below_sets [.int .i64 0, .int .i64 0, .slice none 0 0, .int .u32 0, .int .u32 0, .int .u32 0, .int .u32 0, .int .u32 0, .slice none 0 0] 0 HB1.out (by omega) : Below w.heap.size w wF)
    rw [hwF]
    clear hwF z0 z1 z2 z3 z4 z5 z6 z7 z8 zf
    have z0 : wF.cell? ⟨w.heap.size + 1, 0, none⟩ = some (.int .i64 0) := HFk.out.cell 0
    have z1 : wF.cell? ⟨w.heap.size + 1, 1, none⟩ = some (.int .i64 0) := HFk.out.cell 1
    have z2 : wF.cell? ⟨w.heap.size + 1, 2, none⟩ = some (.slice none 0 0) := HFk.out.cell 2
    have z3 : wF.cell? ⟨w.heap.size + 1, 3, none⟩ = some (.int .u32 0) := HFk.out.cell 3
    have z4 : wF.cell? ⟨w.heap.size + 1, 4, none⟩ = some (.int .u32 0) := HFk.out.cell 4
    have z5 : wF.cell? ⟨w.heap.size + 1, 5, none⟩ = some (.int .u32 0) := HFk.out.cell 5
    have z6 : wF.cell? ⟨w.heap.size + 1, 6, none⟩ = some (.int .u32 0) := HFk.out.cell 6
    have z7 : wF.cell? ⟨w.heap.size + 1, 7, none⟩ = some (.int .u32 0) := HFk.out.cell 7
    have z8 : wF.cell? ⟨w.heap.size + 1, 8, none⟩ = some (.slice none 0 0) := HFk.out.cell 8
    exact bodyPost_ret (v := .tuple #[.agg #[.int .i64 0, .int .i64 0, .slice none 0 0, .int .u32 0, .int .u32 0, .int .u32 0, .int .u32 0, .int .u32 0, .slice none 0 0], .bool false]) (by simp [results, Tryz.results139, go_sem, z0, z1, z2, z3, z4, z5, z6, z7, z8]) rfl ⟨HFb.out, rfl⟩
  | nd b a n v l r =>
    have e0 : trPtr (.nd b a n v l r) = .pointer (some ⟨b, 0, none⟩) := rfl
    rw [e0] at HFd
    clear e0
    simp only at hgf
    rw [hgf]
    obtain ⟨⟨vs, hv, hk, hval⟩, _, _⟩ := hfw
    obtain ⟨v0, v1, v2, v3, v4, v5, v6, v7, v8, rfl⟩ := lenA hv
    have HN := hide hk
    have HVl := hide hval
    have HOne := hide hv.2
    clear hgf hv hk hval
    obtain ⟨cn, hcn⟩ : ∃ c, trCnt l + trCnt r + (if v.isSome then 1 else 0) = c := ⟨_, rfl⟩
    rw [hcn] at HN
    clear hcn
    cases v with
    | none =>
      go_enter Tryz.func139, Tryz.ntmps139
      go_wp2_with fail
      rw [HW0.out]
      refine HFd.out.mono ?_
      rintro e w1 ⟨rfl, hb1⟩
      have HB1 := hide (HB0.out.trans (hb1.mono HB0.out.size))
      have HZ1 := hide (HZ0.out.below hb1 HZ0.out.lt)
      have yp : w1.cell? ⟨b, 11, none⟩ = some (.bool false) := (HN.out.below HB1.out HN.out.lt).cell 11
      have z0 : w1.cell? ⟨w.heap.size + 1, 0, none⟩ = some (.int .i64 0) := HZ1.out.cell 0
      have z1 : w1.cell? ⟨w.heap.size + 1, 1, none⟩ = some (.int .i64 0) := HZ1.out.cell 1
      have z2 : w1.cell? ⟨w.heap.size + 1, 2, none⟩ = some (.slice none 0 0) := HZ1.out.cell 2
      have z3 : w1.cell? ⟨w.heap.size + 1, 3, none⟩ = some (.int .u32 0) := HZ1.out.cell 3
      have z4 : w1.cell? ⟨w.heap.size + 1, 4, none⟩ = some (.int .u32 0) := HZ1.out.cell 4
      have z5 : w1.cell? ⟨w.heap.size + 1, 5, none⟩ = some (.int .u32 0) := HZ1.out.cell 5
      have z6 : w1.cell? ⟨w.heap.size + 1, 6, none⟩ = some (.int .u32 0) := HZ1.out.cell 6
      have z7 : w1.cell? ⟨w.heap.size + 1, 7, none⟩ = some (.int .u32 0) := HZ1.out.cell 7
      have z8 : w1.cell? ⟨w.heap.size + 1, 8, none⟩ = some (.slice none 0 0) := HZ1.out.cell 8
      have zf := fun i => HZ1.out.frozen i
      clear hb1
      go_wp2
      change bodyPost _ _ _ _ _ (w1.setCells (w.heap.size + 1) 0 [.int .i64 0, .int .i64 0, .slice none 0 0, .int .u32 0, .int .u32 0, .int .u32 0, .int .u32 0, .int .u32 0, .slice none 0 0])
      obtain ⟨wF, hwF⟩ : ∃ x, w1.setCells (w.heap.size + 1) 0 [.int .i64 0, .int .i64 0, .slice none 0 0, .int .u32 0, .int .u32 0, .int .u32 0, .int .u32 0, .int .u32 0, .slice none 0 0] = x := ⟨_, rfl⟩
      have HFk := hide (hwF ▸ blk_sets [.int .i64 0, .int .i64 0, .slice none 0 0, .int .u32 0, .int .u32 0, .int .u32 0, .int .u32 0, .int .u32 0, .slice none 0 0] [] [.int .i64 0, .int .i64 0, .slice none 0 0, .int .u32 0, .int .u32 0, .int .u32 0, .int .u32 0, .int .u32 0, .slice none 0 0] HZ1.out rfl : Blk wF (w.heap.size + 1) 54 #[.int .i64 0, .int .i64 0, .slice none 0 0, .int .u32 0, .int .u32 0, .int .u32 0, .int .u32 0, .int .u32 0, .slice none 0 0])
      have HFb := hide (hwF ▸ below_sets [.int .i64 0, .int .i64 0, .slice none 0 0, .int .u32 0, .int .u32 0, .int .u32 0, .int .u32 0, .int .u32 0, .slice none 0 0] 0 HB1.out (by omega) : Below w.heap.size w wF)
      rw [hwF]
      clear hwF z0 z1 z2 z3 z4 z5 z6 z7 z8 zf yp
      have z0 : wF.cell? ⟨w.heap.size + 1, 0, none⟩ = some (.int .i64 0) := HFk.out.cell 0
      have z1 : wF.cell? ⟨w.heap.size + 1, 1, none⟩ = some (.int .i64 0) := HFk.out.cell 1
      have z2 : wF.cell? ⟨w.heap.size + 1, 2, none⟩ = some (.slice none 0 0) := HFk.out.cell 2
      have z3 : wF.cell? ⟨w.heap.size + 1, 3, none⟩ = some (.int .u32 0) := HFk.out.cell 3
      have z4 : wF.cell? ⟨w.heap.size + 1, 4, none⟩ = some (.int .u32 0) := HFk.out.cell 4
      have z5 : wF.cell? ⟨w.heap.size + 1, 5, none⟩ = some (.int .u32 0) := HFk.out.cell 5
      have z6 : wF.cell? ⟨w.heap.size + 1, 6, none⟩ = some (.int .u32 0) := HFk.out.cell 6
      have z7 : wF.cell? ⟨w.heap.size + 1, 7, none⟩ = some (.int .u32 0) := HFk.out.cell 7
      have z8 : wF.cell? ⟨w.heap.size + 1, 8, none⟩ = some (.slice none 0 0) := HFk.out.cell 8
      exact bodyPost_ret (v := .tuple #[.agg #[.int .i64 0, .int .i64 0, .slice none 0 0, .int .u32 0, .int .u32 0, .int .u32 0, .int .u32 0, .int .u32 0, .slice none 0 0], .bool false]) (by simp [results, Tryz.results139, go_sem, z0, z1, z2, z3, z4, z5, z6, z7, z8]) rfl ⟨HFb.out, rfl⟩
    | some x =>
      go_enter Tryz.func139, Tryz.ntmps139
      go_wp2_with fail
      rw [HW0.out]
      refine HFd.out.mono ?_
      rintro e w1 ⟨rfl, hb1⟩
      have HB1 := hide (HB0.out.trans (hb1.mono HB0.out.size))
      have HZ1 := hide (HZ0.out.below hb1 HZ0.out.lt)
      have hN1 := HN.out.below HB1.out HN.out.lt
      have yp : w1.cell? ⟨b, 11, none⟩ = some (.bool true) := hN1.cell 11
      have y0 : w1.cell? ⟨b, 2, none⟩ = some v0 := hN1.cell 2
      have y1 : w1.cell? ⟨b, 3, none⟩ = some v1 := hN1.cell 3
      have y2 : w1.cell? ⟨b, 4, none⟩ = some v2 := hN1.cell 4
      have y3 : w1.cell? ⟨b, 5, none⟩ = some v3 := hN1.cell 5
      have y4 : w1.cell? ⟨b, 6, none⟩ = some v4 := hN1.cell 6
      have y5 : w1.cell? ⟨b, 7, none⟩ = some v5 := hN1.cell 7
      have y6 : w1.cell? ⟨b, 8, none⟩ = some v6 := hN1.cell 8
      have y7 : w1.cell? ⟨b, 9, none⟩ = some v7 := hN1.cell 9
      have y8 : w1.cell? ⟨b, 10, none⟩ = some v8 := hN1.cell 10
      have z0 : w1.cell? ⟨w.heap.size + 1, 0, none⟩ = some (.int .i64 0) := HZ1.out.cell 0
      have z1 : w1.cell? ⟨w.heap.size + 1, 1, none⟩ = some (.int .i64 0) := HZ1.out.cell 1
      have z2 : w1.cell? ⟨w.heap.size + 1, 2, none⟩ = some (.slice none 0 0) := HZ1.out.cell 2
      have z3 : w1.cell? ⟨w.heap.size + 1, 3, none⟩ = some (.int .u32 0) := HZ1.out.cell 3
      have z4 : w1.cell? ⟨w.heap.size + 1, 4, none⟩ = some (.int .u32 0) := HZ1.out.cell 4
      have z5 : w1.cell? ⟨w.heap.size + 1, 5, none⟩ = some (.int .u32 0) := HZ1.out.cell 5
      have z6 : w1.cell? ⟨w.heap.size + 1, 6, none⟩ = some (.int .u32 0) := HZ1.out.cell 6
      have z7 : w1.cell? ⟨w.heap.size + 1, 7, none⟩ = some (.int .u32 0) := HZ1.out.cell 7
      have z8 : w1.cell? ⟨w.heap.size + 1, 8, none⟩ = some (.slice none 0 0) := HZ1.out.cell 8
      have zf := fun i => HZ1.out.frozen i
      clear hb1 hN1
      have o0 : ∀ (a : Addr) (m : Mode) (W : World), (store a v0 m).run Tryz.prog W = stored Tryz.prog W a v0 m := fun a m W => run_store _ W a v0 m (HOne.out v0 (by simp))
      have o1 : ∀ (a : Addr) (m : Mode) (W : World), (store a v1 m).run Tryz.prog W = stored Tryz.prog W a v1 m := fun a m W => run_store _ W a v1 m (HOne.out v1 (by simp))
      have o2 : ∀ (a : Addr) (m : Mode) (W : World), (store a v2 m).run Tryz.prog W = stored Tryz.prog W a v2 m := fun a m W => run_store _ W a v2 m (HOne.out v2 (by simp))
      have o3 : ∀ (a : Addr) (m : Mode) (W : World), (store a v3 m).run Tryz.prog W = stored Tryz.prog W a v3 m := fun a m W => run_store _ W a v3 m (HOne.out v3 (by simp))
      have o4 : ∀ (a : Addr) (m : Mode) (W : World), (store a v4 m).run Tryz.prog W = stored Tryz.prog W a v4 m := fun a m W => run_store _ W a v4 m (HOne.out v4 (by simp))
      have o5 : ∀ (a : Addr) (m : Mode) (W : World), (store a v5 m).run Tryz.prog W = stored Tryz.prog W a v5 m := fun a m W => run_store _ W a v5 m (HOne.out v5 (by simp))
      have o6 : ∀ (a : Addr) (m : Mode) (W : World), (store a v6 m).run Tryz.prog W = stored Tryz.prog W a v6 m := fun a m W => run_store _ W a v6 m (HOne.out v6 (by simp))
      have o7 : ∀ (a : Addr) (m : Mode) (W : World), (store a v7 m).run Tryz.prog W = stored Tryz.prog W a v7 m := fun a m W => run_store _ W a v7 m (HOne.out v7 (by simp))
      have o8 : ∀ (a : Addr) (m : Mode) (W : World), (store a v8 m).run Tryz.prog W = stored Tryz.prog W a v8 m := fun a m W => run_store _ W a v8 m (HOne.out v8 (by simp))
      go_wp2
      change bodyPost _ _ _ _ _ (w1.setCells (w.heap.size + 1) 0 [v0, v1, v2, v3, v4, v5, v6, v7, v8])
      obtain ⟨wF, hwF⟩ : ∃ x, w1.setCells (w.heap.size + 1) 0 [v0, v1, v2, v3, v4, v5, v6, v7, v8] = x := ⟨_, rfl⟩
      have HFk := hide (hwF ▸ blk_sets [v0, v1, v2, v3, v4, v5, v6, v7, v8] [] [.int .i64 0, .int .i64 0, .slice none 0 0, .int .u32 0, .int .u32 0, .int .u32 0, .int .u32 0, .int .u32 0, .slice none 0 0] HZ1.out rfl : Blk wF (w.heap.size + 1) 54 #[v0, v1, v2, v3, v4, v5, v6, v7, v8])
      have HFb := hide (hwF ▸ below_sets [v0, v1, v2, v3, v4, v5, v6, v7, v8] 0 HB1.out (by omega) : Below w.heap.size w wF)
      rw [hwF]
      clear hwF y0 y1 y2 y3 y4 y5 y6 y7 y8 z0 z1 z2 z3 z4 z5 z6 z7 z8 zf yp o0 o1 o2 o3 o4 o5 o6 o7 o8
      have z0 : wF.cell? ⟨w.heap.size + 1, 0, none⟩ = some v0 := HFk.out.cell 0
      have z1 : wF.cell? ⟨w.heap.size + 1, 1, none⟩ = some v1 := HFk.out.cell 1
      have z2 : wF.cell? ⟨w.heap.size + 1, 2, none⟩ = some v2 := HFk.out.cell 2
      have z3 : wF.cell? ⟨w.heap.size + 1, 3, none⟩ = some v3 := HFk.out.cell 3
      have z4 : wF.cell? ⟨w.heap.size + 1, 4, none⟩ = some v4 := HFk.out.cell 4
      have z5 : wF.cell? ⟨w.heap.size + 1, 5, none⟩ = some v5 := HFk.out.cell 5
      have z6 : wF.cell? ⟨w.heap.size + 1, 6, none⟩ = some v6 := HFk.out.cell 6
      have z7 : wF.cell? ⟨w.heap.size + 1, 7, none⟩ = some v7 := HFk.out.cell 7
      have z8 : wF.cell? ⟨w.heap.size + 1, 8, none⟩ = some v8 := HFk.out.cell 8
      exact bodyPost_ret (v := .tuple #[.agg #[v0, v1, v2, v3, v4, v5, v6, v7, v8], .bool true]) (by simp [results, Tryz.results139, go_sem, z0, z1, z2, z3, z4, z5, z6, z7, z8]) rfl ⟨HFb.out, v0, v1, v2, v3, v4, v5, v6, v7, v8, rfl, frs_chg (HVl.out x rfl) (chg_below (S := fun _ => False) HFb.out) (by simp)⟩
end Go.Proofs.YtgkpkljenndpkaaGreat
set_option linter.unusedSimpArgs false
set_option linter.unusedVariables false
namespace Go.Proofs.YtgkpkljenndpkaaGreat
open Go.RowKit Go.WideShapes Go.ChangeShapes
attribute [local go_sem] Oper.semAt_some
def pxR (w : World) (vs : List Value) (x : Nat × Nat) : Prop := vs = [.int .u32 (x.1 : Int), .int .i64 (x.2 : Int)]
theorem pxMono : SMono pxR := fun _ _ _ _ _ h => h
theorem pxC_chunks (w : World) : ∀ l : List (Nat × Nat), Chunks 2 pxR w (pxC l) l
  | [] => Chunks.nil_
  | x :: l => by
      have h : pxC (x :: l) = [.int .u32 (x.1 : Int), .int .i64 (x.2 : Int)] ++ pxC l := by simp [pxC]
      rw [h]
      exact Chunks.app_ (l := [x]) (Chunks.one_ rfl rfl) (pxC_chunks w l)
theorem own_pxs {w : World} {b n c : Nat} {A : Option Addr} {l : List (Nat × Nat)} (h : w.ownsRow b 51 2 (.slice A n c) n (pxC l)) : LstAt 2 pxR w A n c l := LstAt.of_own (by decide) h (pxC_chunks w l)
theorem PXat {w : World} {A : Option Addr} {n c q : Nat} {l : List (Nat × Nat)} (h : LstAt 2 pxR w A n c l) (hq : q < n) : ∃ g o a m, A = some ⟨g, o, none⟩ ∧ g < w.heap.size ∧ l[q]? = some (a, m) ∧ w.cell? ⟨g, o + q * 2, none⟩ = some (.int .u32 (a : Int)) ∧ w.cell? ⟨g, o + q * 2 + 1, none⟩ = some (.int .i64 (m : Int)) := by
  obtain ⟨h1, h2, h3, h4⟩ := h
  obtain ⟨g, o, rfl, hg, hc⟩ := h4 (by omega)
  have hx : l[q]? = some l[q] := List.getElem?_eq_getElem (by omega)
  obtain ⟨vs, hl, rfl, hcs⟩ := hc q _ hx
  exact ⟨g, o, _, _, rfl, hg, hx, hcs 0 _ rfl, hcs 1 _ rfl⟩
/-- A tree's value: attributes. -/
def atR (w : World) (vs : List Value) (x : AT) : Prop := AtR w x (.agg vs.toArray)
def tdN (z : Nat × Nat × AT) : TD := ⟨(z.1 : Int), (z.2.1 : Int), normA z.2.2⟩
/-- Attributes that are not too great. -/
def AtOk (x : AT) : Prop := numS x.path ≤ 10000 ∧ x.comms.length ≤ 10000
/-- A tree of attributes in memory, its pointer's block g. -/
structure TrT (F : Nat → Prop) (w : World) (g : Nat) (t : Tr AT) : Prop where
  root : Blk w g 251 #[trPtr t]
  tree : TrA 9 255 F atR w t
  gF : ¬ F g
  gB : g ∉ trB t
  low : ∀ k, F k → k < w.heap.size
  ok : ∀ z ∈ trL t, AtOk z.2.2
  cnt : trCnt t ≤ 100000
theorem TrT.chg {F S : Nat → Prop} {w w' : World} {g : Nat} {t : Tr AT} (h : TrT F w g t) (hc : ChgS S w w') (hs : ∀ k ∈ trB t, ¬ S k) (hF : ∀ k, F k → ¬ S k) (hg : ¬ S g) : TrT F w' g t :=
  ⟨chg_blk hc h.root hg, h.tree.chg hc hs hF, h.gF, h.gB, fun k hk => Nat.lt_of_lt_of_le (h.low k hk) hc.size, h.ok, h.cnt⟩
theorem TrT.below {F : Nat → Prop} {w w' : World} {g : Nat} {t : Tr AT} (h : TrT F w g t) (hb : Below w.heap.size w w') : TrT F w' g t := h.chg (S := fun _ => False) (chg_below hb) (by simp) (by simp) (by simp)
set_option maxRecDepth 100000 in
set_option maxHeartbeats 8000000 in
theorem riblist_any (F : Nat → Prop) (g : Nat) (t : Tr AT) (w : World) (h : TrT F w g t) :
    Calls Tryz.prog 142 #[.pointer (some ⟨g, 0, none⟩)] w fun e w' => ∃ A' c' xs, e = .returned (.slice A' (trCnt t) c') ∧ LOw 11 172 tdR w' w.heap.size w.heap.size A' (trCnt t) c' ((trL t).map tdN) xs ∧ Below w.heap.size w w' := by
  obtain ⟨i0, hi, hz0, hz1, hz2⟩ := info_parts toldInfo
  have HAl := hide (allA_any (R := atR) g t w h.root h.tree.mem h.low (Nat.le_trans h.cnt (by decide)))
  have hcn := h.cnt
  have hkl : (keyL (trL t)).length = trCnt t := by unfold keyL; rw [List.length_map, trL_len]
  have HT := hide h
  obtain ⟨N, hN⟩ : ∃ N, trCnt t = N := ⟨_, rfl⟩
  rw [hN] at HAl hcn hkl ⊢
  have HN := hide hN
  clear h hN
  go_enter Tryz.func142, Tryz.ntmps142
  go_wp2_with fail
  refine HAl.out.mono ?_
  rintro e w1 ⟨hb1, A, c, rfl, ho⟩
  have HP := hide (own_pxs ho)
  have HB1 := hide hb1
  have hNc : N ≤ c := (own_pxs ho).2.1
  have hcm := (own_pxs ho).2.2.1
  unfold maxLen at hcm
  have HTw := hide (HT.out.below hb1)
  clear hb1 ho
  go_wp2
  go_loopw [3, 11] (fun vo iv wr => ∃ (q : Nat) (A1 : Option Addr) (c1 : Nat) (xs : List Value), q ≤ N ∧ iv = .int .i64 (q : Nat) ∧ vo = .slice A1 q c1 ∧ LOw 11 172 tdR wr w1.heap.size w1.heap.size A1 q c1 (((trL t).take q).map tdN) xs ∧ Below w1.heap.size w1 wr) (fun _ iv _ => N - (intOf iv).toNat)
  case atStart => exact ⟨0, none, 0, [], Nat.zero_le _, rfl, rfl, by simpa using LOw.nil, Below.refl _ _⟩
  case round =>
    obtain ⟨q, A1, c1, xs, hq, rfl, rfl, hlo, hbel⟩ := hrel
    have HLo := hide hlo
    have HBe := hide hbel
    have hs1 := hbel.size
    by_cases hlt : q < N
    · obtain ⟨g2, o, a, m, rfl, hg, hx, hc0, hc1⟩ := PXat (HP.out.below pxMono hbel) hlt
      have hz : ∃ X, (trL t)[q]? = some (a, m, X) := by
        unfold keyL at hx
        rw [List.getElem?_map] at hx
        cases hz : (trL t)[q]? with
        | none => rw [hz] at hx; simp at hx
        | some z =>
          rw [hz] at hx
          simp only [Option.map_some, Option.some.injEq, Prod.mk.injEq] at hx
          exact ⟨z.2.2, by rw [← hx.1, ← hx.2]⟩
      obtain ⟨X, hz⟩ := hz
      have hzm := List.mem_of_getElem? hz
      have hgt := (trL_mem t HT.out.tree.wf).1 hzm
      have HOk := hide (HT.out.ok _ hzm)
      have HPg := hide (trGet_pg t HT.out.tree.wf hgt)
      obtain ⟨Y, hY⟩ : ∃ Y, normA X = Y := ⟨_, rfl⟩
      have HE : Hid (((trL t).take (q + 1)).map tdN = ((trL t).take q).map tdN ++ [⟨(a : Int), (m : Int), Y⟩]) := hide (by rw [List.take_add_one, hz, ← hY]; simp [tdN])
      have HY := hide hY
      obtain ⟨w2, hw2⟩ : ∃ W, wr.alloc (.cells #[.int .u32 (a : Int), .int .i64 (m : Int)] 51) = W := ⟨_, rfl⟩
      have hb2 : Below wr.heap.size wr w2 := hw2 ▸ blkBelow1 wr _
      have HX2 : Hid (Blk w2 wr.heap.size 51 #[.int .u32 (a : Int), .int .i64 (m : Int)]) := hide (hw2 ▸ Blk.new wr _ _)
      have HT2 := (HTw.out.below hbel).below hb2
      have HGt := hide (getA_any (R := atR) g a m t w2 HPg.out HT2.root HT2.tree.mem HT2.tree.wf HT2.low)
      rw [hgt] at HGt
      have HW2 := hide hw2
      have HB2 := hide hb2
      have q1 : (q : Int) < (N : Int) := by omega
      have q0 : (0 : Int) ≤ (q : Int) := by omega
      have hwq : IntKind.i64.wrap ((q : Int) + 1) = (q : Int) + 1 := by rw [IntKind.wrap_i64]; omega
      clear hlo hbel hx hz hzm hgt hY hw2 hb2 HT2
      go_wp2_with fail
      rw [HW2.out]
      refine HGt.out.mono ?_
      rintro e w3 ⟨hb3, v0, v1, v2, v3, v4, v5, v6, v7, v8, rfl, hfr⟩
      obtain ⟨XA, xn, xc, XB, xm, xd, hv, hxr, hxu⟩ := frs_here hfr
      simp only [Value.agg.injEq, Array.mk.injEq, List.cons.injEq, and_true] at hv
      obtain ⟨rfl, rfl, rfl, rfl, rfl, rfl, rfl, rfl, rfl⟩ := hv
      obtain ⟨w4, hw4⟩ : ∃ W, w3.alloc (.cells #[.int .i64 X.has, .int .i64 X.org, .slice XA xn xc, .int .u32 X.hop, .int .u32 X.med, .int .u32 X.pref, .int .u32 X.aas, .int .u32 X.aid, .slice XB xm xd] 54) = W := ⟨_, rfl⟩
      have hb4 : Below w3.heap.size w3 w4 := hw4 ▸ blkBelow1 w3 _
      have HV4 : Hid (Blk w4 w3.heap.size 54 #[.int .i64 X.has, .int .i64 X.org, .slice XA xn xc, .int .u32 X.hop, .int .u32 X.med, .int .u32 X.pref, .int .u32 X.aas, .int .u32 X.aid, .slice XB xm xd]) := hide (hw4 ▸ Blk.new w3 _ _)
      have HX4 := hide ((HX2.out.below hb3 HX2.out.lt).below hb4 (HX2.out.below hb3 HX2.out.lt).lt)
      have HXr := hide (hxr.below sgMono hb4)
      have HXu := hide (hxu.below hb4)
      have HB4 := hide (HB2.out.trans ((hb3.trans (hb4.mono hb3.size)).mono HB2.out.size))
      have HW4 := hide hw4
      clear hb3 hfr hxr hxu hw4 hb4 hc0 hc1 HGt
      go_upto_region 6 with fail
      rw [HW4.out]
      have Hmn := hide (show AllMono [(fun v _ => v = Value.slice A1 q c1), (fun v _ => v = .agg #[.int .u32 (a : Int), .int .i64 (m : Int)]), (fun v _ => v = atV X.has X.org XA xn xc X.hop X.med X.pref X.aas X.aid XB xm xd), (fun v W2 => ∃ A n c B m_ d, v = atV Y.has Y.org A n c Y.hop Y.med Y.pref Y.aas Y.aid B m_ d ∧ (∃ xs, LOw 2 64 sgR W2 w4.heap.size w4.heap.size A n c Y.path xs) ∧ FrB w4.heap.size none (fun w => U32s w B m_ d Y.comms) W2), (fun v W2 => ∃ A n c B m_ d, v = .agg #[.int .u32 (a : Int), .int .i64 (m : Int), .int .i64 Y.has, .int .i64 Y.org, .slice A n c, .int .u32 Y.hop, .int .u32 Y.med, .int .u32 Y.pref, .int .u32 Y.aas, .int .u32 Y.aid, .slice B m_ d] ∧ (∃ xs, LOw 2 64 sgR W2 w4.heap.size w4.heap.size A n c Y.path xs) ∧ FrB w4.heap.size none (fun w => U32s w B m_ d Y.comms) W2), (fun v W2 => ∃ R A n c B m_ d, v = .slice (some ⟨R, 0, none⟩) 1 1 ∧ Blk W2 R 172 #[.int .u32 (a : Int), .int .i64 (m : Int), .int .i64 Y.has, .int .i64 Y.org, .slice A n c, .int .u32 Y.hop, .int .u32 Y.med, .int .u32 Y.pref, .int .u32 Y.aas, .int .u32 Y.aid, .slice B m_ d] ∧ (∃ xs, LOw 2 64 sgR W2 w4.heap.size w4.heap.size A n c Y.path xs) ∧ FrB w4.heap.size none (fun w => U32s w B m_ d Y.comms) W2)] from ⟨fun _ _ _ _ h => h, fun _ _ _ _ h => h, fun _ _ _ _ h => h, fun v w2 w3 hb ⟨A, n, c, B, m_, d, e, ⟨xs, h1⟩, h2⟩ => ⟨A, n, c, B, m_, d, e, ⟨xs, h1.below hb⟩, h2.below hb⟩, fun v w2 w3 hb ⟨A, n, c, B, m_, d, e, ⟨xs, h1⟩, h2⟩ => ⟨A, n, c, B, m_, d, e, ⟨xs, h1.below hb⟩, h2.below hb⟩, fun v w2 w3 hb ⟨R, A, n, c, B, m_, d, e, hk, ⟨xs, h1⟩, h2⟩ => ⟨R, A, n, c, B, m_, d, e, hk.below hb hk.lt, ⟨xs, h1.below hb⟩, h2.below hb⟩, trivial⟩)
      refine wp_region_relT 6 _ (by kernel_rfl) (by kernel_rfl) (by kernel_rfl) (by kernel_rfl) (by kernel_rfl) (relMono _ Hmn.out) ⟨?_, ?_, ?_, ?_, ?_, ?_, trivial⟩ ?_
      · refine relStep_plain rfl ?_
        intro Ac w5 hp
        have hb := hp.bel
        have a3 : Ac.eval (.tmp 3) = Value.slice A1 q c1 := hp.out 3 (by rfl)
        have hc := evalC Ac; have hf := evalF Ac; have hgl := evalG Ac
        obtain ⟨ρ, hρ⟩ : ∃ ρ, Ac.eval = ρ := ⟨_, rfl⟩
        rw [hρ] at a3 hc hf hgl
        exact relPure hρ (Value.slice A1 q c1) (by simp [go_sem, hc, hf, hgl, ↓IntWalk.iteOmega, a3, *]) rfl
      · refine relStep_plain rfl ?_
        intro Ac w5 hp
        have hb := hp.bel
        have a5 : Ac.eval (.tmp 5) = .pointer (some ⟨wr.heap.size, 0, none⟩) := hp.out 5 (by rfl)
        have hx5 := HX4.out.below hb HX4.out.lt
        have z0 : w5.cell? ⟨wr.heap.size, 0, none⟩ = some (.int .u32 (a : Int)) := hx5.cell 0
        have z1 : w5.cell? ⟨wr.heap.size, 1, none⟩ = some (.int .i64 (m : Int)) := hx5.cell 1
        have hc := evalC Ac; have hf := evalF Ac; have hgl := evalG Ac
        obtain ⟨ρ, hρ⟩ : ∃ ρ, Ac.eval = ρ := ⟨_, rfl⟩
        rw [hρ] at a5 hc hf hgl
        exact relPure hρ (.agg #[.int .u32 (a : Int), .int .i64 (m : Int)]) (by simp [go_sem, hc, hf, hgl, ↓IntWalk.iteOmega, a5, *]) rfl
      · refine relStep_plain rfl ?_
        intro Ac w5 hp
        have hb := hp.bel
        have a6 : Ac.eval (.tmp 6) = .pointer (some ⟨w3.heap.size, 0, none⟩) := hp.out 6 (by rfl)
        have hv5 := HV4.out.below hb HV4.out.lt
        have z2 : w5.cell? ⟨w3.heap.size, 0, none⟩ = some (.int .i64 X.has) := hv5.cell 0
        have z3 : w5.cell? ⟨w3.heap.size, 1, none⟩ = some (.int .i64 X.org) := hv5.cell 1
        have z4 : w5.cell? ⟨w3.heap.size, 2, none⟩ = some (.slice XA xn xc) := hv5.cell 2
        have z5 : w5.cell? ⟨w3.heap.size, 3, none⟩ = some (.int .u32 X.hop) := hv5.cell 3
        have z6 : w5.cell? ⟨w3.heap.size, 4, none⟩ = some (.int .u32 X.med) := hv5.cell 4
        have z7 : w5.cell? ⟨w3.heap.size, 5, none⟩ = some (.int .u32 X.pref) := hv5.cell 5
        have z8 : w5.cell? ⟨w3.heap.size, 6, none⟩ = some (.int .u32 X.aas) := hv5.cell 6
        have z9 : w5.cell? ⟨w3.heap.size, 7, none⟩ = some (.int .u32 X.aid) := hv5.cell 7
        have z10 : w5.cell? ⟨w3.heap.size, 8, none⟩ = some (.slice XB xm xd) := hv5.cell 8
        have hc := evalC Ac; have hf := evalF Ac; have hgl := evalG Ac
        obtain ⟨ρ, hρ⟩ : ∃ ρ, Ac.eval = ρ := ⟨_, rfl⟩
        rw [hρ] at a6 hc hf hgl
        exact relPure hρ (atV X.has X.org XA xn xc X.hop X.med X.pref X.aas X.aid XB xm xd) (by simp [go_sem, hc, hf, hgl, ↓IntWalk.iteOmega, a6, *]) rfl
      · refine relStep_plain rfl ?_
        intro Ac w5 hp
        have hb := hp.bel
        have a23 : Ac.eval (.tmp 23) = atV X.has X.org XA xn xc X.hop X.med X.pref X.aas X.aid XB xm xd := hp.dep 2 (by kernel_rfl)
        have hc := evalC Ac; have hf := evalF Ac; have hgl := evalG Ac
        obtain ⟨ρ, hρ⟩ : ∃ ρ, Ac.eval = ρ := ⟨_, rfl⟩
        rw [hρ] at a23 hc hf hgl
        refine relCall hρ 127 #[atV X.has X.org XA xn xc X.hop X.med X.pref X.aas X.aid XB xm xd] (by simp [go_sem, hc, hf, hgl, ↓IntWalk.iteOmega, a23, *]) ?_
        refine (attrNormX_any X (atV X.has X.org XA xn xc X.hop X.med X.pref X.aas X.aid XB xm xd) w5 ⟨XA, xn, xc, XB, xm, xd, rfl, HXr.out.below sgMono hb, HXu.out.below hb⟩ HOk.out.1 HOk.out.2).mono ?_
        rintro e w6 ⟨v6, rfl, ⟨A6, n6, c6, xs6, B6, m6, d6, rfl, hl6, hu6⟩, hb6⟩
        rw [HY.out] at hl6 hu6 ⊢
        exact ⟨_, rfl, ⟨A6, n6, c6, B6, m6, d6, rfl, ⟨xs6, hl6.less hb.size hb.size⟩, hu6.less hb.size⟩, hb6⟩
      · refine relStep_plain rfl ?_
        intro Ac w5 hp
        have hb := hp.bel
        have a22 : Ac.eval (.tmp 22) = .agg #[.int .u32 (a : Int), .int .i64 (m : Int)] := hp.dep 1 (by kernel_rfl)
        obtain ⟨A24, n24, c24, B24, m24, d24, a24, ⟨xs24, hl24⟩, hu24⟩ := hp.dep 3 (by kernel_rfl)
        change Ac.eval (.tmp 24) = _ at a24
        have hc := evalC Ac; have hf := evalF Ac; have hgl := evalG Ac
        obtain ⟨ρ, hρ⟩ : ∃ ρ, Ac.eval = ρ := ⟨_, rfl⟩
        rw [hρ] at a22 a24 hc hf hgl
        exact relPure hρ (.agg #[.int .u32 (a : Int), .int .i64 (m : Int), .int .i64 Y.has, .int .i64 Y.org, .slice A24 n24 c24, .int .u32 Y.hop, .int .u32 Y.med, .int .u32 Y.pref, .int .u32 Y.aas, .int .u32 Y.aid, .slice B24 m24 d24]) (by simp [go_sem, hc, hf, hgl, ↓IntWalk.iteOmega, a22, a24, *]) ⟨A24, n24, c24, B24, m24, d24, rfl, ⟨xs24, hl24⟩, hu24⟩
      · refine relStep_plain rfl ?_
        intro Ac w5 hp
        have hb := hp.bel
        obtain ⟨A25, n25, c25, B25, m25, d25, a25, ⟨xs25, hl25⟩, hu25⟩ := hp.dep 4 (by kernel_rfl)
        change Ac.eval (.tmp 25) = _ at a25
        have hc := evalC Ac; have hf := evalF Ac; have hgl := evalG Ac
        obtain ⟨ρ, hρ⟩ : ∃ ρ, Ac.eval = ρ := ⟨_, rfl⟩
        rw [hρ] at a25 hc hf hgl
        exact relVal hρ (.slice (some ⟨w5.heap.size, 0, none⟩) 1 1) (w5.alloc (.cells #[.int .u32 (a : Int), .int .i64 (m : Int), .int .i64 Y.has, .int .i64 Y.org, .slice A25 n25 c25, .int .u32 Y.hop, .int .u32 Y.med, .int .u32 Y.pref, .int .u32 Y.aas, .int .u32 Y.aid, .slice B25 m25 d25] 172)) (by simp [go_sem, hc, hf, hgl, ↓IntWalk.iteOmega, a25]) ⟨w5.heap.size, A25, n25, c25, B25, m25, d25, rfl, Blk.new w5 _ _, ⟨xs25, hl25.below (blkBelow1 w5 _)⟩, hu25.below (blkBelow1 w5 _)⟩ ((Below.refl _ _).alloc (Nat.le_refl _) _)
      intro u w8 hb7 hall
      have e21 : u 0 = Value.slice A1 q c1 := relAll_at hall (i := 0) (by decide +kernel)
      obtain ⟨R26, A26, n26, c26, B26, m26, d26, e26, hR26, ⟨xs26, hl26⟩, hu26⟩ := relAll_at hall (i := 5) (by decide +kernel)
      change u 5 = _ at e26
      clear hall
      simp only [List.drop_succ_cons, List.drop_zero, List.take_succ_cons, List.take_zero, putAll, Act.put, List.setIfInBounds_toArray, List.set_cons_zero, List.set_cons_succ, Nat.zero_add, Nat.reduceAdd, e21, e26]
      have hsw := hb7.size
      have HLo8 := hide ((HLo.out.below HB4.out).below hb7)
      have HB8 := hide (HBe.out.trans ((HB4.out.trans (hb7.mono HB4.out.size)).mono hs1))
      have hs4 := HB4.out.size
      refine wpList_append_any w8 rfl (.tmp 21) (.tmp 26) 76 rfl w1.heap.size 172 i0 _ 11 104 Tryz.underlying76 hi hz0 hz1 hz2 rfl (by decide) (.slice A1 q c1) q xs rfl HLo8.out.1 w8.heap.size (some ⟨R26, 0, none⟩) 1 1 [.int .u32 (a : Int), .int .i64 (m : Int), .int .i64 Y.has, .int .i64 Y.org, .slice A26 n26 c26, .int .u32 Y.hop, .int .u32 Y.med, .int .u32 Y.pref, .int .u32 Y.aas, .int .u32 Y.aid, .slice B26 m26 d26] rfl (reads_blkN hR26 hR26.lt rfl rfl) (by simp [Value.oneCell']) (by unfold maxLen; omega) (by omega) (by omega) ?_
      intro v2 w9 h2 h3 h4
      obtain ⟨A4, c4, rfl, hlo4⟩ := LOw.push HLo8.out (chunk1_fr rfl (td_fr hl26 hu26 (Nat.le_trans hs1 hs4) (fun k hk => Nat.lt_of_lt_of_le (own_block_lt HLo.out.1 k hk) hs4))) h2 h3 h4
      have HL9 := hide hlo4
      have HB9 := hide (HB8.out.grown h3 (by omega) (fun k hk => own_low_block HLo.out.1 k hk))
      clear hlo4 h2 h3 h4 hb7 hR26 hl26 hu26 e21 e26
      go_wp2
      go_roundw
      case rel => exact ⟨q + 1, A4, c4, _, by omega, by go_num, rfl, by rw [HE.out]; exact HL9.out, HB9.out⟩
      case measure => simp [intOf]; omega
    · obtain rfl : q = N := by omega
      have e1 : decide ((q : Int) < (q : Int)) = false := by simp
      have hall : (trL t).take q = trL t := List.take_of_length_le (by rw [trL_len, HN.out]; exact Nat.le_refl _)
      rw [hall] at hlo
      have HLf := hide hlo
      clear hlo hbel hlt HLo hall
      go_wp2
      go_ret
      exact ⟨A1, c1, xs, rfl, HLf.out.less HB1.out.size HB1.out.size, HB1.out.trans (HBe.out.mono HB1.out.size)⟩
end Go.Proofs.YtgkpkljenndpkaaGreat
set_option linter.unusedSimpArgs false
set_option linter.unusedVariables false
namespace Go.Proofs.YtgkpkljenndpkaaGreat
open Go.RowKit Go.WideShapes Go.ChangeShapes
attribute [local go_sem] Oper.semAt_some
set_option maxRecDepth 100000 in
set_option maxHeartbeats 4000000 in
theorem putnilA_any (a n : Nat) (vh vo : Int) (vA : Option Addr) (vn vc : Nat) (vp vm vf vs vi : Int) (vB : Option Addr) (vk vd : Nat) (w : World) :
    Calls Tryz.prog 234 #[.pointer none, .agg #[.int .u32 (a : Int), .int .i64 (n : Int)], .agg #[.int .i64 vh, .int .i64 vo, .slice vA vn vc, .int .u32 vp, .int .u32 vm, .int .u32 vf, .int .u32 vs, .int .u32 vi, .slice vB vk vd]] w fun e w' => ∃ b, e = .returned (.pointer (some ⟨b, 0, none⟩)) ∧ w.heap.size ≤ b ∧ Blk w' b 255 (ndC a n [.int .i64 vh, .int .i64 vo, .slice vA vn vc, .int .u32 vp, .int .u32 vm, .int .u32 vf, .int .u32 vs, .int .u32 vi, .slice vB vk vd] true 1 (.pointer none) (.pointer none)) ∧ Below w.heap.size w w' := by
  have HB := hide (blkBelow3q w (.cells #[.int .u32 (a : Int), .int .i64 (n : Int)] 51) (.cells #[.int .i64 vh, .int .i64 vo, .slice vA vn vc, .int .u32 vp, .int .u32 vm, .int .u32 vf, .int .u32 vs, .int .u32 vi, .slice vB vk vd] 54) (.cells (ndC a n [.int .i64 vh, .int .i64 vo, .slice vA vn vc, .int .u32 vp, .int .u32 vm, .int .u32 vf, .int .u32 vs, .int .u32 vi, .slice vB vk vd] true 1 (.pointer none) (.pointer none)) 255))
  have HK : Hid (Blk (((w.alloc (.cells #[.int .u32 (a : Int), .int .i64 (n : Int)] 51)).alloc (.cells #[.int .i64 vh, .int .i64 vo, .slice vA vn vc, .int .u32 vp, .int .u32 vm, .int .u32 vf, .int .u32 vs, .int .u32 vi, .slice vB vk vd] 54)).alloc (.cells (ndC a n [.int .i64 vh, .int .i64 vo, .slice vA vn vc, .int .u32 vp, .int .u32 vm, .int .u32 vf, .int .u32 vs, .int .u32 vi, .slice vB vk vd] true 1 (.pointer none) (.pointer none)) 255)) (w.heap.size + 1 + 1) 255 (ndC a n [.int .i64 vh, .int .i64 vo, .slice vA vn vc, .int .u32 vp, .int .u32 vm, .int .u32 vf, .int .u32 vs, .int .u32 vi, .slice vB vk vd] true 1 (.pointer none) (.pointer none))) := hide (blk_new' _ _ (by simp))
  go_enter Tryz.func234, Tryz.ntmps234
  go_wp2
  go_ret
  exact ⟨w.heap.size + 1 + 1, rfl, by omega, HK.out, HB.out⟩
set_option maxRecDepth 100000 in
set_option maxHeartbeats 8000000 in
theorem puteA_any {α : Type} {F : Nat → Prop} {R : World → List Value → α → Prop} (g a n : Nat) (x : α) (vh vo : Int) (vA : Option Addr) (vn vc : Nat) (vp vm vf vs vi : Int) (vB : Option Addr) (vk vd : Nat) (w : World) (ha : PG a n) (hg : Blk w g 251 #[.pointer none]) (hF : ∀ k, F k → k < w.heap.size) (hv : FrS F none (fun w => R w [.int .i64 vh, .int .i64 vo, .slice vA vn vc, .int .u32 vp, .int .u32 vm, .int .u32 vf, .int .u32 vs, .int .u32 vi, .slice vB vk vd] x) w) (hgF : ¬ F g) :
    Calls Tryz.prog 136 #[.pointer (some ⟨g, 0, none⟩), .agg #[.int .u32 (a : Int), .int .i64 (n : Int)], .agg #[.int .i64 vh, .int .i64 vo, .slice vA vn vc, .int .u32 vp, .int .u32 vm, .int .u32 vf, .int .u32 vs, .int .u32 vi, .slice vB vk vd]] w fun e w' => e = .returned (.tuple #[.agg #[.int .i64 0, .int .i64 0, .slice none 0 0, .int .u32 0, .int .u32 0, .int .u32 0, .int .u32 0, .int .u32 0, .slice none 0 0], .bool false]) ∧ ∃ b, w.heap.size ≤ b ∧ Blk w' g 251 #[.pointer (some ⟨b, 0, none⟩)] ∧ TrA 9 255 F R w' (.nd b a n (some x) .nil .nil) ∧ ChgS (fun k => k = g) w w' := by
  obtain ⟨w0, hw0⟩ : ∃ w0, ((w.alloc (.cells #[.int .u32 (a : Int), .int .i64 (n : Int)] 51)).alloc (.cells #[.int .i64 vh, .int .i64 vo, .slice vA vn vc, .int .u32 vp, .int .u32 vm, .int .u32 vf, .int .u32 vs, .int .u32 vi, .slice vB vk vd] 54)).alloc (.cells #[.int .i64 0, .int .i64 0, .slice none 0 0, .int .u32 0, .int .u32 0, .int .u32 0, .int .u32 0, .int .u32 0, .slice none 0 0] 54) = w0 := ⟨_, rfl⟩
  have hb0 : Below w.heap.size w w0 := hw0 ▸ blkBelow3q w _ _ _
  have HX0 : Hid (Blk w0 w.heap.size 51 #[.int .u32 (a : Int), .int .i64 (n : Int)]) := hide (hw0 ▸ ((Blk.new w _ _).alloc _).alloc _)
  have HV0 : Hid (Blk w0 (w.heap.size + 1) 54 #[.int .i64 vh, .int .i64 vo, .slice vA vn vc, .int .u32 vp, .int .u32 vm, .int .u32 vf, .int .u32 vs, .int .u32 vi, .slice vB vk vd]) := hide (hw0 ▸ (blk_new' _ _ (by simp)).alloc _)
  have HZ0 : Hid (Blk w0 (w.heap.size + 1 + 1) 54 #[.int .i64 0, .int .i64 0, .slice none 0 0, .int .u32 0, .int .u32 0, .int .u32 0, .int .u32 0, .int .u32 0, .slice none 0 0]) := hide (hw0 ▸ blk_new' _ _ (by simp))
  have HGd := hide (Good_any a (n : Int) ha.1 (by omega) (by have := ha.2.1; omega))
  rw [good_pg ha] at HGd
  unfold pfx at HGd
  have HFd := hide (fun W (hb : Below w.heap.size w W) => findA_any (F := F) (R := R) g a n (.nil : Tr α) W ha (hg.below hb hg.lt) trivial trivial)
  have HG := hide hg
  have HW0 := hide hw0
  have HB0 := hide hb0
  have HFv := hide hv
  have HF := hide hF
  have HPa := hide ha
  have HgF := hide hgF
  clear hw0 hb0 hg hF hv ha hgF
  go_enter Tryz.func136, Tryz.ntmps136
  go_wp2_with fail
  rw [HW0.out]
  refine (HGd.out _).mono ?_
  rintro e w1 ⟨rfl, hb1⟩
  have HB1 := hide (HB0.out.trans (hb1.mono HB0.out.size))
  have HX1 := hide (HX0.out.below hb1 HX0.out.lt)
  have x0 : w1.cell? ⟨w.heap.size, 0, none⟩ = some (.int .u32 (a : Int)) := HX1.out.cell 0
  have x1 : w1.cell? ⟨w.heap.size, 1, none⟩ = some (.int .i64 (n : Int)) := HX1.out.cell 1
  have HV1 := hide (HV0.out.below hb1 HV0.out.lt)
  have HZ1 := hide (HZ0.out.below hb1 HZ0.out.lt)
  clear hb1
  go_wp2_with fail
  refine (HFd.out _ HB1.out).mono ?_
  rintro e w2 ⟨rfl, hb2⟩
  have HB2 := hide (HB1.out.trans (hb2.mono HB1.out.size))
  have HX2 := hide (HX1.out.below hb2 HX1.out.lt)
  have HV2 := hide (HV1.out.below hb2 HV1.out.lt)
  have HZ2 := hide (HZ1.out.below hb2 HZ1.out.lt)
  have HG2 := hide (HG.out.below HB2.out HG.out.lt)
  have e0 : trPtr (trFind a n (.nil : Tr α)) = .pointer none := rfl
  rw [e0]
  clear e0 hb2 x0 x1
  go_upto_region 7 with fail
  have Hmn := hide (show AllMono [(fun v _ => v = .pointer (some ⟨g, 0, none⟩)), (fun v _ => v = .pointer (some ⟨g, 0, none⟩)), (fun v _ => v = .pointer (some ⟨g, 0, none⟩)), (fun v _ => v = .pointer (some ⟨g, 0, none⟩)), (fun v _ => v = .pointer none), (fun v _ => v = .agg #[.int .u32 (a : Int), .int .i64 (n : Int)]), (fun v _ => v = .agg #[.int .i64 vh, .int .i64 vo, .slice vA vn vc, .int .u32 vp, .int .u32 vm, .int .u32 vf, .int .u32 vs, .int .u32 vi, .slice vB vk vd]), (fun v W => ∃ b, v = .pointer (some ⟨b, 0, none⟩) ∧ w2.heap.size ≤ b ∧ Blk W b 255 (ndC a n [.int .i64 vh, .int .i64 vo, .slice vA vn vc, .int .u32 vp, .int .u32 vm, .int .u32 vf, .int .u32 vs, .int .u32 vi, .slice vB vk vd] true 1 (.pointer none) (.pointer none))), (fun v _ => v = .pointer (some ⟨g, 0, none⟩)), (fun v _ => v = .pointer (some ⟨g, 0, none⟩))] from ⟨fun _ _ _ _ h => h, fun _ _ _ _ h => h, fun _ _ _ _ h => h, fun _ _ _ _ h => h, fun _ _ _ _ h => h, fun _ _ _ _ h => h, fun _ _ _ _ h => h, fun v W1 W2 hb ⟨b, e, h1, h2⟩ => ⟨b, e, h1, h2.below hb h2.lt⟩, fun _ _ _ _ h => h, fun _ _ _ _ h => h, trivial⟩)
  refine wp_region_relT 10 _ (by kernel_rfl) (by kernel_rfl) (by kernel_rfl) (by kernel_rfl) (by kernel_rfl) (relMono _ Hmn.out) ⟨?_, ?_, ?_, ?_, ?_, ?_, ?_, ?_, ?_, ?_, trivial⟩ ?_
  · refine relStep_plain rfl ?_
    intro Ac w5 hp
    have hb := hp.bel
    have a0 : Ac.eval (.tmp 0) = .pointer (some ⟨g, 0, none⟩) := hp.out 0 (by rfl)
    have hc := evalC Ac; have hf := evalF Ac; have hgl := evalG Ac
    obtain ⟨ρ, hρ⟩ : ∃ ρ, Ac.eval = ρ := ⟨_, rfl⟩
    rw [hρ] at a0 hc hf hgl
    exact relPure hρ (.pointer (some ⟨g, 0, none⟩)) (by simp [go_sem, hc, hf, hgl, ↓IntWalk.iteOmega, a0, *]) rfl
  · refine relStep_plain rfl ?_
    intro Ac w5 hp
    have hb := hp.bel
    have a0 : Ac.eval (.tmp 0) = .pointer (some ⟨g, 0, none⟩) := hp.out 0 (by rfl)
    have hc := evalC Ac; have hf := evalF Ac; have hgl := evalG Ac
    obtain ⟨ρ, hρ⟩ : ∃ ρ, Ac.eval = ρ := ⟨_, rfl⟩
    rw [hρ] at a0 hc hf hgl
    exact relPure hρ (.pointer (some ⟨g, 0, none⟩)) (by simp [go_sem, hc, hf, hgl, ↓IntWalk.iteOmega, a0, *]) rfl
  · refine relStep_plain rfl ?_
    intro Ac w5 hp
    have hb := hp.bel
    have a38 : Ac.eval (.tmp 38) = .pointer (some ⟨g, 0, none⟩) := hp.dep 1 (by kernel_rfl)
    have hc := evalC Ac; have hf := evalF Ac; have hgl := evalG Ac
    obtain ⟨ρ, hρ⟩ : ∃ ρ, Ac.eval = ρ := ⟨_, rfl⟩
    rw [hρ] at a38 hc hf hgl
    exact relPure hρ (.pointer (some ⟨g, 0, none⟩)) (by simp [go_sem, hc, hf, hgl, ↓IntWalk.iteOmega, a38, *]) rfl
  · refine relStep_plain rfl ?_
    intro Ac w5 hp
    have hb := hp.bel
    have a39 : Ac.eval (.tmp 39) = .pointer (some ⟨g, 0, none⟩) := hp.dep 2 (by kernel_rfl)
    have hc := evalC Ac; have hf := evalF Ac; have hgl := evalG Ac
    obtain ⟨ρ, hρ⟩ : ∃ ρ, Ac.eval = ρ := ⟨_, rfl⟩
    rw [hρ] at a39 hc hf hgl
    exact relPure hρ (.pointer (some ⟨g, 0, none⟩)) (by simp [go_sem, hc, hf, hgl, ↓IntWalk.iteOmega, a39, *]) rfl
  · refine relStep_plain rfl ?_
    intro Ac w5 hp
    have hb := hp.bel
    have a40 : Ac.eval (.tmp 40) = .pointer (some ⟨g, 0, none⟩) := hp.dep 3 (by kernel_rfl)
    have hg5 := HG2.out.below hb HG2.out.lt
    have z0 : w5.cell? ⟨g, 0, none⟩ = some (.pointer none) := hg5.cell 0
    have hc := evalC Ac; have hf := evalF Ac; have hgl := evalG Ac
    obtain ⟨ρ, hρ⟩ : ∃ ρ, Ac.eval = ρ := ⟨_, rfl⟩
    rw [hρ] at a40 hc hf hgl
    exact relPure hρ (.pointer none) (by simp [go_sem, hc, hf, hgl, ↓IntWalk.iteOmega, a40, *]) rfl
  · refine relStep_plain rfl ?_
    intro Ac w5 hp
    have hb := hp.bel
    have a4 : Ac.eval (.tmp 4) = .pointer (some ⟨w.heap.size, 0, none⟩) := hp.out 4 (by rfl)
    have hx5 := HX2.out.below hb HX2.out.lt
    have x0 : w5.cell? ⟨w.heap.size, 0, none⟩ = some (.int .u32 (a : Int)) := hx5.cell 0
    have x1 : w5.cell? ⟨w.heap.size, 1, none⟩ = some (.int .i64 (n : Int)) := hx5.cell 1
    have hc := evalC Ac; have hf := evalF Ac; have hgl := evalG Ac
    obtain ⟨ρ, hρ⟩ : ∃ ρ, Ac.eval = ρ := ⟨_, rfl⟩
    rw [hρ] at a4 hc hf hgl
    exact relPure hρ (.agg #[.int .u32 (a : Int), .int .i64 (n : Int)]) (by simp [go_sem, hc, hf, hgl, ↓IntWalk.iteOmega, a4, *]) rfl
  · refine relStep_plain rfl ?_
    intro Ac w5 hp
    have hb := hp.bel
    have a5 : Ac.eval (.tmp 5) = .pointer (some ⟨w.heap.size + 1, 0, none⟩) := hp.out 5 (by rfl)
    have hv5 := HV2.out.below hb HV2.out.lt
    have u0 : w5.cell? ⟨w.heap.size + 1, 0, none⟩ = some (.int .i64 vh) := hv5.cell 0
    have u1 : w5.cell? ⟨w.heap.size + 1, 1, none⟩ = some (.int .i64 vo) := hv5.cell 1
    have u2 : w5.cell? ⟨w.heap.size + 1, 2, none⟩ = some (.slice vA vn vc) := hv5.cell 2
    have u3 : w5.cell? ⟨w.heap.size + 1, 3, none⟩ = some (.int .u32 vp) := hv5.cell 3
    have u4 : w5.cell? ⟨w.heap.size + 1, 4, none⟩ = some (.int .u32 vm) := hv5.cell 4
    have u5 : w5.cell? ⟨w.heap.size + 1, 5, none⟩ = some (.int .u32 vf) := hv5.cell 5
    have u6 : w5.cell? ⟨w.heap.size + 1, 6, none⟩ = some (.int .u32 vs) := hv5.cell 6
    have u7 : w5.cell? ⟨w.heap.size + 1, 7, none⟩ = some (.int .u32 vi) := hv5.cell 7
    have u8 : w5.cell? ⟨w.heap.size + 1, 8, none⟩ = some (.slice vB vk vd) := hv5.cell 8
    have hc := evalC Ac; have hf := evalF Ac; have hgl := evalG Ac
    obtain ⟨ρ, hρ⟩ : ∃ ρ, Ac.eval = ρ := ⟨_, rfl⟩
    rw [hρ] at a5 hc hf hgl
    exact relPure hρ (.agg #[.int .i64 vh, .int .i64 vo, .slice vA vn vc, .int .u32 vp, .int .u32 vm, .int .u32 vf, .int .u32 vs, .int .u32 vi, .slice vB vk vd]) (by simp [go_sem, hc, hf, hgl, ↓IntWalk.iteOmega, a5, *]) rfl
  · refine relStep_plain rfl ?_
    intro Ac w5 hp
    have hb := hp.bel
    have a41 : Ac.eval (.tmp 41) = .pointer none := hp.dep 4 (by kernel_rfl)
    have a42 : Ac.eval (.tmp 42) = .agg #[.int .u32 (a : Int), .int .i64 (n : Int)] := hp.dep 5 (by kernel_rfl)
    have a43 : Ac.eval (.tmp 43) = .agg #[.int .i64 vh, .int .i64 vo, .slice vA vn vc, .int .u32 vp, .int .u32 vm, .int .u32 vf, .int .u32 vs, .int .u32 vi, .slice vB vk vd] := hp.dep 6 (by kernel_rfl)
    have hc := evalC Ac; have hf := evalF Ac; have hgl := evalG Ac
    obtain ⟨ρ, hρ⟩ : ∃ ρ, Ac.eval = ρ := ⟨_, rfl⟩
    rw [hρ] at a41 a42 a43 hc hf hgl
    refine relCall hρ 234 #[.pointer none, .agg #[.int .u32 (a : Int), .int .i64 (n : Int)], .agg #[.int .i64 vh, .int .i64 vo, .slice vA vn vc, .int .u32 vp, .int .u32 vm, .int .u32 vf, .int .u32 vs, .int .u32 vi, .slice vB vk vd]] (by simp [go_sem, hc, hf, hgl, ↓IntWalk.iteOmega, a41, a42, a43, *]) ?_
    refine (putnilA_any a n vh vo vA vn vc vp vm vf vs vi vB vk vd w5).mono ?_
    rintro e w6 ⟨b, rfl, hb2, hk2, hb6⟩
    exact ⟨_, rfl, ⟨b, rfl, Nat.le_trans hp.bel.size hb2, hk2⟩, hb6⟩
  · refine relStep_plain rfl ?_
    intro Ac w5 hp
    have hb := hp.bel
    have a37 : Ac.eval (.tmp 37) = .pointer (some ⟨g, 0, none⟩) := hp.dep 0 (by kernel_rfl)
    have hc := evalC Ac; have hf := evalF Ac; have hgl := evalG Ac
    obtain ⟨ρ, hρ⟩ : ∃ ρ, Ac.eval = ρ := ⟨_, rfl⟩
    rw [hρ] at a37 hc hf hgl
    exact relPure hρ (.pointer (some ⟨g, 0, none⟩)) (by simp [go_sem, hc, hf, hgl, ↓IntWalk.iteOmega, a37, *]) rfl
  · refine relStep_plain rfl ?_
    intro Ac w5 hp
    have hb := hp.bel
    have a45 : Ac.eval (.tmp 45) = .pointer (some ⟨g, 0, none⟩) := hp.dep 8 (by kernel_rfl)
    have hc := evalC Ac; have hf := evalF Ac; have hgl := evalG Ac
    obtain ⟨ρ, hρ⟩ : ∃ ρ, Ac.eval = ρ := ⟨_, rfl⟩
    rw [hρ] at a45 hc hf hgl
    exact relPure hρ (.pointer (some ⟨g, 0, none⟩)) (by simp [go_sem, hc, hf, hgl, ↓IntWalk.iteOmega, a45, *]) rfl
  intro u w7 hb7 hall
  obtain ⟨b44, e44, hb44, hk44⟩ := relAll_at hall (i := 7) (by decide +kernel)
  change u 7 = _ at e44
  have e46 : u 9 = .pointer (some ⟨g, 0, none⟩) := relAll_at hall (i := 9) (by decide +kernel)
  clear hall
  simp only [List.drop_succ_cons, List.drop_zero, List.take_succ_cons, List.take_zero, putAll, Act.put, List.setIfInBounds_toArray, List.set_cons_zero, List.set_cons_succ, Nat.zero_add, Nat.reduceAdd, e44, e46]
  have HB7 := hide (HB2.out.trans (hb7.mono HB2.out.size))
  have HG7 := hide (HG2.out.below hb7 HG2.out.lt)
  have HZ7 := hide (HZ2.out.below hb7 HZ2.out.lt)
  have HK7 := hide hk44
  have hbg : w.heap.size ≤ b44 := Nat.le_trans HB2.out.size hb44
  have hgl := HG.out.lt
  have hbz : w.heap.size + 1 + 1 < b44 := Nat.lt_of_lt_of_le HZ2.out.lt hb44
  have HZs : Hid (∀ u : Value, Blk (w7.setCell ⟨g, 0, none⟩ u) (w.heap.size + 1 + 1) 54 #[.int .i64 0, .int .i64 0, .slice none 0 0, .int .u32 0, .int .u32 0, .int .u32 0, .int .u32 0, .int .u32 0, .slice none 0 0]) := hide fun u => HZ7.out.far (p := ⟨g, 0, none⟩) (by show w.heap.size + 1 + 1 ≠ g; omega) u
  have HKs : Hid (∀ u : Value, Blk (w7.setCell ⟨g, 0, none⟩ u) b44 255 (ndC a n [.int .i64 vh, .int .i64 vo, .slice vA vn vc, .int .u32 vp, .int .u32 vm, .int .u32 vf, .int .u32 vs, .int .u32 vi, .slice vB vk vd] true 1 (.pointer none) (.pointer none))) := hide fun u => HK7.out.far (p := ⟨g, 0, none⟩) (by show b44 ≠ g; omega) u
  have HGs : Hid (∀ u : Value, Blk (w7.setCell ⟨g, 0, none⟩ u) g 251 #[u]) := hide fun u => HG7.out.set_ 0 u
  have HCs : Hid (∀ u : Value, ChgS (fun k => k = g) w (w7.setCell ⟨g, 0, none⟩ u)) := hide fun u => chg_trans (chg_below HB7.out) (chg_set (S := fun k => k = g) (p := ⟨g, 0, none⟩) rfl u) (fun k h => .inl h)
  have zg : w7.cell? ⟨g, 0, none⟩ = some (.pointer none) := HG7.out.cell 0
  have zgf := HG7.out.frozen 0
  obtain ⟨w8, hw8⟩ : ∃ W, w7.setCell ⟨g, 0, none⟩ (.pointer (some ⟨b44, 0, none⟩)) = W := ⟨_, rfl⟩
  have HZ8 := hide (hw8 ▸ HZs.out _ : Blk w8 (w.heap.size + 1 + 1) 54 #[.int .i64 0, .int .i64 0, .slice none 0 0, .int .u32 0, .int .u32 0, .int .u32 0, .int .u32 0, .int .u32 0, .slice none 0 0])
  have HK8 := hide (hw8 ▸ HKs.out _ : Blk w8 b44 255 (ndC a n [.int .i64 vh, .int .i64 vo, .slice vA vn vc, .int .u32 vp, .int .u32 vm, .int .u32 vf, .int .u32 vs, .int .u32 vi, .slice vB vk vd] true 1 (.pointer none) (.pointer none)))
  have HG8 := hide (hw8 ▸ HGs.out _ : Blk w8 g 251 #[.pointer (some ⟨b44, 0, none⟩)])
  have HC8 := hide (hw8 ▸ HCs.out _ : ChgS (fun k => k = g) w w8)
  clear hb7 hk44 hb44 HZs HKs HGs HCs
  go_upto_region 8 with fail
  have z0 : w8.cell? ⟨w.heap.size + 1 + 1, 0, none⟩ = some (.int .i64 0) := HZ8.out.cell 0
  have z1 : w8.cell? ⟨w.heap.size + 1 + 1, 1, none⟩ = some (.int .i64 0) := HZ8.out.cell 1
  have z2 : w8.cell? ⟨w.heap.size + 1 + 1, 2, none⟩ = some (.slice none 0 0) := HZ8.out.cell 2
  have z3 : w8.cell? ⟨w.heap.size + 1 + 1, 3, none⟩ = some (.int .u32 0) := HZ8.out.cell 3
  have z4 : w8.cell? ⟨w.heap.size + 1 + 1, 4, none⟩ = some (.int .u32 0) := HZ8.out.cell 4
  have z5 : w8.cell? ⟨w.heap.size + 1 + 1, 5, none⟩ = some (.int .u32 0) := HZ8.out.cell 5
  have z6 : w8.cell? ⟨w.heap.size + 1 + 1, 6, none⟩ = some (.int .u32 0) := HZ8.out.cell 6
  have z7 : w8.cell? ⟨w.heap.size + 1 + 1, 7, none⟩ = some (.int .u32 0) := HZ8.out.cell 7
  have z8 : w8.cell? ⟨w.heap.size + 1 + 1, 8, none⟩ = some (.slice none 0 0) := HZ8.out.cell 8
  have zf := fun i => HZ8.out.frozen i
  clear hw8 zg zgf
  go_wp2
  change bodyPost _ _ _ _ _ (w8.setCells (w.heap.size + 1 + 1) 0 [.int .i64 0, .int .i64 0, .slice none 0 0, .int .u32 0, .int .u32 0, .int .u32 0, .int .u32 0, .int .u32 0, .slice none 0 0])
  obtain ⟨wF, hwF⟩ : ∃ x, w8.setCells (w.heap.size + 1 + 1) 0 [.int .i64 0, .int .i64 0, .slice none 0 0, .int .u32 0, .int .u32 0, .int .u32 0, .int .u32 0, .int .u32 0, .slice none 0 0] = x := ⟨_, rfl⟩
  have HFk := hide (hwF ▸ blk_sets [.int .i64 0, .int .i64 0, .slice none 0 0, .int .u32 0, .int .u32 0, .int .u32 0, .int .u32 0, .int .u32 0, .slice none 0 0] [] [.int .i64 0, .int .i64 0, .slice none 0 0, .int .u32 0, .int .u32 0, .int .u32 0, .int .u32 0, .int .u32 0, .slice none 0 0] HZ8.out rfl : Blk wF (w.heap.size + 1 + 1) 54 #[.int .i64 0, .int .i64 0, .slice none 0 0, .int .u32 0, .int .u32 0, .int .u32 0, .int .u32 0, .int .u32 0, .slice none 0 0])
  have HFn := hide (hwF ▸ blk_sets_far (by omega) [.int .i64 0, .int .i64 0, .slice none 0 0, .int .u32 0, .int .u32 0, .int .u32 0, .int .u32 0, .int .u32 0, .slice none 0 0] 0 HK8.out : Blk wF b44 255 _)
  have HFg := hide (hwF ▸ blk_sets_far (by omega) [.int .i64 0, .int .i64 0, .slice none 0 0, .int .u32 0, .int .u32 0, .int .u32 0, .int .u32 0, .int .u32 0, .slice none 0 0] 0 HG8.out : Blk wF g 251 _)
  have HFc : Hid (ChgS (fun k => k = g) w wF) := hide (hwF ▸ chg_trans HC8.out (chg_sets (S := fun k => k = w.heap.size + 1 + 1) rfl [.int .i64 0, .int .i64 0, .slice none 0 0, .int .u32 0, .int .u32 0, .int .u32 0, .int .u32 0, .int .u32 0, .slice none 0 0] 0) (fun k h => .inr (by omega)))
  rw [hwF]
  clear hwF z0 z1 z2 z3 z4 z5 z6 z7 z8 zf
  have z0 : wF.cell? ⟨w.heap.size + 1 + 1, 0, none⟩ = some (.int .i64 0) := HFk.out.cell 0
  have z1 : wF.cell? ⟨w.heap.size + 1 + 1, 1, none⟩ = some (.int .i64 0) := HFk.out.cell 1
  have z2 : wF.cell? ⟨w.heap.size + 1 + 1, 2, none⟩ = some (.slice none 0 0) := HFk.out.cell 2
  have z3 : wF.cell? ⟨w.heap.size + 1 + 1, 3, none⟩ = some (.int .u32 0) := HFk.out.cell 3
  have z4 : wF.cell? ⟨w.heap.size + 1 + 1, 4, none⟩ = some (.int .u32 0) := HFk.out.cell 4
  have z5 : wF.cell? ⟨w.heap.size + 1 + 1, 5, none⟩ = some (.int .u32 0) := HFk.out.cell 5
  have z6 : wF.cell? ⟨w.heap.size + 1 + 1, 6, none⟩ = some (.int .u32 0) := HFk.out.cell 6
  have z7 : wF.cell? ⟨w.heap.size + 1 + 1, 7, none⟩ = some (.int .u32 0) := HFk.out.cell 7
  have z8 : wF.cell? ⟨w.heap.size + 1 + 1, 8, none⟩ = some (.slice none 0 0) := HFk.out.cell 8
  refine bodyPost_ret (v := .tuple #[.agg #[.int .i64 0, .int .i64 0, .slice none 0 0, .int .u32 0, .int .u32 0, .int .u32 0, .int .u32 0, .int .u32 0, .slice none 0 0], .bool false]) (by simp [results, Tryz.results136, go_sem, z0, z1, z2, z3, z4, z5, z6, z7, z8]) rfl ⟨rfl, b44, hbg, HFg.out, ?_, HFc.out⟩
  refine ⟨⟨⟨[.int .i64 vh, .int .i64 vo, .slice vA vn vc, .int .u32 vp, .int .u32 vm, .int .u32 vf, .int .u32 vs, .int .u32 vi, .slice vB vk vd], ⟨rfl, by simp [Value.oneCell']⟩, HFn.out, fun y hy => ?_⟩, trivial, trivial⟩, ⟨HPa.out, trivial, trivial, trivial, trivial⟩, by simp [trB], ?_⟩
  · injection hy with hy
    subst hy
    exact frs_chg HFv.out HFc.out (fun k hk e => HgF.out (e ▸ hk))
  · intro k hk hFk
    simp only [trB, List.append_nil, List.mem_singleton] at hk
    subst hk
    have := HF.out _ hFk
    omega
end Go.Proofs.YtgkpkljenndpkaaGreat
set_option linter.unusedSimpArgs false
set_option linter.unusedVariables false
namespace Go.Proofs.YtgkpkljenndpkaaGreat
open Go.RowKit Go.WideShapes Go.ChangeShapes
attribute [local go_sem] Oper.semAt_some
theorem atok_norm {X : AT} (h : AtOk X) : AtOk (normA X) := by
  refine ⟨?_, ?_⟩
  · show numS (if attB X.has 2 then normS X.path else []) ≤ 10000
    split
    · have := numS_norm X.path; have := h.1; omega
    · simp [numS]
  · show (if attB X.has 8 then setOf X.comms else []).length ≤ 10000
    split
    · have := setOf_len X.comms; have := h.2; omega
    · simp
/-- Attributes of one's own as a value of a tree. -/
theorem ato_frs {b : Nat} {w : World} {x : AT} {A : Option Addr} {n c : Nat} {B : Option Addr} {m d : Nat} {xs : List Value} (h1 : LOw 2 64 sgR w b b A n c x.path xs) (h2 : FrB b none (fun w => U32s w B m d x.comms) w) :
    FrS (fun k => b ≤ k ∧ k < w.heap.size) none (fun w => atR w [.int .i64 x.has, .int .i64 x.org, .slice A n c, .int .u32 x.hop, .int .u32 x.med, .int .u32 x.pref, .int .u32 x.aas, .int .u32 x.aid, .slice B m d] x) w :=
  frs_of_frb (((h1.fr (by decide) (Nat.le_refl _)).and h2).imp fun w h => ⟨A, n, c, B, m, d, rfl, h.1, h.2⟩)
set_option maxRecDepth 100000 in
theorem ribin_zero (w : World) : Calls Tryz.prog 137 #[.int .i64 0] w fun e w' => e = .returned (.int .i64 0) ∧ w' = w := by
  go_enter Tryz.func137, Tryz.ntmps137
  go_wp2
  go_ret
  exact ⟨rfl, rfl⟩
set_option maxRecDepth 100000 in
theorem ribnew_any (w : World) : Calls Tryz.prog 144 #[.int .i64 0] w fun e w' => ∃ ga gt r, e = .returned (.pointer (some ⟨r, 0, none⟩)) ∧ w.heap.size ≤ ga ∧ ga < gt ∧ gt < r ∧ Blk w' gt 251 #[.pointer none] ∧ Blk w' r 170 #[.pointer (some ⟨ga, 0, none⟩), .pointer (some ⟨gt, 0, none⟩), .int .i64 0, .int .i64 0] ∧ Below w.heap.size w w' := by
  have H := hide newA_any
  have HI := hide ribin_zero
  go_enter Tryz.func144, Tryz.ntmps144
  go_wp2_with fail
  refine (H.out _).mono ?_
  rintro e w1 ⟨rfl, hk1, hb1⟩
  go_wp2_with fail
  refine (H.out _).mono ?_
  rintro e w2 ⟨rfl, hk2, hb2⟩
  go_wp2_with fail
  refine (HI.out _).mono ?_
  rintro e w3 ⟨rfl, rfl⟩
  have HK2 := hide hk2
  have HB := hide (hb1.trans (hb2.mono hb1.size))
  have h1 := hk1.lt
  have h2 := hk2.lt
  clear hk1 hk2 hb1 hb2
  go_wp2
  go_ret
  exact ⟨w.heap.size, w1.heap.size, w3.heap.size, rfl, Nat.le_refl _, h1, h2, HK2.out.alloc _, Blk.new _ _ _, HB.out.alloc (Nat.le_of_lt (Nat.lt_trans h1 h2)) _⟩
end Go.Proofs.YtgkpkljenndpkaaGreat
set_option linter.unusedSimpArgs false
set_option linter.unusedVariables false
namespace Go.Proofs.YtgkpkljenndpkaaGreat
open Go.RowKit Go.WideShapes Go.ChangeShapes
attribute [local go_sem] Oper.semAt_some
def TrOne (w w' : World) (g a n0 : Nat) (Y : AT) : Prop := ∃ b F, w.heap.size ≤ b ∧ TrT F w' g (.nd b a n0 (some Y) .nil .nil) ∧ (∀ k, F k → w.heap.size ≤ k)
set_option maxRecDepth 100000 in
set_option maxHeartbeats 8000000 in
theorem aim1_any (r gt : Nat) (m l : Int) (po : Option Addr) (A : Option Addr) (c a n0 : Nat) (X Y : AT) (w : World) (hPg : PG a n0) (hOk : AtOk X) (hY : normA X = Y) (hk : Blk w r 170 #[.pointer po, .pointer (some ⟨gt, 0, none⟩), .int .i64 m, .int .i64 l]) (hL : ∀ w', ChgS (fun k => k = r) w w' → LstAt 11 tdR w' A 1 c [⟨(a : Int), (n0 : Int), X⟩]) :
    Calls Tryz.prog 34 #[.pointer (some ⟨r, 0, none⟩), .slice A 1 c] w fun e w' => e = .returned (.tuple #[]) ∧ Blk w' r 170 #[.pointer (some ⟨w.heap.size, 0, none⟩), .pointer (some ⟨gt, 0, none⟩), .int .i64 m, .int .i64 l] ∧ TrOne w w' w.heap.size a n0 Y ∧ ChgS (fun k => k = r) w w' := by
  have HN := hide newA_any
  have HK := hide hk
  have HL := hide hL
  have HPg := hide hPg
  have HOk := hide hOk
  have HY := hide hY
  have hrl := hk.lt
  have h1c : 1 ≤ c := (hL w (chg_refl _ w)).2.1
  have hcm := (hL w (chg_refl _ w)).2.2.1
  unfold maxLen at hcm
  clear hk hL hPg hOk hY
  go_enter Tryz.func34, Tryz.ntmps34
  go_wp2_with fail
  refine (HN.out _).mono ?_
  rintro e w1 ⟨rfl, hk1, hb1⟩
  have hr1 := HK.out.below hb1 hrl
  have z0 : w1.cell? ⟨r, 0, none⟩ = some (.pointer po) := hr1.cell 0
  have zf := hr1.frozen 0
  obtain ⟨w2, hw2⟩ : ∃ W, w1.setCell ⟨r, 0, none⟩ (.pointer (some ⟨w.heap.size, 0, none⟩)) = W := ⟨_, rfl⟩
  have HRr2 : Hid (Blk w2 r 170 #[.pointer (some ⟨w.heap.size, 0, none⟩), .pointer (some ⟨gt, 0, none⟩), .int .i64 m, .int .i64 l]) := hide (hw2 ▸ hr1.set_ 0 _)
  have HG2 : Hid (Blk w2 w.heap.size 251 #[.pointer none]) := hide (hw2 ▸ hk1.far (p := ⟨r, 0, none⟩) (by show w.heap.size ≠ r; omega) _)
  have HC2 : Hid (ChgS (fun k => k = r) w w2) := hide (hw2 ▸ chg_trans (chg_below hb1) (chg_set (S := fun k => k = r) (p := ⟨r, 0, none⟩) rfl _) (fun k h => .inl h))
  have HW2 := hide hw2
  clear hw2 hk1 hb1 hr1
  go_wp2
  rw [HW2.out]
  clear z0 zf
  go_loopw [14] (fun iv wr => (iv = .int .i64 0 ∧ wr = w2) ∨ (iv = .int .i64 1 ∧ Blk wr r 170 #[.pointer (some ⟨w.heap.size, 0, none⟩), .pointer (some ⟨gt, 0, none⟩), .int .i64 m, .int .i64 l] ∧ TrOne w wr w.heap.size a n0 Y ∧ ChgS (fun k => k = r) w wr)) (fun iv _ => 1 - (intOf iv).toNat)
  case atStart => exact .inl ⟨rfl, rfl⟩
  case round =>
    rcases hrel with ⟨rfl, hww⟩ | ⟨rfl, hr, hT, hc⟩
    · have hww2 := hww.symm
      subst hww2
      clear hww
      obtain ⟨g2, o, x, XA, xn, xc, XB, xm, xd, rfl, hg2, hx, hxr, hxu, hcs⟩ := TDat (q := 0) (HL.out _ HC2.out) (by omega)
      simp only [List.getElem?_cons_zero, Option.some.injEq] at hx
      subst hx
      simp only [Nat.zero_mul, Nat.add_zero] at hcs hxr hxu
      have f0 : w2.cell? ⟨g2, o, none⟩ = some (.int .u32 (a : Int)) := hcs 0 _ rfl
      have f1 : w2.cell? ⟨g2, o + 1, none⟩ = some (.int .i64 (n0 : Int)) := hcs 1 _ rfl
      have f2 : w2.cell? ⟨g2, o + 2, none⟩ = some (.int .i64 X.has) := hcs 2 _ rfl
      have f3 : w2.cell? ⟨g2, o + 3, none⟩ = some (.int .i64 X.org) := hcs 3 _ rfl
      have f4 : w2.cell? ⟨g2, o + 4, none⟩ = some (.slice XA xn xc) := hcs 4 _ rfl
      have f5 : w2.cell? ⟨g2, o + 5, none⟩ = some (.int .u32 X.hop) := hcs 5 _ rfl
      have f6 : w2.cell? ⟨g2, o + 6, none⟩ = some (.int .u32 X.med) := hcs 6 _ rfl
      have f7 : w2.cell? ⟨g2, o + 7, none⟩ = some (.int .u32 X.pref) := hcs 7 _ rfl
      have f8 : w2.cell? ⟨g2, o + 8, none⟩ = some (.int .u32 X.aas) := hcs 8 _ rfl
      have f9 : w2.cell? ⟨g2, o + 9, none⟩ = some (.int .u32 X.aid) := hcs 9 _ rfl
      have f10 : w2.cell? ⟨g2, o + 10, none⟩ = some (.slice XB xm xd) := hcs 10 _ rfl
      obtain ⟨w3, hw3⟩ : ∃ W, w2.alloc (.cells #[.int .u32 (a : Int), .int .i64 (n0 : Int), .int .i64 X.has, .int .i64 X.org, .slice XA xn xc, .int .u32 X.hop, .int .u32 X.med, .int .u32 X.pref, .int .u32 X.aas, .int .u32 X.aid, .slice XB xm xd] 172) = W := ⟨_, rfl⟩
      have hb3 : Below w2.heap.size w2 w3 := hw3 ▸ blkBelow1 w2 _
      have HBx : Hid (Blk w3 w2.heap.size 172 #[.int .u32 (a : Int), .int .i64 (n0 : Int), .int .i64 X.has, .int .i64 X.org, .slice XA xn xc, .int .u32 X.hop, .int .u32 X.med, .int .u32 X.pref, .int .u32 X.aas, .int .u32 X.aid, .slice XB xm xd]) := hide (hw3 ▸ Blk.new w2 _ _)
      have HRr := hide (HRr2.out.below hb3 HRr2.out.lt)
      have HXr := hide (hxr.below sgMono hb3)
      have HXu := hide (hxu.below hb3)
      have HB3 := hide hb3
      have HW3 := hide hw3
      have hs0 := HC2.out.size
      have hg0 := HG2.out.lt
      clear hcs hxr hxu hb3 hw3
      go_upto_region 5 with fail
      rw [HW3.out]
      have Hmn := hide (show AllMono [(fun v _ => v = .pointer (some ⟨r, 0, none⟩)), (fun v _ => v = .pointer (some ⟨r, 0, none⟩)), (fun v _ => v = .pointer (some ⟨r, 0, none⟩)), (fun v _ => v = .pointer (some ⟨w.heap.size, 0, none⟩)), (fun v _ => v = .pointer (some ⟨w2.heap.size, 0, none⟩)), (fun v _ => v = .agg #[.int .u32 (a : Int), .int .i64 (n0 : Int)]), (fun v _ => v = .pointer (some ⟨w2.heap.size, 2, none⟩)), (fun v _ => v = atV X.has X.org XA xn xc X.hop X.med X.pref X.aas X.aid XB xm xd), (fun v W2 => ∃ A n c B m d, v = atV Y.has Y.org A n c Y.hop Y.med Y.pref Y.aas Y.aid B m d ∧ (∃ xs, LOw 2 64 sgR W2 w3.heap.size w3.heap.size A n c Y.path xs) ∧ FrB w3.heap.size none (fun w => U32s w B m d Y.comms) W2)] from ⟨fun _ _ _ _ h => h, fun _ _ _ _ h => h, fun _ _ _ _ h => h, fun _ _ _ _ h => h, fun _ _ _ _ h => h, fun _ _ _ _ h => h, fun _ _ _ _ h => h, fun _ _ _ _ h => h, fun v w2 w3 hb ⟨A, n, c, B, m, d, e, ⟨xs, h1⟩, h2⟩ => ⟨A, n, c, B, m, d, e, ⟨xs, h1.below hb⟩, h2.below hb⟩, trivial⟩)
      refine wp_region_relT 9 _ (by kernel_rfl) (by kernel_rfl) (by kernel_rfl) (by kernel_rfl) (by kernel_rfl) (relMono _ Hmn.out) ⟨?_, ?_, ?_, ?_, ?_, ?_, ?_, ?_, ?_, trivial⟩ ?_
      · refine relStep_plain rfl ?_
        intro Ac w5 hp
        have hb := hp.bel
        have a0 : Ac.eval (.tmp 0) = .pointer (some ⟨r, 0, none⟩) := hp.out 0 (by rfl)
        have hc := evalC Ac; have hf := evalF Ac; have hgl := evalG Ac
        obtain ⟨ρ, hρ⟩ : ∃ ρ, Ac.eval = ρ := ⟨_, rfl⟩
        rw [hρ] at a0 hc hf hgl
        exact relPure hρ (.pointer (some ⟨r, 0, none⟩)) (by simp [go_sem, hc, hf, hgl, ↓IntWalk.iteOmega, a0, *]) rfl
      · refine relStep_plain rfl ?_
        intro Ac w5 hp
        have hb := hp.bel
        have a18 : Ac.eval (.tmp 18) = .pointer (some ⟨r, 0, none⟩) := hp.dep 0 (by kernel_rfl)
        have hc := evalC Ac; have hf := evalF Ac; have hgl := evalG Ac
        obtain ⟨ρ, hρ⟩ : ∃ ρ, Ac.eval = ρ := ⟨_, rfl⟩
        rw [hρ] at a18 hc hf hgl
        exact relPure hρ (.pointer (some ⟨r, 0, none⟩)) (by simp [go_sem, hc, hf, hgl, ↓IntWalk.iteOmega, a18, *]) rfl
      · refine relStep_plain rfl ?_
        intro Ac w5 hp
        have hb := hp.bel
        have a19 : Ac.eval (.tmp 19) = .pointer (some ⟨r, 0, none⟩) := hp.dep 1 (by kernel_rfl)
        have hc := evalC Ac; have hf := evalF Ac; have hgl := evalG Ac
        obtain ⟨ρ, hρ⟩ : ∃ ρ, Ac.eval = ρ := ⟨_, rfl⟩
        rw [hρ] at a19 hc hf hgl
        exact relPure hρ (.pointer (some ⟨r, 0, none⟩)) (by simp [go_sem, hc, hf, hgl, ↓IntWalk.iteOmega, a19, *]) rfl
      · refine relStep_plain rfl ?_
        intro Ac w5 hp
        have hb := hp.bel
        have a20 : Ac.eval (.tmp 20) = .pointer (some ⟨r, 0, none⟩) := hp.dep 2 (by kernel_rfl)
        have hr5 := HRr.out.below hb HRr.out.lt
        have z0 : w5.cell? ⟨r, 0, none⟩ = some (.pointer (some ⟨w.heap.size, 0, none⟩)) := hr5.cell 0
        have hc := evalC Ac; have hf := evalF Ac; have hgl := evalG Ac
        obtain ⟨ρ, hρ⟩ : ∃ ρ, Ac.eval = ρ := ⟨_, rfl⟩
        rw [hρ] at a20 hc hf hgl
        exact relPure hρ (.pointer (some ⟨w.heap.size, 0, none⟩)) (by simp [go_sem, hc, hf, hgl, ↓IntWalk.iteOmega, a20, *]) rfl
      · refine relStep_plain rfl ?_
        intro Ac w5 hp
        have hb := hp.bel
        have a5 : Ac.eval (.tmp 5) = .pointer (some ⟨w2.heap.size, 0, none⟩) := hp.out 5 (by rfl)
        have hc := evalC Ac; have hf := evalF Ac; have hgl := evalG Ac
        obtain ⟨ρ, hρ⟩ : ∃ ρ, Ac.eval = ρ := ⟨_, rfl⟩
        rw [hρ] at a5 hc hf hgl
        exact relPure hρ (.pointer (some ⟨w2.heap.size, 0, none⟩)) (by simp [go_sem, hc, hf, hgl, ↓IntWalk.iteOmega, a5, *]) rfl
      · refine relStep_plain rfl ?_
        intro Ac w5 hp
        have hb := hp.bel
        have a22 : Ac.eval (.tmp 22) = .pointer (some ⟨w2.heap.size, 0, none⟩) := hp.dep 4 (by kernel_rfl)
        have hx5 := HBx.out.below hb HBx.out.lt
        have z1 : w5.cell? ⟨w2.heap.size, 0, none⟩ = some (.int .u32 (a : Int)) := hx5.cell 0
        have z2 : w5.cell? ⟨w2.heap.size, 1, none⟩ = some (.int .i64 (n0 : Int)) := hx5.cell 1
        have hc := evalC Ac; have hf := evalF Ac; have hgl := evalG Ac
        obtain ⟨ρ, hρ⟩ : ∃ ρ, Ac.eval = ρ := ⟨_, rfl⟩
        rw [hρ] at a22 hc hf hgl
        exact relPure hρ (.agg #[.int .u32 (a : Int), .int .i64 (n0 : Int)]) (by simp [go_sem, hc, hf, hgl, ↓IntWalk.iteOmega, a22, *]) rfl
      · refine relStep_plain rfl ?_
        intro Ac w5 hp
        have hb := hp.bel
        have a5 : Ac.eval (.tmp 5) = .pointer (some ⟨w2.heap.size, 0, none⟩) := hp.out 5 (by rfl)
        have hc := evalC Ac; have hf := evalF Ac; have hgl := evalG Ac
        obtain ⟨ρ, hρ⟩ : ∃ ρ, Ac.eval = ρ := ⟨_, rfl⟩
        rw [hρ] at a5 hc hf hgl
        exact relPure hρ (.pointer (some ⟨w2.heap.size, 2, none⟩)) (by simp [go_sem, hc, hf, hgl, ↓IntWalk.iteOmega, a5, *]) rfl
      · refine relStep_plain rfl ?_
        intro Ac w5 hp
        have hb := hp.bel
        have a24 : Ac.eval (.tmp 24) = .pointer (some ⟨w2.heap.size, 2, none⟩) := hp.dep 6 (by kernel_rfl)
        have hx5 := HBx.out.below hb HBx.out.lt
        have z3 : w5.cell? ⟨w2.heap.size, 2, none⟩ = some (.int .i64 X.has) := hx5.cell 2
        have z4 : w5.cell? ⟨w2.heap.size, 3, none⟩ = some (.int .i64 X.org) := hx5.cell 3
        have z5 : w5.cell? ⟨w2.heap.size, 4, none⟩ = some (.slice XA xn xc) := hx5.cell 4
        have z6 : w5.cell? ⟨w2.heap.size, 5, none⟩ = some (.int .u32 X.hop) := hx5.cell 5
        have z7 : w5.cell? ⟨w2.heap.size, 6, none⟩ = some (.int .u32 X.med) := hx5.cell 6
        have z8 : w5.cell? ⟨w2.heap.size, 7, none⟩ = some (.int .u32 X.pref) := hx5.cell 7
        have z9 : w5.cell? ⟨w2.heap.size, 8, none⟩ = some (.int .u32 X.aas) := hx5.cell 8
        have z10 : w5.cell? ⟨w2.heap.size, 9, none⟩ = some (.int .u32 X.aid) := hx5.cell 9
        have z11 : w5.cell? ⟨w2.heap.size, 10, none⟩ = some (.slice XB xm xd) := hx5.cell 10
        have hc := evalC Ac; have hf := evalF Ac; have hgl := evalG Ac
        obtain ⟨ρ, hρ⟩ : ∃ ρ, Ac.eval = ρ := ⟨_, rfl⟩
        rw [hρ] at a24 hc hf hgl
        exact relPure hρ (atV X.has X.org XA xn xc X.hop X.med X.pref X.aas X.aid XB xm xd) (by simp [go_sem, hc, hf, hgl, ↓IntWalk.iteOmega, a24, *]) rfl
      · refine relStep_plain rfl ?_
        intro Ac w5 hp
        have hb := hp.bel
        have a25 : Ac.eval (.tmp 25) = atV X.has X.org XA xn xc X.hop X.med X.pref X.aas X.aid XB xm xd := hp.dep 7 (by kernel_rfl)
        have hc := evalC Ac; have hf := evalF Ac; have hgl := evalG Ac
        obtain ⟨ρ, hρ⟩ : ∃ ρ, Ac.eval = ρ := ⟨_, rfl⟩
        rw [hρ] at a25 hc hf hgl
        refine relCall hρ 127 #[atV X.has X.org XA xn xc X.hop X.med X.pref X.aas X.aid XB xm xd] (by simp [go_sem, hc, hf, hgl, ↓IntWalk.iteOmega, a25, *]) ?_
        refine (attrNormX_any X (atV X.has X.org XA xn xc X.hop X.med X.pref X.aas X.aid XB xm xd) w5 ⟨XA, xn, xc, XB, xm, xd, rfl, HXr.out.below sgMono hb, HXu.out.below hb⟩ HOk.out.1 HOk.out.2).mono ?_
        rintro e w6 ⟨v6, rfl, ⟨A6, n6, c6, xs6, B6, m6, d6, rfl, hl6, hu6⟩, hb6⟩
        rw [HY.out] at hl6 hu6 ⊢
        exact ⟨_, rfl, ⟨A6, n6, c6, B6, m6, d6, rfl, ⟨xs6, hl6.less hb.size hb.size⟩, hu6.less hb.size⟩, hb6⟩
      intro u w8 hb7 hall
      have e21 : u 3 = .pointer (some ⟨w.heap.size, 0, none⟩) := relAll_at hall (i := 3) (by decide +kernel)
      have e23 : u 5 = .agg #[.int .u32 (a : Int), .int .i64 (n0 : Int)] := relAll_at hall (i := 5) (by decide +kernel)
      obtain ⟨A9, n9, c9, B9, m9, d9, e26, ⟨xs9, hl9⟩, hu9⟩ := relAll_at hall (i := 8) (by decide +kernel)
      change u 8 = _ at e26
      clear hall
      simp only [List.drop_succ_cons, List.drop_zero, List.take_succ_cons, List.take_zero, putAll, Act.put, List.setIfInBounds_toArray, List.set_cons_zero, List.set_cons_succ, Nat.zero_add, Nat.reduceAdd, e21, e23, e26]
      have HG8 := hide ((HG2.out.below HB3.out hg0).below hb7 (HG2.out.below HB3.out hg0).lt)
      have hg3 : w.heap.size < w3.heap.size := (HG2.out.below HB3.out hg0).lt
      have HR8 := hide (HRr.out.below hb7 HRr.out.lt)
      have HPt := hide (puteA_any (R := atR) (F := fun k => w3.heap.size ≤ k ∧ k < w8.heap.size) w.heap.size a n0 Y Y.has Y.org A9 n9 c9 Y.hop Y.med Y.pref Y.aas Y.aid B9 m9 d9 w8 HPg.out HG8.out (fun k hk => hk.2) (ato_frs hl9 hu9) (by omega))
      have HB8 := hide (HB3.out.trans (hb7.mono HB3.out.size))
      have hs8 := hb7.size
      clear hb7 hl9 hu9 f0 f1 f2 f3 f4 f5 f6 f7 f8 f9 f10
      go_wp2_with fail
      refine HPt.out.mono ?_
      rintro e w9 ⟨rfl, b, hbb, hk9, hT9, hc9⟩
      have HR9 := hide (chg_blk hc9 HR8.out (by show ¬ (r = w.heap.size); omega))
      have HT9 : Hid (TrOne w w9 w.heap.size a n0 Y) := hide ⟨b, _, by omega, ⟨hk9, hT9, by omega, by simp only [trB, List.append_nil, List.mem_singleton]; omega, fun k hk => Nat.lt_of_lt_of_le hk.2 hc9.size, fun z hz => by simp [trL] at hz; subst hz; exact HY.out ▸ atok_norm HOk.out, by simp [trCnt]⟩, fun k hk => by have := hk.1; omega⟩
      have HC9 : Hid (ChgS (fun k => k = r) w w9) := hide (chg_trans (chg_trans HC2.out (chg_below (S := fun _ => False) HB8.out) (fun k h => h.elim)) hc9 (fun k h => .inr (by omega)))
      clear hk9 hT9 hc9 hbb
      go_wp2
      go_roundw
      case rel => exact .inr ⟨by go_num, HR9.out, HT9.out, HC9.out⟩
      case measure => simp [intOf]
    · have HRx := hide hr
      have HTx := hide hT
      have HCx := hide hc
      clear hr hT hc
      go_wp2
      refine bodyPost_end (results_none rfl _ _ _) rfl ?_
      exact ⟨rfl, HRx.out, HTx.out, HCx.out⟩
end Go.Proofs.YtgkpkljenndpkaaGreat
set_option linter.unusedSimpArgs false
set_option linter.unusedVariables false
namespace Go.Proofs.YtgkpkljenndpkaaGreat
open Go.RowKit Go.WideShapes Go.ChangeShapes
attribute [local go_sem] Oper.semAt_some
set_option maxRecDepth 100000 in
set_option maxHeartbeats 4000000 in
theorem same1_eq (b : Int) (B1 B2 : Option Addr) (m1 d1 m2 d2 : Nat) (r : List Nat) (w : World) (h1 : U32s w B1 m1 d1 r) (h2 : U32s w B2 m2 d2 r) :
    Calls Tryz.prog 458 #[.agg #[.int .i64 b, .slice B1 m1 d1], .agg #[.int .i64 b, .slice B2 m2 d2]] w fun e w' => e = .returned (.bool true) ∧ Below w.heap.size w w' := by
  have hb : Below w.heap.size w ((w.alloc (.cells #[.int .i64 b, .slice B1 m1 d1] 64)).alloc (.cells #[.int .i64 b, .slice B2 m2 d2] 64)) := ((Below.refl _ w).alloc (Nat.le_refl _) _).alloc (by simp) _
  have HEq := hide (slEqual_any B1 m1 d1 r B2 m2 d2 r _ (h1.below hb) (h2.below hb))
  have HB := hide hb
  clear h1 h2 hb
  go_enter Tryz.func458, Tryz.ntmps458
  go_wp2_with fail
  refine HEq.out.mono ?_
  rintro e w3 ⟨rfl, hb3⟩
  have HB3 := hide (HB.out.trans (hb3.mono HB.out.size))
  clear hb3
  simp only [decide_true]
  go_wp2
  go_ret
  exact ⟨rfl, HB3.out⟩
set_option maxRecDepth 100000 in
set_option maxHeartbeats 8000000 in
theorem eqf_eq (A B : Option Addr) (n c m d : Nat) (l : List SG) (w : World) (h : LstAt 2 sgR w A n c l) (h' : LstAt 2 sgR w B m d l) (hn2 : n ≤ 100000) :
    Calls Tryz.prog 457 #[.slice A n c, .slice B m d, .func (.func 458) #[] #[]] w fun e w' => e = .returned (.bool true) ∧ Below w.heap.size w w' := by
  obtain rfl : n = m := h.1.symm.trans h'.1
  have hnc := h.2.1
  have hmx := h.2.2.1
  have hnd := h'.2.1
  have hmx2 := h'.2.2.1
  unfold maxLen at hmx hmx2
  have HL1 := hide h
  have HL2 := hide h'
  clear h h'
  go_enter Tryz.func457, Tryz.ntmps457
  go_wp2
  go_loopw [17] (fun iv wr => ∃ i : Nat, i ≤ n ∧ iv = .int .i64 (i : Nat) ∧ Below w.heap.size w wr) (fun iv _ => n - (intOf iv).toNat)
  case atStart => exact ⟨0, Nat.zero_le _, rfl, Below.refl _ _⟩
  case round =>
    obtain ⟨i, hi, rfl, hbel⟩ := hrel
    have HBe := hide hbel
    have hs1 := hbel.size
    by_cases hlt : i < n
    · obtain ⟨g, o, b, B1, m1, d1, r, rfl, hg, hx, hr1, hz0, hz1⟩ := SGat (HL1.out.below sgMono hbel) hlt
      obtain ⟨g2, o2, b2, B2, m2, d2, r2, rfl, hg2, hx2, hr2, hy0, hy1⟩ := SGat (HL2.out.below sgMono hbel) hlt
      rw [hx] at hx2
      simp only [Option.some.injEq, SG.mk.injEq] at hx2
      obtain ⟨rfl, rfl⟩ := hx2
      have hb2 : Below wr.heap.size wr ((wr.alloc (.cells #[.int .i64 b, .slice B1 m1 d1] 64)).alloc (.cells #[.int .i64 b, .slice B2 m2 d2] 64)) := ((Below.refl _ wr).alloc (Nat.le_refl _) _).alloc (by simp) _
      have HB2 := hide (HBe.out.trans (hb2.mono hs1))
      have HSa := hide (same1_eq b B1 B2 m1 d1 m2 d2 r _ (hr1.below hb2) (hr2.below hb2))
      have i1 : (i : Int) < (n : Int) := by omega
      have i0 : (0 : Int) ≤ (i : Int) := by omega
      have hwi : IntKind.i64.wrap ((i : Int) + 1) = (i : Int) + 1 := by rw [IntKind.wrap_i64]; omega
      clear hbel hx hr1 hr2 hb2
      go_wp2_with fail
      refine HSa.out.mono ?_
      rintro e w3 ⟨rfl, hb3⟩
      have HB3 := hide (HB2.out.trans (hb3.mono HB2.out.size))
      clear hb3 hz0 hz1 hy0 hy1
      go_wp2
      go_roundw
      case rel => exact ⟨i + 1, by omega, by go_num, HB3.out⟩
      case measure => simp [intOf]; omega
    · obtain rfl : i = n := by omega
      have e1 : decide ((i : Int) < (i : Int)) = false := by simp
      clear hbel hlt
      go_wp2
      go_ret
      exact ⟨rfl, HBe.out⟩
set_option maxRecDepth 100000 in
theorem psameC_eq (A B : Option Addr) (n c m d : Nat) (l : List SG) (w : World) (h : LstAt 2 sgR w A n c l) (h' : LstAt 2 sgR w B m d l) (hn2 : n ≤ 100000) :
    Calls Tryz.prog 422 #[.slice A n c, .slice B m d] w fun e w' => e = .returned (.bool true) ∧ Below w.heap.size w w' := by
  have H := hide (eqf_eq A B n c m d l w h h' hn2)
  clear h h'
  go_enter Tryz.func422, Tryz.ntmps422
  go_wp2_with fail
  refine H.out.mono ?_
  rintro e w3 ⟨rfl, hb3⟩
  have HB3 := hide hb3
  clear hb3
  go_wp2
  go_ret
  exact ⟨rfl, HB3.out⟩
end Go.Proofs.YtgkpkljenndpkaaGreat
set_option linter.unusedSimpArgs false
set_option linter.unusedVariables false
namespace Go.Proofs.YtgkpkljenndpkaaGreat
open Go.RowKit Go.WideShapes Go.ChangeShapes
attribute [local go_sem] Oper.semAt_some
set_option maxRecDepth 100000 in
theorem pathSame_eq (A B : Option Addr) (n c m d : Nat) (l : List SG) (w : World) (h : LstAt 2 sgR w A n c l) (h' : LstAt 2 sgR w B m d l) (hn2 : n ≤ 100000) :
    Calls Tryz.prog 377 #[.slice A n c, .slice B m d] w fun e w' => e = .returned (.bool true) ∧ Below w.heap.size w w' := by
  have H := hide (psameC_eq A B n c m d l w h h' hn2)
  clear h h'
  go_enter Tryz.func377, Tryz.ntmps377
  go_wp2_with fail
  refine H.out.mono ?_
  rintro e w3 ⟨rfl, hb3⟩
  have HB3 := hide hb3
  clear hb3
  go_wp2
  go_ret
  exact ⟨rfl, HB3.out⟩
set_option maxRecDepth 100000 in
set_option maxHeartbeats 8000000 in
theorem attrsame_eq (X : AT) (v v' : Value) (w : World) (hv : AtR w X v) (hv' : AtR w X v') (hn : X.path.length ≤ 100000) : Calls Tryz.prog 323 #[v, v'] w (GoodP true w) := by
  obtain ⟨A, n, c, B, m, d, rfl, hP, hC⟩ := hv
  obtain ⟨A2, n2, c2, B2, m2, d2, rfl, hP2, hC2⟩ := hv'
  obtain ⟨w1, hw1⟩ : ∃ w1, (w.alloc (.cells (atC X.has X.org A n c X.hop X.med X.pref X.aas X.aid B m d) 54)).alloc (.cells (atC X.has X.org A2 n2 c2 X.hop X.med X.pref X.aas X.aid B2 m2 d2) 54) = w1 := ⟨_, rfl⟩
  have hb1 : Below w.heap.size w w1 := hw1 ▸ blkBelow2 w _ _
  have HK1 : Hid (Blk w1 w.heap.size 54 (atC X.has X.org A n c X.hop X.med X.pref X.aas X.aid B m d)) := hide (hw1 ▸ (Blk.new w _ _).alloc _)
  have HK2 : Hid (Blk w1 (w.heap.size + 1) 54 (atC X.has X.org A2 n2 c2 X.hop X.med X.pref X.aas X.aid B2 m2 d2)) := hide (hw1 ▸ blk_new' _ _ (by simp))
  have HPs := hide (pathSame_eq A A2 n c n2 c2 X.path w1 (hP.below sgMono hb1) (hP2.below sgMono hb1) (by rw [← hP.1]; exact hn))
  have HU := hide (fun W (hb : Below w.heap.size w W) => hC.below hb)
  have HU2 := hide (fun W (hb : Below w.heap.size w W) => hC2.below hb)
  have HB1 := hide hb1
  have HW1 := hide hw1
  clear hw1 hb1 hP hP2 hC hC2 hn
  go_enter Tryz.func323, Tryz.ntmps323
  go_wp2_with fail
  rw [HW1.out]
  refine HPs.out.mono ?_
  rintro e w2 ⟨rfl, hb⟩
  have HB2 := hide (HB1.out.trans (hb.mono HB1.out.size))
  have HK1 := hide (HK1.out.below hb HK1.out.lt)
  have HK2 := hide (HK2.out.below hb HK2.out.lt)
  have HSa := hide (slEqual_any B m d X.comms B2 m2 d2 X.comms w2 (HU.out w2 HB2.out) (HU2.out w2 HB2.out))
  clear hb
  obtain ⟨a0, a1, a2, a3, a4, a5, a6, a7, a8⟩ := blk9 HK1.out
  obtain ⟨b0, b1, b2, b3, b4, b5, b6, b7, b8⟩ := blk9 HK2.out
  go_wp2_with fail
  refine HSa.out.mono ?_
  rintro e w3 ⟨rfl, hb⟩
  have HB3 := hide (HB2.out.trans (hb.mono HB2.out.size))
  clear hb a0 a1 a2 a3 a4 a5 a6 a7 a8 b0 b1 b2 b3 b4 b5 b6 b7 b8
  go_wp2
  go_ret
  exact ⟨by simp, HB3.out⟩
set_option maxRecDepth 100000 in
set_option maxHeartbeats 8000000 in
theorem attrSame_eq (X : AT) (v v' : Value) (w : World) (hv : AtR w X v) (hv' : AtR w X v') (hn : X.path.length ≤ 100000) : Calls Tryz.prog 239 #[v, v'] w (GoodP true w) := by
  obtain ⟨A, n, c, B, m, d, rfl, hP, hC⟩ := hv
  obtain ⟨A2, n2, c2, B2, m2, d2, rfl, hP2, hC2⟩ := hv'
  obtain ⟨w1, hw1⟩ : ∃ w1, (w.alloc (.cells (atC X.has X.org A n c X.hop X.med X.pref X.aas X.aid B m d) 54)).alloc (.cells (atC X.has X.org A2 n2 c2 X.hop X.med X.pref X.aas X.aid B2 m2 d2) 54) = w1 := ⟨_, rfl⟩
  have hb1 : Below w.heap.size w w1 := hw1 ▸ blkBelow2 w _ _
  have HS := hide (attrsame_eq X (atV X.has X.org A n c X.hop X.med X.pref X.aas X.aid B m d) (atV X.has X.org A2 n2 c2 X.hop X.med X.pref X.aas X.aid B2 m2 d2) w1 ⟨A, n, c, B, m, d, rfl, hP.below sgMono hb1, hC.below hb1⟩ ⟨A2, n2, c2, B2, m2, d2, rfl, hP2.below sgMono hb1, hC2.below hb1⟩ hn)
  have HB1 := hide hb1
  have HW1 := hide hw1
  clear hw1 hb1 hP hP2 hC hC2 hn
  go_enter Tryz.func239, Tryz.ntmps239
  go_wp2_with fail
  rw [HW1.out]
  refine HS.out.mono ?_
  rintro e w2 ⟨rfl, hb⟩
  have HB2 := hide (HB1.out.trans (hb.mono HB1.out.size))
  clear hb
  go_wp2
  go_ret
  exact ⟨rfl, HB2.out⟩
end Go.Proofs.YtgkpkljenndpkaaGreat
