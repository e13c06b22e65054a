import Derived.Test.YtcinjckajnnhmaaGreatRi4
import Derived.WalkKit
import Derived.ProofKit
import Derived.OpenShut
import Derived.Below
import Derived.Laws.OwnMore
import Derived.Laws.Rows
import Derived.Laws.MakeOwn
import Derived.Deep.AppendLies
import Derived.Deep.Draws
import Derived.Deep.OwnRows
import Derived.Deep.QuietTactic
import Derived.Maps.AppendAt
import Derived.RegionTactic
import Derived.OwnWalk
import Derived.ChangeSame
import Derived.Outline
import Derived.BigQuiet
import Derived.WalkMore
import Derived.ScopeJumps
import Derived.WalkLawsBesides
import Derived.WalkSpells
import Derived.Laws.BitsLemmas
import Derived.Laws.BitsAllLaws
import Derived.WideKeyArgs
import Derived.Deep.DeepHandedRow
import Derived.Deep.DeepWitnessRowRef
import Derived.Lib.LaidTab
import Derived.Lib.AppendIntMem
import Derived.LaidMore
import Derived.MakeChecks
import Derived.Lib.Itoa
import Derived.Lib.ItoaMem
import Derived.Deep.Quiet
import Derived.Deep.Slices
import Derived.BigRegion
import Derived.Orders
import Derived.OrdersIn
import Derived.RangeFuncCalls
import Derived.Shelf.RegionOpen
import Derived.StillTailTactics
import Derived.Lib.PathFns
import Derived.Lib.IndexBytes
import Derived.RangeFuncWrites
import Derived.RangeFuncNested
import Derived.RangeFuncBound
import Derived.RangeFuncLeaves
import Derived.RangeFuncBox
import Derived.Shelf.Abstract
import Derived.OwnWalkIn
import Derived.TacticsInMore
import Derived.LoopNIn
import Derived.LoopIn
import Derived.Lib.SmallJoins
import Derived.Lib.ParseIntBCases
import Derived.Lib.IndexMore
import Derived.Shelf.Vars
import Derived.Lib.AtoiAllCases
import Derived.SliceStrings
import Derived.Deep.RegionLaw
import Derived.Sort.LotA
import Derived.BigRegionIn
import Derived.Deep.RegionHeld3
import Derived.RangeFuncOwn
import Derived.Sort.WalkA6
import Derived.Sort.WalkB3
import Derived.Sort.WalkC4
import Derived.Sort.WalkA14
import Derived.Sort.Walk11
import Derived.Sort.Walk7
import Derived.Sort.Walk13
import Derived.Sort.Row
import Derived.Lib.Walk
import Derived.Lib.Strings
import Derived.BigGuard
import Derived.BigCall
import Derived.CellFam
import Derived.Deep.LoopGhost
import Derived.Sort.LotC
import Derived.Deep.RegionWith
import Derived.RowKit
import Derived.Sort.LotD3
import Derived.Sort.LotD4
import Derived.Sort.Grow
import Derived.Sort.AtCall
import Derived.Sort.LotD5
import Derived.Laws.Bits64
import Derived.Laws.Bits64b
import Derived.Sort.EncStr
import Derived.Sort.LotD1
import Derived.Sort.LotB
import Derived.Deep.Cut
import Derived.Sort.Walk13a
import Derived.Sort.AssemblyPlain
import Derived.Shelf.Spec.SlicesInsertGrow
import Derived.Deep.MidRow
import Derived.Lib.RowBridge
import Derived.Laws.CopyOwn
import Derived.Lib.AppendZerosOnto
import Derived.Deep.DeepCutAuto
import Derived.Lib.Bytealg
import Derived.Shelf.Strings.SplitShaped
import Derived.Shelf.Strings.Prefix
import Derived.Shelf.Small.Strs
import Derived.Lib.QuietBelow
import Derived.Shelf.SlSortCmp.WholeK
import Derived.Lib.SlTrimSet
import Derived.Shelf.Strings.BuilderK
import Derived.Laws.BytesString
import Derived.Laws.IdiomStrings
set_option linter.unusedSimpArgs false
set_option linter.unusedVariables false
namespace Go.Proofs.YtcinjckajnnhmaaGreat
open Go.RowKit Go.WideShapes Go.ChangeShapes
attribute [local go_sem] Oper.semAt_some
theorem fldCode (W : World) : (Instr.field 266 (.agg #[.int .i64 0, .int .i64 0, .slice none 0 0]) 0).run Tryz.prog W = .ok (.int .i64 0) W := by kernel_rfl
theorem uodd_any (a : Nat) (m : Int) (h : PZ a m) (w : World) : Calls Tryz.prog 201 #[.agg #[.int .u32 (a : Int), .int .i64 m]] w (GoodP (!goodB a m) w) := by
  have H := hide (fun W => Good_any a m h.1 h.2.1 h.2.2 W)
  unfold pfx at H
  obtain ⟨q, hq⟩ : ∃ q, goodB a m = q := ⟨_, rfl⟩
  rw [hq] at H ⊢
  clear hq h
  go_enter Tryz.func201, Tryz.ntmps201
  go_wp2_with fail
  refine (H.out _).mono ?_
  rintro e w1 ⟨rfl, hb⟩
  rw [World.size_alloc] at hb
  have HB := hide (((Below.refl _ w).alloc (Nat.le_refl _) _).trans (hb.mono (Nat.le_succ _)))
  clear hb
  cases q
  · go_wp2
    go_ret
    exact ⟨rfl, HB.out⟩
  · go_wp2
    go_ret
    exact ⟨rfl, HB.out⟩
theorem uoddAny_good (A : Option Addr) (n c : Nat) (l : List (Nat × Int)) (w : World) (h : LstAt 2 pzR w A n c l) (hg : ∀ x ∈ l, goodB x.1 x.2 = true) :
    Calls Tryz.prog 200 #[.slice A n c, .func (.func 201) #[] #[]] w (GoodP false w) := by
  have H := pzContains0_any 201 (fun x => !goodB x.1 x.2) A n c l w h (fun args W => by simp [callFunc, go_sem, Tryz.func201]; rfl) (fun a m W _ hz => uodd_any a m hz W)
  have e : (l.any fun x => !goodB x.1 x.2) = false := by
    rw [List.any_eq_false]
    intro x hx
    simp [hg x hx]
  rwa [e] at H
set_option maxRecDepth 100000 in
set_option maxHeartbeats 8000000 in
theorem updgood_own (A1 A2 : Option Addr) (n1 c1 n2 c2 : Nat) (l1 l2 : List (Nat × Int)) (X : AT) (A : Option Addr) (n c : Nat) (B : Option Addr) (m d : Nat) (w : World) (h1 : LstAt 2 pzR w A1 n1 c1 l1) (h2 : LstAt 2 pzR w A2 n2 c2 l2) (hg1 : ∀ x ∈ l1, goodB x.1 x.2 = true) (hg2 : ∀ x ∈ l2, goodB x.1 x.2 = true) (hn2 : 0 < n2)
    (hP : LstAt 2 sgR w A n c X.path) (hC : U32s w B m d X.comms) (hN : normA X = X) (hb1 : attB X.has 1 = true) (hb2 : attB X.has 2 = true) (h0 : 0 ≤ X.org) (h02 : X.org ≤ 2) (hcm : X.comms.length ≤ 255) (hh : attB X.has 3 = true ∧ X.hop = 5) (hpo : normS X.path = X.path) (hpl : ∀ x ∈ X.path, 1 ≤ x.r.length ∧ x.r.length ≤ 255) (hpn : X.path.length ≤ 100) (hnum : numS X.path ≤ 2000) :
    Calls Tryz.prog 155 #[.agg #[.slice A1 n1 c1, .int .i64 X.has, .int .i64 X.org, .slice A n c, .int .u32 X.hop, .int .u32 X.med, .int .u32 X.pref, .int .u32 X.aas, .int .u32 X.aid, .slice B m d, .slice A2 n2 c2]] w (GoodP true w) := by
  obtain ⟨w1, hw1⟩ : ∃ w1, w.alloc (.cells #[.slice A1 n1 c1, .int .i64 X.has, .int .i64 X.org, .slice A n c, .int .u32 X.hop, .int .u32 X.med, .int .u32 X.pref, .int .u32 X.aas, .int .u32 X.aid, .slice B m d, .slice A2 n2 c2] 81) = w1 := ⟨_, rfl⟩
  have hbb : Below w.heap.size w w1 := hw1 ▸ blkBelow1 w _
  have HK : Hid (Blk w1 w.heap.size 81 #[.slice A1 n1 c1, .int .i64 X.has, .int .i64 X.org, .slice A n c, .int .u32 X.hop, .int .u32 X.med, .int .u32 X.pref, .int .u32 X.aas, .int .u32 X.aid, .slice B m d, .slice A2 n2 c2]) := hide (hw1 ▸ Blk.new w _ _)
  have HO1 := hide (fun W (hb : Below w.heap.size w W) => uoddAny_good A1 n1 c1 l1 W (h1.below pzMono hb) hg1)
  have HO2 := hide (fun W (hb : Below w.heap.size w W) => uoddAny_good A2 n2 c2 l2 W (h2.below pzMono hb) hg2)
  have HAr : Hid (∀ W, Below w.heap.size w W → AtR W X (.agg #[.int .i64 X.has, .int .i64 X.org, .slice A n c, .int .u32 X.hop, .int .u32 X.med, .int .u32 X.pref, .int .u32 X.aas, .int .u32 X.aid, .slice B m d])) := hide (fun W hb => ⟨A, n, c, B, m, d, rfl, hP.below sgMono hb, hC.below hb⟩)
  have HGd := hide (fun W (hb : Below w.heap.size w W) => attrGood_own X _ W (HAr.out W hb) hN h0 h02 hcm hh hpo hpl hpn hnum)
  have HWl := hide (fun W (hb : Below w.heap.size w W) => attrwell_own X _ W (HAr.out W hb) hb1 hb2 hh.1)
  have HB1 := hide hbb
  have HW1 := hide hw1
  have en : ((n2 : Int) == 0) = false := by simp; omega
  clear hw1 hbb h1 h2 hg1 hg2 hP hC hN hb1 hb2 h0 h02 hcm hh hpo hpl hpn hnum hn2
  have x0 : w1.cell? ⟨w.heap.size, 0, none⟩ = some (.slice A1 n1 c1) := HK.out.cell 0
  go_enter Tryz.func155, Tryz.ntmps155
  go_wp2_with fail
  rw [HW1.out]
  refine (HO1.out _ HB1.out).mono ?_
  rintro e w2 ⟨rfl, hb2⟩
  have HB2 := hide (HB1.out.trans (hb2.mono HB1.out.size))
  have HK2 := hide (HK.out.below hb2 HK.out.lt)
  have y10 : w2.cell? ⟨w.heap.size, 10, none⟩ = some (.slice A2 n2 c2) := HK2.out.cell 10
  clear hb2 x0
  go_wp2_with fail
  refine (HO2.out _ HB2.out).mono ?_
  rintro e w3 ⟨rfl, hb3⟩
  have HB3 := hide (HB2.out.trans (hb3.mono HB2.out.size))
  have HK3 := hide (HK2.out.below hb3 HK2.out.lt)
  clear hb3 y10
  have z0 : w3.cell? ⟨w.heap.size, 0, none⟩ = some (.slice A1 n1 c1) := HK3.out.cell 0
  have z1 : w3.cell? ⟨w.heap.size, 1, none⟩ = some (.int .i64 X.has) := HK3.out.cell 1
  have z2 : w3.cell? ⟨w.heap.size, 2, none⟩ = some (.int .i64 X.org) := HK3.out.cell 2
  have z3 : w3.cell? ⟨w.heap.size, 3, none⟩ = some (.slice A n c) := HK3.out.cell 3
  have z4 : w3.cell? ⟨w.heap.size, 4, none⟩ = some (.int .u32 X.hop) := HK3.out.cell 4
  have z5 : w3.cell? ⟨w.heap.size, 5, none⟩ = some (.int .u32 X.med) := HK3.out.cell 5
  have z6 : w3.cell? ⟨w.heap.size, 6, none⟩ = some (.int .u32 X.pref) := HK3.out.cell 6
  have z7 : w3.cell? ⟨w.heap.size, 7, none⟩ = some (.int .u32 X.aas) := HK3.out.cell 7
  have z8 : w3.cell? ⟨w.heap.size, 8, none⟩ = some (.int .u32 X.aid) := HK3.out.cell 8
  have z9 : w3.cell? ⟨w.heap.size, 9, none⟩ = some (.slice B m d) := HK3.out.cell 9
  have z10 : w3.cell? ⟨w.heap.size, 10, none⟩ = some (.slice A2 n2 c2) := HK3.out.cell 10
  go_wp2_with fail
  refine (HGd.out _ HB3.out).mono ?_
  rintro e w4 ⟨rfl, hb4⟩
  have HB4 := hide (HB3.out.trans (hb4.mono HB3.out.size))
  have HK4 := hide (HK3.out.below hb4 HK3.out.lt)
  clear hb4 z0 z1 z2 z3 z4 z5 z6 z7 z8 z9 z10
  have y0 : w4.cell? ⟨w.heap.size, 0, none⟩ = some (.slice A1 n1 c1) := HK4.out.cell 0
  have y1 : w4.cell? ⟨w.heap.size, 1, none⟩ = some (.int .i64 X.has) := HK4.out.cell 1
  have y2 : w4.cell? ⟨w.heap.size, 2, none⟩ = some (.int .i64 X.org) := HK4.out.cell 2
  have y3 : w4.cell? ⟨w.heap.size, 3, none⟩ = some (.slice A n c) := HK4.out.cell 3
  have y4 : w4.cell? ⟨w.heap.size, 4, none⟩ = some (.int .u32 X.hop) := HK4.out.cell 4
  have y5 : w4.cell? ⟨w.heap.size, 5, none⟩ = some (.int .u32 X.med) := HK4.out.cell 5
  have y6 : w4.cell? ⟨w.heap.size, 6, none⟩ = some (.int .u32 X.pref) := HK4.out.cell 6
  have y7 : w4.cell? ⟨w.heap.size, 7, none⟩ = some (.int .u32 X.aas) := HK4.out.cell 7
  have y8 : w4.cell? ⟨w.heap.size, 8, none⟩ = some (.int .u32 X.aid) := HK4.out.cell 8
  have y9 : w4.cell? ⟨w.heap.size, 9, none⟩ = some (.slice B m d) := HK4.out.cell 9
  have y10 : w4.cell? ⟨w.heap.size, 10, none⟩ = some (.slice A2 n2 c2) := HK4.out.cell 10
  go_wp2_with fail
  refine (HWl.out _ HB4.out).mono ?_
  rintro e w5 ⟨rfl, hb5⟩
  have HB5 := hide (HB4.out.trans (hb5.mono HB4.out.size))
  clear hb5 y0 y1 y2 y3 y4 y5 y6 y7 y8 y9 y10
  have hfld := fldCode
  go_wp2
  go_ret
  exact ⟨rfl, HB5.out⟩
theorem updGood_own (A1 A2 : Option Addr) (n1 c1 n2 c2 : Nat) (l1 l2 : List (Nat × Int)) (X : AT) (A : Option Addr) (n c : Nat) (B : Option Addr) (m d : Nat) (w : World) (h1 : LstAt 2 pzR w A1 n1 c1 l1) (h2 : LstAt 2 pzR w A2 n2 c2 l2) (hg1 : ∀ x ∈ l1, goodB x.1 x.2 = true) (hg2 : ∀ x ∈ l2, goodB x.1 x.2 = true) (hn2 : 0 < n2)
    (hP : LstAt 2 sgR w A n c X.path) (hC : U32s w B m d X.comms) (hN : normA X = X) (hb1 : attB X.has 1 = true) (hb2 : attB X.has 2 = true) (h0 : 0 ≤ X.org) (h02 : X.org ≤ 2) (hcm : X.comms.length ≤ 255) (hh : attB X.has 3 = true ∧ X.hop = 5) (hpo : normS X.path = X.path) (hpl : ∀ x ∈ X.path, 1 ≤ x.r.length ∧ x.r.length ≤ 255) (hpn : X.path.length ≤ 100) (hnum : numS X.path ≤ 2000) :
    Calls Tryz.prog 91 #[.agg #[.slice A1 n1 c1, .int .i64 X.has, .int .i64 X.org, .slice A n c, .int .u32 X.hop, .int .u32 X.med, .int .u32 X.pref, .int .u32 X.aas, .int .u32 X.aid, .slice B m d, .slice A2 n2 c2]] w (GoodP true w) := by
  have H := hide (fun W (hb : Below w.heap.size w W) => updgood_own A1 A2 n1 c1 n2 c2 l1 l2 X A n c B m d W (h1.below pzMono hb) (h2.below pzMono hb) hg1 hg2 hn2 (hP.below sgMono hb) (hC.below hb) hN hb1 hb2 h0 h02 hcm hh hpo hpl hpn hnum)
  have HB := hide (blkBelow1 w (.cells #[.slice A1 n1 c1, .int .i64 X.has, .int .i64 X.org, .slice A n c, .int .u32 X.hop, .int .u32 X.med, .int .u32 X.pref, .int .u32 X.aas, .int .u32 X.aid, .slice B m d, .slice A2 n2 c2] 81))
  clear h1 h2 hg1 hg2 hP hC hN hb1 hb2 h0 h02 hcm hh hpo hpl hpn hnum hn2
  go_enter Tryz.func91, Tryz.ntmps91
  go_wp2_with fail
  refine (H.out _ HB.out).mono ?_
  rintro e w1 ⟨rfl, hb⟩
  have HB1 := hide (HB.out.trans (hb.mono HB.out.size))
  clear hb
  go_wp2
  go_ret
  exact ⟨rfl, HB1.out⟩
end Go.Proofs.YtcinjckajnnhmaaGreat
set_option linter.unusedSimpArgs false
set_option linter.unusedVariables false
namespace Go.Proofs.YtcinjckajnnhmaaGreat
open Go.RowKit Go.WideShapes Go.ChangeShapes
attribute [local go_sem] Oper.semAt_some
theorem low_chg {α : Type} {sz : Nat} {t : TypeId} {R : World → List Value → α → Prop} {w w' : World} {B B' n c : Nat} {A : Option Addr} {l : List α} {xs : List Value} {S : Nat → Prop} (h : LOw sz t R w B B' A n c l xs) (hB : B' ≤ B) (hc : ChgS S w w') (hS : ∀ k, B' ≤ k → k < w.heap.size → ¬ S k) : LOw sz t R w' B B' A n c l xs := by
  refine ⟨⟨h.1.1, ?_⟩, h.2.1, fun k x hk => (h.2.2 k x hk).ag ⟨hc.size, fun k o h0 h1 _ _ => (hc.block k (heap_lt h1) (hS k h0 (heap_lt h1))).trans h1⟩⟩
  rcases h.1.2 with h3 | ⟨g, cap, cur, e1, e2, e3, rest⟩
  · exact .inl h3
  · exact .inr ⟨g, cap, cur, e1, e2, (hc.block g (heap_lt e3) (hS g (by omega) (heap_lt e3))).trans e3, rest⟩
theorem frb_chg {R : World → Prop} {w w' : World} {B : Nat} {S : Nat → Prop} (h : FrB B none R w) (hc : ChgS S w w') (hS : ∀ k, B ≤ k → k < w.heap.size → ¬ S k) : FrB B none R w' :=
  h.ag ⟨hc.size, fun k o h0 h1 _ _ => (hc.block k (heap_lt h1) (hS k h0 (heap_lt h1))).trans h1⟩
theorem ato_chg {b : Nat} {w w' : World} {x : AT} {v : Value} {S : Nat → Prop} (h : AtO b w x v) (hc : ChgS S w w') (hS : ∀ k, b ≤ k → k < w.heap.size → ¬ S k) : AtO b w' x v := by
  obtain ⟨A, n, c, xs, B, m, d, e, h1, h2⟩ := h
  exact ⟨A, n, c, xs, B, m, d, e, low_chg h1 (Nat.le_refl _) hc hS, frb_chg h2 hc hS⟩
/-- Without a preference. -/
def clrP (Y : AT) : AT := ⟨bits .andNot .i64 Y.has 32, Y.org, Y.path, Y.hop, Y.med, 0, Y.aas, Y.aid, Y.comms⟩
set_option maxRecDepth 100000 in
set_option maxHeartbeats 8000000 in
theorem acc_ext (own ax : Nat) (X Y : AT) (r : List Nat) (l : List SG) (v : Value) (w : World) (hv : AtR w X v) (hn : numS X.path ≤ 10000) (hm : X.comms.length ≤ 10000) (hY : normA X = Y) (hne : own ≠ ax) (hf : X.path = ⟨2, ax :: r⟩ :: l) (hh : pathHas X.path own = false) :
    Calls Tryz.prog 157 #[.int .u32 (own : Int), .int .u32 (ax : Int), v] w fun e w' => ∃ v', e = .returned (.tuple #[v', .bool true]) ∧ AtO w.heap.size w' (clrP Y) v' ∧ Below w.heap.size w w' := by
  obtain ⟨A, n, c, B, m, d, rfl, hP, hC⟩ := hv
  obtain ⟨w0, hw0⟩ : ∃ w0, (w.alloc (.cells #[.int .i64 X.has, .int .i64 X.org, .slice A n c, .int .u32 X.hop, .int .u32 X.med, .int .u32 X.pref, .int .u32 X.aas, .int .u32 X.aid, .slice B m d] 28)).alloc (.cells #[.int .i64 0, .int .i64 0, .slice none 0 0, .int .u32 0, .int .u32 0, .int .u32 0, .int .u32 0, .int .u32 0, .slice none 0 0] 28) = w0 := ⟨_, rfl⟩
  have hb0 : Below w.heap.size w w0 := hw0 ▸ blkBelow2 w _ _
  have hs0 : w0.heap.size = w.heap.size + 2 := by rw [← hw0]; simp
  have HK : Hid (Blk w0 (w.heap.size) 28 #[.int .i64 X.has, .int .i64 X.org, .slice A n c, .int .u32 X.hop, .int .u32 X.med, .int .u32 X.pref, .int .u32 X.aas, .int .u32 X.aid, .slice B m d]) := hide (hw0 ▸ (Blk.new w _ _).alloc _)
  have HZ : Hid (Blk w0 (w.heap.size + 1) 28 #[.int .i64 0, .int .i64 0, .slice none 0 0, .int .u32 0, .int .u32 0, .int .u32 0, .int .u32 0, .int .u32 0, .slice none 0 0]) := hide (hw0 ▸ blk_new' _ _ (by simp))
  have HNm := hide (attrNormX_any X (atV X.has X.org A n c X.hop X.med X.pref X.aas X.aid B m d) w0 ⟨A, n, c, B, m, d, rfl, hP.below sgMono hb0, hC.below hb0⟩ hn hm)
  rw [hY] at HNm
  have HFi : Hid (∀ W, Below w.heap.size w W → Calls Tryz.prog 204 #[.slice A n c] W fun e w' => e = .returned (.tuple #[.int .u32 (ax : Int), .bool true]) ∧ w' = W) := hide (fun W hb => pfirst_seq A n c ax r l W (by rw [← hf]; exact hP.below sgMono hb))
  have HHa := hide (fun W (hb : Below w.heap.size w W) => pathHas_any A n c X.path own W (hP.below sgMono hb))
  rw [hh] at HHa
  have HB0 := hide hb0
  have HS0 := hide hs0
  have HW0 := hide hw0
  have e1 : ((own : Int) != (ax : Int)) = true := by simp; omega
  have e2 : ((ax : Int) != (ax : Int)) = false := by simp
  clear hw0 hb0 hP hC hn hm hY hne hf hh hs0
  have x0 : w0.cell? ⟨w.heap.size, 0, none⟩ = some (.int .i64 X.has) := HK.out.cell 0
  have x1 : w0.cell? ⟨w.heap.size, 1, none⟩ = some (.int .i64 X.org) := HK.out.cell 1
  have x2 : w0.cell? ⟨w.heap.size, 2, none⟩ = some (.slice A n c) := HK.out.cell 2
  have x3 : w0.cell? ⟨w.heap.size, 3, none⟩ = some (.int .u32 X.hop) := HK.out.cell 3
  have x4 : w0.cell? ⟨w.heap.size, 4, none⟩ = some (.int .u32 X.med) := HK.out.cell 4
  have x5 : w0.cell? ⟨w.heap.size, 5, none⟩ = some (.int .u32 X.pref) := HK.out.cell 5
  have x6 : w0.cell? ⟨w.heap.size, 6, none⟩ = some (.int .u32 X.aas) := HK.out.cell 6
  have x7 : w0.cell? ⟨w.heap.size, 7, none⟩ = some (.int .u32 X.aid) := HK.out.cell 7
  have x8 : w0.cell? ⟨w.heap.size, 8, none⟩ = some (.slice B m d) := HK.out.cell 8
  go_enter Tryz.func157, Tryz.ntmps157
  go_wp2_with fail
  rw [HW0.out]
  refine HNm.out.mono ?_
  rintro e w1 ⟨v6, rfl, ⟨A6, n6, c6, xs6, B6, m6, d6, rfl, hl6, hu6⟩, hb1⟩
  obtain ⟨w2, hw2⟩ : ∃ W, w1.alloc (.cells #[.int .i64 Y.has, .int .i64 Y.org, .slice A6 n6 c6, .int .u32 Y.hop, .int .u32 Y.med, .int .u32 Y.pref, .int .u32 Y.aas, .int .u32 Y.aid, .slice B6 m6 d6] 28) = W := ⟨_, rfl⟩
  have hb2 : Below w1.heap.size w1 w2 := hw2 ▸ blkBelow1 w1 _
  have HY2 : Hid (Blk w2 w1.heap.size 28 #[.int .i64 Y.has, .int .i64 Y.org, .slice A6 n6 c6, .int .u32 Y.hop, .int .u32 Y.med, .int .u32 Y.pref, .int .u32 Y.aas, .int .u32 Y.aid, .slice B6 m6 d6]) := hide (hw2 ▸ Blk.new w1 _ _)
  have HB1 := hide (HB0.out.trans (hb1.mono HB0.out.size))
  have HB2 := hide (HB1.out.trans (hb2.mono HB1.out.size))
  have HK1 := hide (HK.out.below hb1 HK.out.lt)
  have HK2 := hide (HK1.out.below hb2 HK1.out.lt)
  have HZ1 := hide (HZ.out.below hb1 HZ.out.lt)
  have HZ2 := hide (HZ1.out.below hb2 HZ1.out.lt)
  have HAt : Hid (AtO w0.heap.size w1 Y (atV Y.has Y.org A6 n6 c6 Y.hop Y.med Y.pref Y.aas Y.aid B6 m6 d6)) := hide ⟨A6, n6, c6, xs6, B6, m6, d6, rfl, hl6, hu6⟩
  have HW2 := hide hw2
  have HS1 := hide hb1.size
  have HBe2 := hide hb2
  clear hw2 hb1 hb2 hl6 hu6 x0 x1 x2 x3 x4 x5 x6 x7 x8
  have x0 : w2.cell? ⟨w.heap.size, 0, none⟩ = some (.int .i64 X.has) := HK2.out.cell 0
  have x1 : w2.cell? ⟨w.heap.size, 1, none⟩ = some (.int .i64 X.org) := HK2.out.cell 1
  have x2 : w2.cell? ⟨w.heap.size, 2, none⟩ = some (.slice A n c) := HK2.out.cell 2
  have x3 : w2.cell? ⟨w.heap.size, 3, none⟩ = some (.int .u32 X.hop) := HK2.out.cell 3
  have x4 : w2.cell? ⟨w.heap.size, 4, none⟩ = some (.int .u32 X.med) := HK2.out.cell 4
  have x5 : w2.cell? ⟨w.heap.size, 5, none⟩ = some (.int .u32 X.pref) := HK2.out.cell 5
  have x6 : w2.cell? ⟨w.heap.size, 6, none⟩ = some (.int .u32 X.aas) := HK2.out.cell 6
  have x7 : w2.cell? ⟨w.heap.size, 7, none⟩ = some (.int .u32 X.aid) := HK2.out.cell 7
  have x8 : w2.cell? ⟨w.heap.size, 8, none⟩ = some (.slice B m d) := HK2.out.cell 8
  go_upto_region 2 with fail
  rw [HW2.out]
  go_wp2_with fail
  refine (HFi.out _ HB2.out).mono ?_
  rintro e w3 ⟨rfl, rfl⟩
  go_wp2_with fail
  refine (HHa.out _ HB2.out).mono ?_
  rintro e w4 ⟨rfl, hb4⟩
  have HY4 := hide (HY2.out.below hb4 HY2.out.lt)
  have HZ4 := hide (HZ2.out.below hb4 HZ2.out.lt)
  have HC4 : Hid (ChgS (fun _ => False) w1 w4) := hide (chg_below (HBe2.out.trans (hb4.mono HBe2.out.size)))
  have HB4 := hide (HB2.out.trans (hb4.mono HB2.out.size))
  clear hb4 x0 x1 x2 x3 x4 x5 x6 x7 x8
  have y0 : w4.cell? ⟨w1.heap.size, 0, none⟩ = some (.int .i64 Y.has) := HY4.out.cell 0
  have y1 : w4.cell? ⟨w1.heap.size, 1, none⟩ = some (.int .i64 Y.org) := HY4.out.cell 1
  have y2 : w4.cell? ⟨w1.heap.size, 2, none⟩ = some (.slice A6 n6 c6) := HY4.out.cell 2
  have y3 : w4.cell? ⟨w1.heap.size, 3, none⟩ = some (.int .u32 Y.hop) := HY4.out.cell 3
  have y4 : w4.cell? ⟨w1.heap.size, 4, none⟩ = some (.int .u32 Y.med) := HY4.out.cell 4
  have y5 : w4.cell? ⟨w1.heap.size, 5, none⟩ = some (.int .u32 Y.pref) := HY4.out.cell 5
  have y6 : w4.cell? ⟨w1.heap.size, 6, none⟩ = some (.int .u32 Y.aas) := HY4.out.cell 6
  have y7 : w4.cell? ⟨w1.heap.size, 7, none⟩ = some (.int .u32 Y.aid) := HY4.out.cell 7
  have y8 : w4.cell? ⟨w1.heap.size, 8, none⟩ = some (.slice B6 m6 d6) := HY4.out.cell 8
  have yf := fun i => HY4.out.frozen i
  go_upto_region 13 with fail
  obtain ⟨w5, hw5⟩ : ∃ W, (w4.setCell ⟨w1.heap.size, 5, none⟩ (.int .u32 0)).setCell ⟨w1.heap.size, 0, none⟩ (.int .i64 (bits .andNot .i64 Y.has 32)) = W := ⟨_, rfl⟩
  have hso : w.heap.size + 1 < w1.heap.size := by have := HS1.out; have := HS0.out; omega
  have HY5 : Hid (Blk w5 w1.heap.size 28 #[.int .i64 (bits .andNot .i64 Y.has 32), .int .i64 Y.org, .slice A6 n6 c6, .int .u32 Y.hop, .int .u32 Y.med, .int .u32 0, .int .u32 Y.aas, .int .u32 Y.aid, .slice B6 m6 d6]) := hide (hw5 ▸ (HY4.out.set_ 5 _).set_ 0 _)
  have HZ5 : Hid (Blk w5 (w.heap.size + 1) 28 #[.int .i64 0, .int .i64 0, .slice none 0 0, .int .u32 0, .int .u32 0, .int .u32 0, .int .u32 0, .int .u32 0, .slice none 0 0]) := hide (hw5 ▸ (HZ4.out.far (p := ⟨w1.heap.size, 5, none⟩) (by show w.heap.size + 1 ≠ w1.heap.size; omega) _).far (p := ⟨w1.heap.size, 0, none⟩) (by show w.heap.size + 1 ≠ w1.heap.size; omega) _)
  have HC5 : Hid (ChgS (fun k => k = w1.heap.size) w4 w5) := hide (hw5 ▸ chg_trans (chg_set (S := fun k => k = w1.heap.size) (p := ⟨w1.heap.size, 5, none⟩) rfl _) (chg_set (S := fun k => k = w1.heap.size) (p := ⟨w1.heap.size, 0, none⟩) rfl _) (fun k h => .inl h))
  rw [hw5]
  clear hw5 yf y0 y1 y2 y3 y4 y5 y6 y7 y8
  have y0 : w5.cell? ⟨w1.heap.size, 0, none⟩ = some (.int .i64 (bits .andNot .i64 Y.has 32)) := HY5.out.cell 0
  have y1 : w5.cell? ⟨w1.heap.size, 1, none⟩ = some (.int .i64 Y.org) := HY5.out.cell 1
  have y2 : w5.cell? ⟨w1.heap.size, 2, none⟩ = some (.slice A6 n6 c6) := HY5.out.cell 2
  have y3 : w5.cell? ⟨w1.heap.size, 3, none⟩ = some (.int .u32 Y.hop) := HY5.out.cell 3
  have y4 : w5.cell? ⟨w1.heap.size, 4, none⟩ = some (.int .u32 Y.med) := HY5.out.cell 4
  have y5 : w5.cell? ⟨w1.heap.size, 5, none⟩ = some (.int .u32 0) := HY5.out.cell 5
  have y6 : w5.cell? ⟨w1.heap.size, 6, none⟩ = some (.int .u32 Y.aas) := HY5.out.cell 6
  have y7 : w5.cell? ⟨w1.heap.size, 7, none⟩ = some (.int .u32 Y.aid) := HY5.out.cell 7
  have y8 : w5.cell? ⟨w1.heap.size, 8, none⟩ = some (.slice B6 m6 d6) := HY5.out.cell 8
  have z0 : w5.cell? ⟨w.heap.size + 1, 0, none⟩ = some (.int .i64 0) := HZ5.out.cell 0
  have z1 : w5.cell? ⟨w.heap.size + 1, 1, none⟩ = some (.int .i64 0) := HZ5.out.cell 1
  have z2 : w5.cell? ⟨w.heap.size + 1, 2, none⟩ = some (.slice none 0 0) := HZ5.out.cell 2
  have z3 : w5.cell? ⟨w.heap.size + 1, 3, none⟩ = some (.int .u32 0) := HZ5.out.cell 3
  have z4 : w5.cell? ⟨w.heap.size + 1, 4, none⟩ = some (.int .u32 0) := HZ5.out.cell 4
  have z5 : w5.cell? ⟨w.heap.size + 1, 5, none⟩ = some (.int .u32 0) := HZ5.out.cell 5
  have z6 : w5.cell? ⟨w.heap.size + 1, 6, none⟩ = some (.int .u32 0) := HZ5.out.cell 6
  have z7 : w5.cell? ⟨w.heap.size + 1, 7, none⟩ = some (.int .u32 0) := HZ5.out.cell 7
  have z8 : w5.cell? ⟨w.heap.size + 1, 8, none⟩ = some (.slice none 0 0) := HZ5.out.cell 8
  have zf := fun i => HZ5.out.frozen i
  go_wp2
  change bodyPost _ _ _ _ _ (w5.setCells (w.heap.size + 1) 0 [.int .i64 (bits .andNot .i64 Y.has 32), .int .i64 Y.org, .slice A6 n6 c6, .int .u32 Y.hop, .int .u32 Y.med, .int .u32 0, .int .u32 Y.aas, .int .u32 Y.aid, .slice B6 m6 d6])
  obtain ⟨wF, hwF⟩ : ∃ x, w5.setCells (w.heap.size + 1) 0 [.int .i64 (bits .andNot .i64 Y.has 32), .int .i64 Y.org, .slice A6 n6 c6, .int .u32 Y.hop, .int .u32 Y.med, .int .u32 0, .int .u32 Y.aas, .int .u32 Y.aid, .slice B6 m6 d6] = x := ⟨_, rfl⟩
  have HFk := hide (hwF ▸ blk_sets [.int .i64 (bits .andNot .i64 Y.has 32), .int .i64 Y.org, .slice A6 n6 c6, .int .u32 Y.hop, .int .u32 Y.med, .int .u32 0, .int .u32 Y.aas, .int .u32 Y.aid, .slice B6 m6 d6] [] [.int .i64 0, .int .i64 0, .slice none 0 0, .int .u32 0, .int .u32 0, .int .u32 0, .int .u32 0, .int .u32 0, .slice none 0 0] HZ5.out rfl : Blk wF (w.heap.size + 1) 28 #[.int .i64 (bits .andNot .i64 Y.has 32), .int .i64 Y.org, .slice A6 n6 c6, .int .u32 Y.hop, .int .u32 Y.med, .int .u32 0, .int .u32 Y.aas, .int .u32 Y.aid, .slice B6 m6 d6])
  have HFc : Hid (ChgS (fun k => k = w1.heap.size ∨ k = w.heap.size + 1) w1 wF) := hide (hwF ▸ chg_trans (chg_trans (chg_mono HC4.out (fun k h => h.elim)) HC5.out (fun k h => .inl (.inl h))) (chg_sets (S := fun k => k = w.heap.size + 1) rfl [.int .i64 (bits .andNot .i64 Y.has 32), .int .i64 Y.org, .slice A6 n6 c6, .int .u32 Y.hop, .int .u32 Y.med, .int .u32 0, .int .u32 Y.aas, .int .u32 Y.aid, .slice B6 m6 d6] 0) (fun k h => .inl (.inr h)))
  have HFb : Hid (Below w.heap.size w wF) := hide (chg_to_below (chg_trans (chg_below (S := fun k => w.heap.size ≤ k) HB1.out) HFc.out (fun k h => .inl (by rcases h with h | h <;> omega))) (Nat.le_refl _) (fun k h => h))
  rw [hwF]
  clear hwF zf y0 y1 y2 y3 y4 y5 y6 y7 y8 z0 z1 z2 z3 z4 z5 z6 z7 z8
  have q0 : wF.cell? ⟨w.heap.size + 1, 0, none⟩ = some (.int .i64 (bits .andNot .i64 Y.has 32)) := HFk.out.cell 0
  have q1 : wF.cell? ⟨w.heap.size + 1, 1, none⟩ = some (.int .i64 Y.org) := HFk.out.cell 1
  have q2 : wF.cell? ⟨w.heap.size + 1, 2, none⟩ = some (.slice A6 n6 c6) := HFk.out.cell 2
  have q3 : wF.cell? ⟨w.heap.size + 1, 3, none⟩ = some (.int .u32 Y.hop) := HFk.out.cell 3
  have q4 : wF.cell? ⟨w.heap.size + 1, 4, none⟩ = some (.int .u32 Y.med) := HFk.out.cell 4
  have q5 : wF.cell? ⟨w.heap.size + 1, 5, none⟩ = some (.int .u32 0) := HFk.out.cell 5
  have q6 : wF.cell? ⟨w.heap.size + 1, 6, none⟩ = some (.int .u32 Y.aas) := HFk.out.cell 6
  have q7 : wF.cell? ⟨w.heap.size + 1, 7, none⟩ = some (.int .u32 Y.aid) := HFk.out.cell 7
  have q8 : wF.cell? ⟨w.heap.size + 1, 8, none⟩ = some (.slice B6 m6 d6) := HFk.out.cell 8
  have hAF := ato_chg HAt.out HFc.out (fun k h1 h2 h3 => by have := HS0.out; rcases h3 with h3 | h3 <;> omega)
  have hAC : AtO w.heap.size wF (clrP Y) (.agg #[.int .i64 (bits .andNot .i64 Y.has 32), .int .i64 Y.org, .slice A6 n6 c6, .int .u32 Y.hop, .int .u32 Y.med, .int .u32 0, .int .u32 Y.aas, .int .u32 Y.aid, .slice B6 m6 d6]) := by
    obtain ⟨A7, n7, c7, xs7, B7, m7, d7, e, h1, h2⟩ := hAF
    simp only [atV, Value.agg.injEq, Array.mk.injEq, List.cons.injEq, and_true, true_and] at e
    obtain ⟨e3, e9⟩ := e
    injection e3 with q1 q2 q3
    injection e9 with q4 q5 q6
    subst q1 q2 q3 q4 q5 q6
    have hle : w.heap.size ≤ w0.heap.size := by have := HS0.out; omega
    exact ⟨_, _, _, xs7, _, _, _, rfl, h1.less hle hle, h2.less hle⟩
  refine bodyPost_ret (v := .tuple #[.agg #[.int .i64 (bits .andNot .i64 Y.has 32), .int .i64 Y.org, .slice A6 n6 c6, .int .u32 Y.hop, .int .u32 Y.med, .int .u32 0, .int .u32 Y.aas, .int .u32 Y.aid, .slice B6 m6 d6], .bool true]) (by simp [results, Tryz.results157, go_sem, q0, q1, q2, q3, q4, q5, q6, q7, q8]) rfl ⟨_, rfl, hAC, HFb.out⟩
set_option maxRecDepth 100000 in
set_option maxHeartbeats 8000000 in
theorem acc_has (own ax : Nat) (X Y : AT) (r : List Nat) (l : List SG) (fx : Nat) (v : Value) (w : World) (hv : AtR w X v) (hn : numS X.path ≤ 10000) (hm : X.comms.length ≤ 10000) (hY : normA X = Y) (hf : X.path = ⟨2, fx :: r⟩ :: l) (hh : pathHas X.path own = true) :
    Calls Tryz.prog 157 #[.int .u32 (own : Int), .int .u32 (ax : Int), v] w fun e w' => ∃ v', e = .returned (.tuple #[v', .bool false]) ∧ AtO w.heap.size w' Y v' ∧ Below w.heap.size w w' := by
  obtain ⟨A, n, c, B, m, d, rfl, hP, hC⟩ := hv
  obtain ⟨w0, hw0⟩ : ∃ w0, (w.alloc (.cells #[.int .i64 X.has, .int .i64 X.org, .slice A n c, .int .u32 X.hop, .int .u32 X.med, .int .u32 X.pref, .int .u32 X.aas, .int .u32 X.aid, .slice B m d] 28)).alloc (.cells #[.int .i64 0, .int .i64 0, .slice none 0 0, .int .u32 0, .int .u32 0, .int .u32 0, .int .u32 0, .int .u32 0, .slice none 0 0] 28) = w0 := ⟨_, rfl⟩
  have hb0 : Below w.heap.size w w0 := hw0 ▸ blkBelow2 w _ _
  have hs0 : w0.heap.size = w.heap.size + 2 := by rw [← hw0]; simp
  have HK : Hid (Blk w0 (w.heap.size) 28 #[.int .i64 X.has, .int .i64 X.org, .slice A n c, .int .u32 X.hop, .int .u32 X.med, .int .u32 X.pref, .int .u32 X.aas, .int .u32 X.aid, .slice B m d]) := hide (hw0 ▸ (Blk.new w _ _).alloc _)
  have HZ : Hid (Blk w0 (w.heap.size + 1) 28 #[.int .i64 0, .int .i64 0, .slice none 0 0, .int .u32 0, .int .u32 0, .int .u32 0, .int .u32 0, .int .u32 0, .slice none 0 0]) := hide (hw0 ▸ blk_new' _ _ (by simp))
  have HNm := hide (attrNormX_any X (atV X.has X.org A n c X.hop X.med X.pref X.aas X.aid B m d) w0 ⟨A, n, c, B, m, d, rfl, hP.below sgMono hb0, hC.below hb0⟩ hn hm)
  rw [hY] at HNm
  have HFi : Hid (∀ W, Below w.heap.size w W → Calls Tryz.prog 204 #[.slice A n c] W fun e w' => e = .returned (.tuple #[.int .u32 (fx : Int), .bool true]) ∧ w' = W) := hide (fun W hb => pfirst_seq A n c fx r l W (by rw [← hf]; exact hP.below sgMono hb))
  have HHa := hide (fun W (hb : Below w.heap.size w W) => pathHas_any A n c X.path own W (hP.below sgMono hb))
  rw [hh] at HHa
  have HB0 := hide hb0
  have HS0 := hide hs0
  have HW0 := hide hw0
  clear hw0 hb0 hP hC hn hm hY hf hh hs0
  have x0 : w0.cell? ⟨w.heap.size, 0, none⟩ = some (.int .i64 X.has) := HK.out.cell 0
  have x1 : w0.cell? ⟨w.heap.size, 1, none⟩ = some (.int .i64 X.org) := HK.out.cell 1
  have x2 : w0.cell? ⟨w.heap.size, 2, none⟩ = some (.slice A n c) := HK.out.cell 2
  have x3 : w0.cell? ⟨w.heap.size, 3, none⟩ = some (.int .u32 X.hop) := HK.out.cell 3
  have x4 : w0.cell? ⟨w.heap.size, 4, none⟩ = some (.int .u32 X.med) := HK.out.cell 4
  have x5 : w0.cell? ⟨w.heap.size, 5, none⟩ = some (.int .u32 X.pref) := HK.out.cell 5
  have x6 : w0.cell? ⟨w.heap.size, 6, none⟩ = some (.int .u32 X.aas) := HK.out.cell 6
  have x7 : w0.cell? ⟨w.heap.size, 7, none⟩ = some (.int .u32 X.aid) := HK.out.cell 7
  have x8 : w0.cell? ⟨w.heap.size, 8, none⟩ = some (.slice B m d) := HK.out.cell 8
  go_enter Tryz.func157, Tryz.ntmps157
  go_wp2_with fail
  rw [HW0.out]
  refine HNm.out.mono ?_
  rintro e w1 ⟨v6, rfl, ⟨A6, n6, c6, xs6, B6, m6, d6, rfl, hl6, hu6⟩, hb1⟩
  obtain ⟨w2, hw2⟩ : ∃ W, w1.alloc (.cells #[.int .i64 Y.has, .int .i64 Y.org, .slice A6 n6 c6, .int .u32 Y.hop, .int .u32 Y.med, .int .u32 Y.pref, .int .u32 Y.aas, .int .u32 Y.aid, .slice B6 m6 d6] 28) = W := ⟨_, rfl⟩
  have hb2 : Below w1.heap.size w1 w2 := hw2 ▸ blkBelow1 w1 _
  have HY2 : Hid (Blk w2 w1.heap.size 28 #[.int .i64 Y.has, .int .i64 Y.org, .slice A6 n6 c6, .int .u32 Y.hop, .int .u32 Y.med, .int .u32 Y.pref, .int .u32 Y.aas, .int .u32 Y.aid, .slice B6 m6 d6]) := hide (hw2 ▸ Blk.new w1 _ _)
  have HB1 := hide (HB0.out.trans (hb1.mono HB0.out.size))
  have HB2 := hide (HB1.out.trans (hb2.mono HB1.out.size))
  have HK1 := hide (HK.out.below hb1 HK.out.lt)
  have HK2 := hide (HK1.out.below hb2 HK1.out.lt)
  have HZ1 := hide (HZ.out.below hb1 HZ.out.lt)
  have HZ2 := hide (HZ1.out.below hb2 HZ1.out.lt)
  have HAt : Hid (AtO w0.heap.size w1 Y (atV Y.has Y.org A6 n6 c6 Y.hop Y.med Y.pref Y.aas Y.aid B6 m6 d6)) := hide ⟨A6, n6, c6, xs6, B6, m6, d6, rfl, hl6, hu6⟩
  have HW2 := hide hw2
  have HS1 := hide hb1.size
  have HBe2 := hide hb2
  clear hw2 hb1 hb2 hl6 hu6 x0 x1 x2 x3 x4 x5 x6 x7 x8
  have x0 : w2.cell? ⟨w.heap.size, 0, none⟩ = some (.int .i64 X.has) := HK2.out.cell 0
  have x1 : w2.cell? ⟨w.heap.size, 1, none⟩ = some (.int .i64 X.org) := HK2.out.cell 1
  have x2 : w2.cell? ⟨w.heap.size, 2, none⟩ = some (.slice A n c) := HK2.out.cell 2
  have x3 : w2.cell? ⟨w.heap.size, 3, none⟩ = some (.int .u32 X.hop) := HK2.out.cell 3
  have x4 : w2.cell? ⟨w.heap.size, 4, none⟩ = some (.int .u32 X.med) := HK2.out.cell 4
  have x5 : w2.cell? ⟨w.heap.size, 5, none⟩ = some (.int .u32 X.pref) := HK2.out.cell 5
  have x6 : w2.cell? ⟨w.heap.size, 6, none⟩ = some (.int .u32 X.aas) := HK2.out.cell 6
  have x7 : w2.cell? ⟨w.heap.size, 7, none⟩ = some (.int .u32 X.aid) := HK2.out.cell 7
  have x8 : w2.cell? ⟨w.heap.size, 8, none⟩ = some (.slice B m d) := HK2.out.cell 8
  go_upto_region 2 with fail
  rw [HW2.out]
  go_wp2_with fail
  refine (HFi.out _ HB2.out).mono ?_
  rintro e w3 ⟨rfl, rfl⟩
  go_wp2_with fail
  refine (HHa.out _ HB2.out).mono ?_
  rintro e w4 ⟨rfl, hb4⟩
  have HY4 := hide (HY2.out.below hb4 HY2.out.lt)
  have HZ4 := hide (HZ2.out.below hb4 HZ2.out.lt)
  have HC4 : Hid (ChgS (fun _ => False) w1 w4) := hide (chg_below (HBe2.out.trans (hb4.mono HBe2.out.size)))
  have hso : w.heap.size + 1 < w1.heap.size := by have := HS1.out; have := HS0.out; omega
  clear hb4 x0 x1 x2 x3 x4 x5 x6 x7 x8
  have y0 : w4.cell? ⟨w1.heap.size, 0, none⟩ = some (.int .i64 Y.has) := HY4.out.cell 0
  have y1 : w4.cell? ⟨w1.heap.size, 1, none⟩ = some (.int .i64 Y.org) := HY4.out.cell 1
  have y2 : w4.cell? ⟨w1.heap.size, 2, none⟩ = some (.slice A6 n6 c6) := HY4.out.cell 2
  have y3 : w4.cell? ⟨w1.heap.size, 3, none⟩ = some (.int .u32 Y.hop) := HY4.out.cell 3
  have y4 : w4.cell? ⟨w1.heap.size, 4, none⟩ = some (.int .u32 Y.med) := HY4.out.cell 4
  have y5 : w4.cell? ⟨w1.heap.size, 5, none⟩ = some (.int .u32 Y.pref) := HY4.out.cell 5
  have y6 : w4.cell? ⟨w1.heap.size, 6, none⟩ = some (.int .u32 Y.aas) := HY4.out.cell 6
  have y7 : w4.cell? ⟨w1.heap.size, 7, none⟩ = some (.int .u32 Y.aid) := HY4.out.cell 7
  have y8 : w4.cell? ⟨w1.heap.size, 8, none⟩ = some (.slice B6 m6 d6) := HY4.out.cell 8
  have z0 : w4.cell? ⟨w.heap.size + 1, 0, none⟩ = some (.int .i64 0) := HZ4.out.cell 0
  have z1 : w4.cell? ⟨w.heap.size + 1, 1, none⟩ = some (.int .i64 0) := HZ4.out.cell 1
  have z2 : w4.cell? ⟨w.heap.size + 1, 2, none⟩ = some (.slice none 0 0) := HZ4.out.cell 2
  have z3 : w4.cell? ⟨w.heap.size + 1, 3, none⟩ = some (.int .u32 0) := HZ4.out.cell 3
  have z4 : w4.cell? ⟨w.heap.size + 1, 4, none⟩ = some (.int .u32 0) := HZ4.out.cell 4
  have z5 : w4.cell? ⟨w.heap.size + 1, 5, none⟩ = some (.int .u32 0) := HZ4.out.cell 5
  have z6 : w4.cell? ⟨w.heap.size + 1, 6, none⟩ = some (.int .u32 0) := HZ4.out.cell 6
  have z7 : w4.cell? ⟨w.heap.size + 1, 7, none⟩ = some (.int .u32 0) := HZ4.out.cell 7
  have z8 : w4.cell? ⟨w.heap.size + 1, 8, none⟩ = some (.slice none 0 0) := HZ4.out.cell 8
  have zf := fun i => HZ4.out.frozen i
  go_wp2
  change bodyPost _ _ _ _ _ (w4.setCells (w.heap.size + 1) 0 [.int .i64 Y.has, .int .i64 Y.org, .slice A6 n6 c6, .int .u32 Y.hop, .int .u32 Y.med, .int .u32 Y.pref, .int .u32 Y.aas, .int .u32 Y.aid, .slice B6 m6 d6])
  obtain ⟨wF, hwF⟩ : ∃ x, w4.setCells (w.heap.size + 1) 0 [.int .i64 Y.has, .int .i64 Y.org, .slice A6 n6 c6, .int .u32 Y.hop, .int .u32 Y.med, .int .u32 Y.pref, .int .u32 Y.aas, .int .u32 Y.aid, .slice B6 m6 d6] = x := ⟨_, rfl⟩
  have HFk := hide (hwF ▸ blk_sets [.int .i64 Y.has, .int .i64 Y.org, .slice A6 n6 c6, .int .u32 Y.hop, .int .u32 Y.med, .int .u32 Y.pref, .int .u32 Y.aas, .int .u32 Y.aid, .slice B6 m6 d6] [] [.int .i64 0, .int .i64 0, .slice none 0 0, .int .u32 0, .int .u32 0, .int .u32 0, .int .u32 0, .int .u32 0, .slice none 0 0] HZ4.out rfl : Blk wF (w.heap.size + 1) 28 #[.int .i64 Y.has, .int .i64 Y.org, .slice A6 n6 c6, .int .u32 Y.hop, .int .u32 Y.med, .int .u32 Y.pref, .int .u32 Y.aas, .int .u32 Y.aid, .slice B6 m6 d6])
  have HFc : Hid (ChgS (fun k => k = w.heap.size + 1) w1 wF) := hide (hwF ▸ chg_trans (chg_mono HC4.out (fun k h => h.elim)) (chg_sets (S := fun k => k = w.heap.size + 1) rfl [.int .i64 Y.has, .int .i64 Y.org, .slice A6 n6 c6, .int .u32 Y.hop, .int .u32 Y.med, .int .u32 Y.pref, .int .u32 Y.aas, .int .u32 Y.aid, .slice B6 m6 d6] 0) (fun k h => .inl h))
  have HFb : Hid (Below w.heap.size w wF) := hide (chg_to_below (chg_trans (chg_below (S := fun k => w.heap.size ≤ k) HB1.out) HFc.out (fun k h => .inl (by omega))) (Nat.le_refl _) (fun k h => h))
  rw [hwF]
  clear hwF zf y0 y1 y2 y3 y4 y5 y6 y7 y8 z0 z1 z2 z3 z4 z5 z6 z7 z8
  have q0 : wF.cell? ⟨w.heap.size + 1, 0, none⟩ = some (.int .i64 Y.has) := HFk.out.cell 0
  have q1 : wF.cell? ⟨w.heap.size + 1, 1, none⟩ = some (.int .i64 Y.org) := HFk.out.cell 1
  have q2 : wF.cell? ⟨w.heap.size + 1, 2, none⟩ = some (.slice A6 n6 c6) := HFk.out.cell 2
  have q3 : wF.cell? ⟨w.heap.size + 1, 3, none⟩ = some (.int .u32 Y.hop) := HFk.out.cell 3
  have q4 : wF.cell? ⟨w.heap.size + 1, 4, none⟩ = some (.int .u32 Y.med) := HFk.out.cell 4
  have q5 : wF.cell? ⟨w.heap.size + 1, 5, none⟩ = some (.int .u32 Y.pref) := HFk.out.cell 5
  have q6 : wF.cell? ⟨w.heap.size + 1, 6, none⟩ = some (.int .u32 Y.aas) := HFk.out.cell 6
  have q7 : wF.cell? ⟨w.heap.size + 1, 7, none⟩ = some (.int .u32 Y.aid) := HFk.out.cell 7
  have q8 : wF.cell? ⟨w.heap.size + 1, 8, none⟩ = some (.slice B6 m6 d6) := HFk.out.cell 8
  have hAF := ato_chg HAt.out HFc.out (fun k h1 h2 h3 => by have := HS0.out; omega)
  have hAC : AtO w.heap.size wF Y (.agg #[.int .i64 Y.has, .int .i64 Y.org, .slice A6 n6 c6, .int .u32 Y.hop, .int .u32 Y.med, .int .u32 Y.pref, .int .u32 Y.aas, .int .u32 Y.aid, .slice B6 m6 d6]) := hAF.less (by have := HS0.out; omega)
  refine bodyPost_ret (v := .tuple #[.agg #[.int .i64 Y.has, .int .i64 Y.org, .slice A6 n6 c6, .int .u32 Y.hop, .int .u32 Y.med, .int .u32 Y.pref, .int .u32 Y.aas, .int .u32 Y.aid, .slice B6 m6 d6], .bool false]) (by simp [results, Tryz.results157, go_sem, q0, q1, q2, q3, q4, q5, q6, q7, q8]) rfl ⟨_, rfl, hAC, HFb.out⟩
set_option maxRecDepth 100000 in
set_option maxHeartbeats 8000000 in
/-- ribin.Accepts is accepts. -/
theorem Acc_of (own ax : Nat) (X Z : AT) (b : Bool) (v : Value) (w : World) (hv : AtR w X v) (hA : ∀ W, Below w.heap.size w W → Calls Tryz.prog 157 #[.int .u32 (own : Int), .int .u32 (ax : Int), v] W fun e w' => ∃ v', e = .returned (.tuple #[v', .bool b]) ∧ AtO W.heap.size w' Z v' ∧ Below W.heap.size W w') :
    Calls Tryz.prog 99 #[.int .u32 (own : Int), .int .u32 (ax : Int), v] w fun e w' => ∃ v', e = .returned (.tuple #[v', .bool b]) ∧ AtO w.heap.size w' Z v' ∧ Below w.heap.size w w' := by
  have HA := hide hA
  obtain ⟨A, n, c, B, m, d, rfl, hP, hC⟩ := hv
  obtain ⟨w0, hw0⟩ : ∃ w0, (w.alloc (.cells #[.int .i64 X.has, .int .i64 X.org, .slice A n c, .int .u32 X.hop, .int .u32 X.med, .int .u32 X.pref, .int .u32 X.aas, .int .u32 X.aid, .slice B m d] 28)).alloc (.cells #[.int .i64 0, .int .i64 0, .slice none 0 0, .int .u32 0, .int .u32 0, .int .u32 0, .int .u32 0, .int .u32 0, .slice none 0 0] 28) = w0 := ⟨_, rfl⟩
  have hb0 : Below w.heap.size w w0 := hw0 ▸ blkBelow2 w _ _
  have hs0 : w0.heap.size = w.heap.size + 2 := by rw [← hw0]; simp
  have HK : Hid (Blk w0 (w.heap.size) 28 #[.int .i64 X.has, .int .i64 X.org, .slice A n c, .int .u32 X.hop, .int .u32 X.med, .int .u32 X.pref, .int .u32 X.aas, .int .u32 X.aid, .slice B m d]) := hide (hw0 ▸ (Blk.new w _ _).alloc _)
  have HZ : Hid (Blk w0 (w.heap.size + 1) 28 #[.int .i64 0, .int .i64 0, .slice none 0 0, .int .u32 0, .int .u32 0, .int .u32 0, .int .u32 0, .int .u32 0, .slice none 0 0]) := hide (hw0 ▸ blk_new' _ _ (by simp))
  have HAc := hide (HA.out w0 hb0)
  have HB0 := hide hb0
  have HS0 := hide hs0
  have HW0 := hide hw0
  clear hw0 hb0 hP hC hA HA hs0
  have x0 : w0.cell? ⟨w.heap.size, 0, none⟩ = some (.int .i64 X.has) := HK.out.cell 0
  have x1 : w0.cell? ⟨w.heap.size, 1, none⟩ = some (.int .i64 X.org) := HK.out.cell 1
  have x2 : w0.cell? ⟨w.heap.size, 2, none⟩ = some (.slice A n c) := HK.out.cell 2
  have x3 : w0.cell? ⟨w.heap.size, 3, none⟩ = some (.int .u32 X.hop) := HK.out.cell 3
  have x4 : w0.cell? ⟨w.heap.size, 4, none⟩ = some (.int .u32 X.med) := HK.out.cell 4
  have x5 : w0.cell? ⟨w.heap.size, 5, none⟩ = some (.int .u32 X.pref) := HK.out.cell 5
  have x6 : w0.cell? ⟨w.heap.size, 6, none⟩ = some (.int .u32 X.aas) := HK.out.cell 6
  have x7 : w0.cell? ⟨w.heap.size, 7, none⟩ = some (.int .u32 X.aid) := HK.out.cell 7
  have x8 : w0.cell? ⟨w.heap.size, 8, none⟩ = some (.slice B m d) := HK.out.cell 8
  go_enter Tryz.func99, Tryz.ntmps99
  go_wp2_with fail
  rw [HW0.out]
  refine HAc.out.mono ?_
  rintro e w1 ⟨v6, rfl, ⟨A6, n6, c6, xs6, B6, m6, d6, rfl, hl6, hu6⟩, hb1⟩
  have HB1 := hide (HB0.out.trans (hb1.mono HB0.out.size))
  have HZ1 := hide (HZ.out.below hb1 HZ.out.lt)
  have HAt : Hid (AtO w0.heap.size w1 Z (.agg #[.int .i64 Z.has, .int .i64 Z.org, .slice A6 n6 c6, .int .u32 Z.hop, .int .u32 Z.med, .int .u32 Z.pref, .int .u32 Z.aas, .int .u32 Z.aid, .slice B6 m6 d6])) := hide ⟨A6, n6, c6, xs6, B6, m6, d6, rfl, hl6, hu6⟩
  clear hb1 hl6 hu6 x0 x1 x2 x3 x4 x5 x6 x7 x8
  have z0 : w1.cell? ⟨w.heap.size + 1, 0, none⟩ = some (.int .i64 0) := HZ1.out.cell 0
  have z1 : w1.cell? ⟨w.heap.size + 1, 1, none⟩ = some (.int .i64 0) := HZ1.out.cell 1
  have z2 : w1.cell? ⟨w.heap.size + 1, 2, none⟩ = some (.slice none 0 0) := HZ1.out.cell 2
  have z3 : w1.cell? ⟨w.heap.size + 1, 3, none⟩ = some (.int .u32 0) := HZ1.out.cell 3
  have z4 : w1.cell? ⟨w.heap.size + 1, 4, none⟩ = some (.int .u32 0) := HZ1.out.cell 4
  have z5 : w1.cell? ⟨w.heap.size + 1, 5, none⟩ = some (.int .u32 0) := HZ1.out.cell 5
  have z6 : w1.cell? ⟨w.heap.size + 1, 6, none⟩ = some (.int .u32 0) := HZ1.out.cell 6
  have z7 : w1.cell? ⟨w.heap.size + 1, 7, none⟩ = some (.int .u32 0) := HZ1.out.cell 7
  have z8 : w1.cell? ⟨w.heap.size + 1, 8, none⟩ = some (.slice none 0 0) := HZ1.out.cell 8
  have zf := fun i => HZ1.out.frozen i
  go_wp2
  change bodyPost _ _ _ _ _ (w1.setCells (w.heap.size + 1) 0 [.int .i64 Z.has, .int .i64 Z.org, .slice A6 n6 c6, .int .u32 Z.hop, .int .u32 Z.med, .int .u32 Z.pref, .int .u32 Z.aas, .int .u32 Z.aid, .slice B6 m6 d6])
  obtain ⟨wF, hwF⟩ : ∃ x, w1.setCells (w.heap.size + 1) 0 [.int .i64 Z.has, .int .i64 Z.org, .slice A6 n6 c6, .int .u32 Z.hop, .int .u32 Z.med, .int .u32 Z.pref, .int .u32 Z.aas, .int .u32 Z.aid, .slice B6 m6 d6] = x := ⟨_, rfl⟩
  have HFk := hide (hwF ▸ blk_sets [.int .i64 Z.has, .int .i64 Z.org, .slice A6 n6 c6, .int .u32 Z.hop, .int .u32 Z.med, .int .u32 Z.pref, .int .u32 Z.aas, .int .u32 Z.aid, .slice B6 m6 d6] [] [.int .i64 0, .int .i64 0, .slice none 0 0, .int .u32 0, .int .u32 0, .int .u32 0, .int .u32 0, .int .u32 0, .slice none 0 0] HZ1.out rfl : Blk wF (w.heap.size + 1) 28 #[.int .i64 Z.has, .int .i64 Z.org, .slice A6 n6 c6, .int .u32 Z.hop, .int .u32 Z.med, .int .u32 Z.pref, .int .u32 Z.aas, .int .u32 Z.aid, .slice B6 m6 d6])
  have HFc : Hid (ChgS (fun k => k = w.heap.size + 1) w1 wF) := hide (hwF ▸ chg_sets (S := fun k => k = w.heap.size + 1) rfl [.int .i64 Z.has, .int .i64 Z.org, .slice A6 n6 c6, .int .u32 Z.hop, .int .u32 Z.med, .int .u32 Z.pref, .int .u32 Z.aas, .int .u32 Z.aid, .slice B6 m6 d6] 0)
  have HFb : Hid (Below w.heap.size w wF) := hide (chg_to_below (chg_trans (chg_below (S := fun k => w.heap.size ≤ k) HB1.out) HFc.out (fun k h => .inl (by omega))) (Nat.le_refl _) (fun k h => h))
  rw [hwF]
  clear hwF zf z0 z1 z2 z3 z4 z5 z6 z7 z8
  have q0 : wF.cell? ⟨w.heap.size + 1, 0, none⟩ = some (.int .i64 Z.has) := HFk.out.cell 0
  have q1 : wF.cell? ⟨w.heap.size + 1, 1, none⟩ = some (.int .i64 Z.org) := HFk.out.cell 1
  have q2 : wF.cell? ⟨w.heap.size + 1, 2, none⟩ = some (.slice A6 n6 c6) := HFk.out.cell 2
  have q3 : wF.cell? ⟨w.heap.size + 1, 3, none⟩ = some (.int .u32 Z.hop) := HFk.out.cell 3
  have q4 : wF.cell? ⟨w.heap.size + 1, 4, none⟩ = some (.int .u32 Z.med) := HFk.out.cell 4
  have q5 : wF.cell? ⟨w.heap.size + 1, 5, none⟩ = some (.int .u32 Z.pref) := HFk.out.cell 5
  have q6 : wF.cell? ⟨w.heap.size + 1, 6, none⟩ = some (.int .u32 Z.aas) := HFk.out.cell 6
  have q7 : wF.cell? ⟨w.heap.size + 1, 7, none⟩ = some (.int .u32 Z.aid) := HFk.out.cell 7
  have q8 : wF.cell? ⟨w.heap.size + 1, 8, none⟩ = some (.slice B6 m6 d6) := HFk.out.cell 8
  have hAF := ato_chg HAt.out HFc.out (fun k h1 h2 h3 => by have := HS0.out; omega)
  have hAC : AtO w.heap.size wF Z (.agg #[.int .i64 Z.has, .int .i64 Z.org, .slice A6 n6 c6, .int .u32 Z.hop, .int .u32 Z.med, .int .u32 Z.pref, .int .u32 Z.aas, .int .u32 Z.aid, .slice B6 m6 d6]) := hAF.less (by have := HS0.out; omega)
  refine bodyPost_ret (v := .tuple #[.agg #[.int .i64 Z.has, .int .i64 Z.org, .slice A6 n6 c6, .int .u32 Z.hop, .int .u32 Z.med, .int .u32 Z.pref, .int .u32 Z.aas, .int .u32 Z.aid, .slice B6 m6 d6], .bool b]) (by simp [results, Tryz.results99, go_sem, q0, q1, q2, q3, q4, q5, q6, q7, q8]) rfl ⟨_, rfl, hAC, HFb.out⟩
end Go.Proofs.YtcinjckajnnhmaaGreat
set_option linter.unusedSimpArgs false
set_option linter.unusedVariables false
namespace Go.Proofs.YtcinjckajnnhmaaGreat
open Go.RowKit Go.WideShapes Go.ChangeShapes
attribute [local go_sem] Oper.semAt_some
set_option maxRecDepth 100000 in
set_option maxHeartbeats 4000000 in
theorem feed_nil (A1 A2 A B : Option Addr) (n1 c1 n2 c2 n c m d : Nat) (X : AT) (w : World) : Calls Tryz.prog 43 #[.pointer none, .agg #[.slice A1 n1 c1, .int .i64 X.has, .int .i64 X.org, .slice A n c, .int .u32 X.hop, .int .u32 X.med, .int .u32 X.pref, .int .u32 X.aas, .int .u32 X.aid, .slice B m d, .slice A2 n2 c2]] w fun e w' => e = .returned (.tuple #[.slice none 0 0, .bool false]) ∧ Below w.heap.size w w' := by
  have HB := hide (blkBelow1 w (.cells #[.slice A1 n1 c1, .int .i64 X.has, .int .i64 X.org, .slice A n c, .int .u32 X.hop, .int .u32 X.med, .int .u32 X.pref, .int .u32 X.aas, .int .u32 X.aid, .slice B m d, .slice A2 n2 c2] 81))
  go_enter Tryz.func43, Tryz.ntmps43
  go_wp2
  refine bodyPost_ret (v := .tuple #[.slice none 0 0, .bool false]) (by simp [results, Tryz.results43, go_sem]) rfl ⟨rfl, HB.out⟩
set_option maxRecDepth 100000 in
set_option maxHeartbeats 4000000 in
theorem ribget_nil (a b : Int) (w : World) : Calls Tryz.prog 96 #[.pointer none, .agg #[.int .u32 a, .int .i64 b]] w fun e w' => e = .returned (.tuple #[.agg #[.int .i64 0, .int .i64 0, .slice none 0 0, .int .u32 0, .int .u32 0, .int .u32 0, .int .u32 0, .int .u32 0, .slice none 0 0], .bool false]) ∧ Below w.heap.size w w' := by
  have HB := hide (blkBelow2 w (.cells #[.int .u32 a, .int .i64 b] 24) (.cells #[.int .i64 0, .int .i64 0, .slice none 0 0, .int .u32 0, .int .u32 0, .int .u32 0, .int .u32 0, .int .u32 0, .slice none 0 0] 28))
  go_enter Tryz.func96, Tryz.ntmps96
  go_wp2
  refine bodyPost_ret (v := .tuple #[.agg #[.int .i64 0, .int .i64 0, .slice none 0 0, .int .u32 0, .int .u32 0, .int .u32 0, .int .u32 0, .int .u32 0, .slice none 0 0], .bool false]) (by simp [results, Tryz.results96, go_sem]) rfl ⟨rfl, HB.out⟩
set_option maxRecDepth 100000 in
set_option maxHeartbeats 4000000 in
theorem ribGet_nil (a b : Int) (w : World) : Calls Tryz.prog 45 #[.pointer none, .agg #[.int .u32 a, .int .i64 b]] w fun e w' => e = .returned (.tuple #[.agg #[.int .i64 0, .int .i64 0, .slice none 0 0, .int .u32 0, .int .u32 0, .int .u32 0, .int .u32 0, .int .u32 0, .slice none 0 0], .bool false]) ∧ Below w.heap.size w w' := by
  have H := hide (fun W => ribget_nil a b W)
  obtain ⟨w0, hw0⟩ : ∃ w0, (w.alloc (.cells #[.int .u32 a, .int .i64 b] 24)).alloc (.cells #[.int .i64 0, .int .i64 0, .slice none 0 0, .int .u32 0, .int .u32 0, .int .u32 0, .int .u32 0, .int .u32 0, .slice none 0 0] 28) = w0 := ⟨_, rfl⟩
  have hb0 : Below w.heap.size w w0 := hw0 ▸ blkBelow2 w _ _
  have HZ : Hid (Blk w0 (w.heap.size + 1) 28 #[.int .i64 0, .int .i64 0, .slice none 0 0, .int .u32 0, .int .u32 0, .int .u32 0, .int .u32 0, .int .u32 0, .slice none 0 0]) := hide (hw0 ▸ blk_new' _ _ (by simp))
  have HB0 := hide hb0
  have HW0 := hide hw0
  have HZl : Hid (w.heap.size + 1 < w0.heap.size) := hide HZ.out.lt
  have HX : Hid (Blk w0 w.heap.size 24 #[.int .u32 a, .int .i64 b]) := hide (hw0 ▸ (Blk.new w _ _).alloc _)
  have x0 : w0.cell? ⟨w.heap.size, 0, none⟩ = some (.int .u32 a) := HX.out.cell 0
  have x1 : w0.cell? ⟨w.heap.size, 1, none⟩ = some (.int .i64 b) := HX.out.cell 1
  clear hw0 hb0
  go_enter Tryz.func45, Tryz.ntmps45
  go_wp2_with fail
  rw [HW0.out]
  refine (H.out _).mono ?_
  rintro e w1 ⟨rfl, hb1⟩
  have HB1 := hide (HB0.out.trans (hb1.mono HB0.out.size))
  have HZ1 := hide (HZ.out.below hb1 HZ.out.lt)
  have hs1 := hb1.size
  clear hb1 hs1 x0 x1
  have z0 : w1.cell? ⟨w.heap.size + 1, 0, none⟩ = some (.int .i64 0) := HZ1.out.cell 0
  have z1 : w1.cell? ⟨w.heap.size + 1, 1, none⟩ = some (.int .i64 0) := HZ1.out.cell 1
  have z2 : w1.cell? ⟨w.heap.size + 1, 2, none⟩ = some (.slice none 0 0) := HZ1.out.cell 2
  have z3 : w1.cell? ⟨w.heap.size + 1, 3, none⟩ = some (.int .u32 0) := HZ1.out.cell 3
  have z4 : w1.cell? ⟨w.heap.size + 1, 4, none⟩ = some (.int .u32 0) := HZ1.out.cell 4
  have z5 : w1.cell? ⟨w.heap.size + 1, 5, none⟩ = some (.int .u32 0) := HZ1.out.cell 5
  have z6 : w1.cell? ⟨w.heap.size + 1, 6, none⟩ = some (.int .u32 0) := HZ1.out.cell 6
  have z7 : w1.cell? ⟨w.heap.size + 1, 7, none⟩ = some (.int .u32 0) := HZ1.out.cell 7
  have z8 : w1.cell? ⟨w.heap.size + 1, 8, none⟩ = some (.slice none 0 0) := HZ1.out.cell 8
  have zf := fun i => HZ1.out.frozen i
  go_wp2
  change bodyPost _ _ _ _ _ (w1.setCells (w.heap.size + 1) 0 [.int .i64 0, .int .i64 0, .slice none 0 0, .int .u32 0, .int .u32 0, .int .u32 0, .int .u32 0, .int .u32 0, .slice none 0 0])
  obtain ⟨wF, hwF⟩ : ∃ x, w1.setCells (w.heap.size + 1) 0 [.int .i64 0, .int .i64 0, .slice none 0 0, .int .u32 0, .int .u32 0, .int .u32 0, .int .u32 0, .int .u32 0, .slice none 0 0] = x := ⟨_, rfl⟩
  have HFk := hide (hwF ▸ blk_sets [.int .i64 0, .int .i64 0, .slice none 0 0, .int .u32 0, .int .u32 0, .int .u32 0, .int .u32 0, .int .u32 0, .slice none 0 0] [] [.int .i64 0, .int .i64 0, .slice none 0 0, .int .u32 0, .int .u32 0, .int .u32 0, .int .u32 0, .int .u32 0, .slice none 0 0] (HZ1.out) rfl : Blk wF (w.heap.size + 1) 28 #[.int .i64 0, .int .i64 0, .slice none 0 0, .int .u32 0, .int .u32 0, .int .u32 0, .int .u32 0, .int .u32 0, .slice none 0 0])
  have HFb : Hid (Below w.heap.size w wF) := hide (hwF ▸ below_clear (by omega) _ _ HB1.out)
  rw [hwF]
  clear hwF zf z0 z1 z2 z3 z4 z5 z6 z7 z8
  have q0 : wF.cell? ⟨w.heap.size + 1, 0, none⟩ = some (.int .i64 0) := HFk.out.cell 0
  have q1 : wF.cell? ⟨w.heap.size + 1, 1, none⟩ = some (.int .i64 0) := HFk.out.cell 1
  have q2 : wF.cell? ⟨w.heap.size + 1, 2, none⟩ = some (.slice none 0 0) := HFk.out.cell 2
  have q3 : wF.cell? ⟨w.heap.size + 1, 3, none⟩ = some (.int .u32 0) := HFk.out.cell 3
  have q4 : wF.cell? ⟨w.heap.size + 1, 4, none⟩ = some (.int .u32 0) := HFk.out.cell 4
  have q5 : wF.cell? ⟨w.heap.size + 1, 5, none⟩ = some (.int .u32 0) := HFk.out.cell 5
  have q6 : wF.cell? ⟨w.heap.size + 1, 6, none⟩ = some (.int .u32 0) := HFk.out.cell 6
  have q7 : wF.cell? ⟨w.heap.size + 1, 7, none⟩ = some (.int .u32 0) := HFk.out.cell 7
  have q8 : wF.cell? ⟨w.heap.size + 1, 8, none⟩ = some (.slice none 0 0) := HFk.out.cell 8
  refine bodyPost_ret (v := .tuple #[.agg #[.int .i64 0, .int .i64 0, .slice none 0 0, .int .u32 0, .int .u32 0, .int .u32 0, .int .u32 0, .int .u32 0, .slice none 0 0], .bool false]) (by simp [results, Tryz.results45, go_sem, q0, q1, q2, q3, q4, q5, q6, q7, q8]) rfl ⟨rfl, HFb.out⟩
set_option maxRecDepth 100000 in
set_option maxHeartbeats 4000000 in
theorem ribImp_nil (a b : Int) (w : World) : Calls Tryz.prog 60 #[.pointer none, .agg #[.slice none 0 0, .slice none 0 0, .slice none 0 0, .slice none 0 0], .agg #[.int .u32 a, .int .i64 b]] w fun e w' => e = .returned (.tuple #[.agg #[.int .i64 0, .int .i64 0, .slice none 0 0, .int .u32 0, .int .u32 0, .int .u32 0, .int .u32 0, .int .u32 0, .slice none 0 0], .bool false]) ∧ Below w.heap.size w w' := by
  have H := hide (fun W => ribget_nil a b W)
  obtain ⟨w0, hw0⟩ : ∃ w0, ((w.alloc (.cells #[.slice none 0 0, .slice none 0 0, .slice none 0 0, .slice none 0 0] 38)).alloc (.cells #[.int .u32 a, .int .i64 b] 24)).alloc (.cells #[.int .i64 0, .int .i64 0, .slice none 0 0, .int .u32 0, .int .u32 0, .int .u32 0, .int .u32 0, .int .u32 0, .slice none 0 0] 28) = w0 := ⟨_, rfl⟩
  have hb0 : Below w.heap.size w w0 := hw0 ▸ blkBelow3q w _ _ _
  have HZ : Hid (Blk w0 (w.heap.size + 1 + 1) 28 #[.int .i64 0, .int .i64 0, .slice none 0 0, .int .u32 0, .int .u32 0, .int .u32 0, .int .u32 0, .int .u32 0, .slice none 0 0]) := hide (hw0 ▸ blk_new' _ _ (by simp))
  have HB0 := hide hb0
  have HW0 := hide hw0
  have HZl : Hid (w.heap.size + 1 + 1 < w0.heap.size) := hide HZ.out.lt
  have HX : Hid (Blk w0 (w.heap.size + 1) 24 #[.int .u32 a, .int .i64 b]) := hide (hw0 ▸ (blk_new' _ _ (by simp)).alloc _)
  have x0 : w0.cell? ⟨w.heap.size + 1, 0, none⟩ = some (.int .u32 a) := HX.out.cell 0
  have x1 : w0.cell? ⟨w.heap.size + 1, 1, none⟩ = some (.int .i64 b) := HX.out.cell 1
  clear hw0 hb0
  go_enter Tryz.func60, Tryz.ntmps60
  go_wp2_with fail
  rw [HW0.out]
  refine (H.out _).mono ?_
  rintro e w1 ⟨rfl, hb1⟩
  have HB1 := hide (HB0.out.trans (hb1.mono HB0.out.size))
  have HZ1 := hide (HZ.out.below hb1 HZ.out.lt)
  have hs1 := hb1.size
  obtain ⟨w2, hw2⟩ : ∃ W, w1.alloc (.cells #[.int .i64 0, .int .i64 0, .slice none 0 0, .int .u32 0, .int .u32 0, .int .u32 0, .int .u32 0, .int .u32 0, .slice none 0 0] 28) = W := ⟨_, rfl⟩
  have HZ2 : Hid (Blk w2 (w.heap.size + 1 + 1) 28 #[.int .i64 0, .int .i64 0, .slice none 0 0, .int .u32 0, .int .u32 0, .int .u32 0, .int .u32 0, .int .u32 0, .slice none 0 0]) := hide (hw2 ▸ HZ1.out.alloc _)
  have HB2 : Hid (Below w.heap.size w w2) := hide (hw2 ▸ HB1.out.alloc HB1.out.size _)
  have HW2 := hide hw2
  clear hw2 hb1 hs1 x0 x1
  go_upto_region 2 with fail
  rw [HW2.out]
  have z0 : w2.cell? ⟨w.heap.size + 1 + 1, 0, none⟩ = some (.int .i64 0) := HZ2.out.cell 0
  have z1 : w2.cell? ⟨w.heap.size + 1 + 1, 1, none⟩ = some (.int .i64 0) := HZ2.out.cell 1
  have z2 : w2.cell? ⟨w.heap.size + 1 + 1, 2, none⟩ = some (.slice none 0 0) := HZ2.out.cell 2
  have z3 : w2.cell? ⟨w.heap.size + 1 + 1, 3, none⟩ = some (.int .u32 0) := HZ2.out.cell 3
  have z4 : w2.cell? ⟨w.heap.size + 1 + 1, 4, none⟩ = some (.int .u32 0) := HZ2.out.cell 4
  have z5 : w2.cell? ⟨w.heap.size + 1 + 1, 5, none⟩ = some (.int .u32 0) := HZ2.out.cell 5
  have z6 : w2.cell? ⟨w.heap.size + 1 + 1, 6, none⟩ = some (.int .u32 0) := HZ2.out.cell 6
  have z7 : w2.cell? ⟨w.heap.size + 1 + 1, 7, none⟩ = some (.int .u32 0) := HZ2.out.cell 7
  have z8 : w2.cell? ⟨w.heap.size + 1 + 1, 8, none⟩ = some (.slice none 0 0) := HZ2.out.cell 8
  have zf := fun i => HZ2.out.frozen i
  go_wp2
  change bodyPost _ _ _ _ _ (w2.setCells (w.heap.size + 1 + 1) 0 [.int .i64 0, .int .i64 0, .slice none 0 0, .int .u32 0, .int .u32 0, .int .u32 0, .int .u32 0, .int .u32 0, .slice none 0 0])
  obtain ⟨wF, hwF⟩ : ∃ x, w2.setCells (w.heap.size + 1 + 1) 0 [.int .i64 0, .int .i64 0, .slice none 0 0, .int .u32 0, .int .u32 0, .int .u32 0, .int .u32 0, .int .u32 0, .slice none 0 0] = x := ⟨_, rfl⟩
  have HFk := hide (hwF ▸ blk_sets [.int .i64 0, .int .i64 0, .slice none 0 0, .int .u32 0, .int .u32 0, .int .u32 0, .int .u32 0, .int .u32 0, .slice none 0 0] [] [.int .i64 0, .int .i64 0, .slice none 0 0, .int .u32 0, .int .u32 0, .int .u32 0, .int .u32 0, .int .u32 0, .slice none 0 0] (HZ2.out) rfl : Blk wF (w.heap.size + 1 + 1) 28 #[.int .i64 0, .int .i64 0, .slice none 0 0, .int .u32 0, .int .u32 0, .int .u32 0, .int .u32 0, .int .u32 0, .slice none 0 0])
  have HFb : Hid (Below w.heap.size w wF) := hide (hwF ▸ below_clear (by omega) _ _ HB2.out)
  rw [hwF]
  clear hwF zf z0 z1 z2 z3 z4 z5 z6 z7 z8
  have q0 : wF.cell? ⟨w.heap.size + 1 + 1, 0, none⟩ = some (.int .i64 0) := HFk.out.cell 0
  have q1 : wF.cell? ⟨w.heap.size + 1 + 1, 1, none⟩ = some (.int .i64 0) := HFk.out.cell 1
  have q2 : wF.cell? ⟨w.heap.size + 1 + 1, 2, none⟩ = some (.slice none 0 0) := HFk.out.cell 2
  have q3 : wF.cell? ⟨w.heap.size + 1 + 1, 3, none⟩ = some (.int .u32 0) := HFk.out.cell 3
  have q4 : wF.cell? ⟨w.heap.size + 1 + 1, 4, none⟩ = some (.int .u32 0) := HFk.out.cell 4
  have q5 : wF.cell? ⟨w.heap.size + 1 + 1, 5, none⟩ = some (.int .u32 0) := HFk.out.cell 5
  have q6 : wF.cell? ⟨w.heap.size + 1 + 1, 6, none⟩ = some (.int .u32 0) := HFk.out.cell 6
  have q7 : wF.cell? ⟨w.heap.size + 1 + 1, 7, none⟩ = some (.int .u32 0) := HFk.out.cell 7
  have q8 : wF.cell? ⟨w.heap.size + 1 + 1, 8, none⟩ = some (.slice none 0 0) := HFk.out.cell 8
  refine bodyPost_ret (v := .tuple #[.agg #[.int .i64 0, .int .i64 0, .slice none 0 0, .int .u32 0, .int .u32 0, .int .u32 0, .int .u32 0, .int .u32 0, .slice none 0 0], .bool false]) (by simp [results, Tryz.results60, go_sem, q0, q1, q2, q3, q4, q5, q6, q7, q8]) rfl ⟨rfl, HFb.out⟩
end Go.Proofs.YtcinjckajnnhmaaGreat
set_option linter.unusedSimpArgs false
set_option linter.unusedVariables false
namespace Go.Proofs.YtcinjckajnnhmaaGreat
open Go.RowKit Go.WideShapes Go.ChangeShapes
attribute [local go_sem] Oper.semAt_some
set_option maxRecDepth 100000 in
theorem riball_nil (w : World) : Calls Tryz.prog 118 #[.pointer none] w fun e w' => e = .returned (.slice none 0 0) ∧ w' = w := by
  go_enter Tryz.func118, Tryz.ntmps118
  go_wp2
  go_ret
  exact ⟨rfl, rfl⟩
set_option maxRecDepth 100000 in
theorem ribAll_nil (w : World) : Calls Tryz.prog 62 #[.pointer none] w fun e w' => e = .returned (.slice none 0 0) ∧ w' = w := by
  have H := hide (riball_nil w)
  go_enter Tryz.func62, Tryz.ntmps62
  go_wp2_with fail
  refine H.out.mono ?_
  rintro e w1 ⟨rfl, rfl⟩
  go_wp2
  go_ret
  exact ⟨rfl, rfl⟩
set_option maxRecDepth 100000 in
theorem ribLen_nil (w : World) : Calls Tryz.prog 63 #[.pointer none] w fun e w' => e = .returned (.int .i64 0) ∧ w' = w := by
  go_enter Tryz.func63, Tryz.ntmps63
  go_wp2
  go_ret
  exact ⟨rfl, rfl⟩
set_option maxRecDepth 100000 in
theorem ribClear_nil (w : World) : Calls Tryz.prog 64 #[.pointer none] w fun e w' => e = .returned (.slice none 0 0) ∧ w' = w := by
  have H := hide (riball_nil w)
  go_enter Tryz.func64, Tryz.ntmps64
  go_wp2_with fail
  refine H.out.mono ?_
  rintro e w1 ⟨rfl, rfl⟩
  go_wp2
  go_ret
  exact ⟨rfl, rfl⟩
set_option maxRecDepth 100000 in
theorem ribSet_nil (w : World) : Calls Tryz.prog 61 #[.pointer none, .agg #[.int .u32 0, .int .u32 0, .int .i64 0, .bool false, .string ⟨#[]⟩, .string ⟨#[]⟩, .string ⟨#[]⟩, .bool false, .string ⟨#[]⟩, .string ⟨#[]⟩, .string ⟨#[]⟩, .bool false]] w fun e w' => e = .returned (.tuple #[]) ∧ Below w.heap.size w w' := by
  have HB := hide (blkBelow1 w (.cells #[.int .u32 0, .int .u32 0, .int .i64 0, .bool false, .string ⟨#[]⟩, .string ⟨#[]⟩, .string ⟨#[]⟩, .bool false, .string ⟨#[]⟩, .string ⟨#[]⟩, .string ⟨#[]⟩, .bool false] 79))
  go_enter Tryz.func61, Tryz.ntmps61
  go_wp2
  refine bodyPost_end (results_none rfl _ _ _) rfl ?_
  exact ⟨rfl, HB.out⟩
set_option maxRecDepth 100000 in
set_option maxHeartbeats 4000000 in
theorem ribinNew_any (own ax : Nat) (w : World) : Calls Tryz.prog 41 #[.int .u32 (own : Int), .agg #[.int .u32 0, .int .u32 (ax : Int), .int .i64 0, .bool false, .string ⟨#[]⟩, .string ⟨#[]⟩, .string ⟨#[]⟩, .bool false, .string ⟨#[]⟩, .string ⟨#[]⟩, .string ⟨#[]⟩, .bool false]] w fun e w' => ∃ R g, e = .returned (.pointer (some ⟨R, 0, none⟩)) ∧ Blk w' R 126 #[.int .u32 (own : Int), .int .u32 0, .int .u32 (ax : Int), .int .i64 0, .bool false, .string ⟨#[]⟩, .string ⟨#[]⟩, .string ⟨#[]⟩, .bool false, .string ⟨#[]⟩, .string ⟨#[]⟩, .string ⟨#[]⟩, .bool false, .pointer (some ⟨g, 0, none⟩)] ∧ Blk w' g 201 #[.pointer none] ∧ w.heap.size ≤ g ∧ g < R ∧ Below w.heap.size w w' := by
  obtain ⟨w1, hw1⟩ : ∃ w1, w.alloc (.cells #[.int .u32 0, .int .u32 (ax : Int), .int .i64 0, .bool false, .string ⟨#[]⟩, .string ⟨#[]⟩, .string ⟨#[]⟩, .bool false, .string ⟨#[]⟩, .string ⟨#[]⟩, .string ⟨#[]⟩, .bool false] 79) = w1 := ⟨_, rfl⟩
  have hb1 : Below w.heap.size w w1 := hw1 ▸ blkBelow1 w _
  have HK : Hid (Blk w1 w.heap.size 79 #[.int .u32 0, .int .u32 (ax : Int), .int .i64 0, .bool false, .string ⟨#[]⟩, .string ⟨#[]⟩, .string ⟨#[]⟩, .bool false, .string ⟨#[]⟩, .string ⟨#[]⟩, .string ⟨#[]⟩, .bool false]) := hide (hw1 ▸ Blk.new w _ _)
  have HB1 := hide hb1
  have HW1 := hide hw1
  clear hw1 hb1
  go_enter Tryz.func41, Tryz.ntmps41
  go_upto_region 1 with fail
  rw [HW1.out]
  have Hmn := hide (show AllMono [(fun v _ => v = .int .u32 (own : Int)), (fun v _ => v = .agg #[.int .u32 0, .int .u32 (ax : Int), .int .i64 0, .bool false, .string ⟨#[]⟩, .string ⟨#[]⟩, .string ⟨#[]⟩, .bool false, .string ⟨#[]⟩, .string ⟨#[]⟩, .string ⟨#[]⟩, .bool false]), (fun v W => ∃ g, v = .pointer (some ⟨g, 0, none⟩) ∧ Blk W g 201 #[.pointer none] ∧ w1.heap.size ≤ g), (fun v W => ∃ g, v = .agg #[.int .u32 (own : Int), .int .u32 0, .int .u32 (ax : Int), .int .i64 0, .bool false, .string ⟨#[]⟩, .string ⟨#[]⟩, .string ⟨#[]⟩, .bool false, .string ⟨#[]⟩, .string ⟨#[]⟩, .string ⟨#[]⟩, .bool false, .pointer (some ⟨g, 0, none⟩)] ∧ Blk W g 201 #[.pointer none] ∧ w1.heap.size ≤ g), (fun v W => ∃ R g, v = .pointer (some ⟨R, 0, none⟩) ∧ Blk W R 126 #[.int .u32 (own : Int), .int .u32 0, .int .u32 (ax : Int), .int .i64 0, .bool false, .string ⟨#[]⟩, .string ⟨#[]⟩, .string ⟨#[]⟩, .bool false, .string ⟨#[]⟩, .string ⟨#[]⟩, .string ⟨#[]⟩, .bool false, .pointer (some ⟨g, 0, none⟩)] ∧ Blk W g 201 #[.pointer none] ∧ w1.heap.size ≤ g ∧ g < R)] from ⟨fun _ _ _ _ h => h, fun _ _ _ _ h => h, fun v w2 w3 hb ⟨g, e, h1, h2⟩ => ⟨g, e, h1.below hb h1.lt, h2⟩, fun v w2 w3 hb ⟨g, e, h1, h2⟩ => ⟨g, e, h1.below hb h1.lt, h2⟩, fun v w2 w3 hb ⟨R, g, e, h1, h2, h3, h4⟩ => ⟨R, g, e, h1.below hb h1.lt, h2.below hb h2.lt, h3, h4⟩, trivial⟩)
  refine wp_region_relT 5 _ (by kernel_rfl) (by kernel_rfl) (by kernel_rfl) (by kernel_rfl) (by kernel_rfl) (relMono _ Hmn.out) ⟨?_, ?_, ?_, ?_, ?_, trivial⟩ ?_
  · refine relStep_plain rfl ?_
    intro Ac w5 hp
    have hb := hp.bel
    have a0 : Ac.eval (.tmp 0) = .int .u32 (own : Int) := hp.out 0 (by rfl)
    have hc := evalC Ac; have hf := evalF Ac; have hgl := evalG Ac
    obtain ⟨ρ, hρ⟩ : ∃ ρ, Ac.eval = ρ := ⟨_, rfl⟩
    rw [hρ] at a0 hc hf hgl
    exact relPure hρ (.int .u32 (own : Int)) (by simp [go_sem, hc, hf, hgl, ↓IntWalk.iteOmega, a0, *]) rfl
  · refine relStep_plain rfl ?_
    intro Ac w5 hp
    have hb := hp.bel
    have a3 : Ac.eval (.tmp 3) = .pointer (some ⟨w.heap.size, 0, none⟩) := hp.out 3 (by rfl)
    have hx5 := HK.out.below hb HK.out.lt
    have z0 : w5.cell? ⟨w.heap.size, 0, none⟩ = some (.int .u32 0) := hx5.cell 0
    have z1 : w5.cell? ⟨w.heap.size, 1, none⟩ = some (.int .u32 (ax : Int)) := hx5.cell 1
    have z2 : w5.cell? ⟨w.heap.size, 2, none⟩ = some (.int .i64 0) := hx5.cell 2
    have z3 : w5.cell? ⟨w.heap.size, 3, none⟩ = some (.bool false) := hx5.cell 3
    have z4 : w5.cell? ⟨w.heap.size, 4, none⟩ = some (.string ⟨#[]⟩) := hx5.cell 4
    have z5 : w5.cell? ⟨w.heap.size, 5, none⟩ = some (.string ⟨#[]⟩) := hx5.cell 5
    have z6 : w5.cell? ⟨w.heap.size, 6, none⟩ = some (.string ⟨#[]⟩) := hx5.cell 6
    have z7 : w5.cell? ⟨w.heap.size, 7, none⟩ = some (.bool false) := hx5.cell 7
    have z8 : w5.cell? ⟨w.heap.size, 8, none⟩ = some (.string ⟨#[]⟩) := hx5.cell 8
    have z9 : w5.cell? ⟨w.heap.size, 9, none⟩ = some (.string ⟨#[]⟩) := hx5.cell 9
    have z10 : w5.cell? ⟨w.heap.size, 10, none⟩ = some (.string ⟨#[]⟩) := hx5.cell 10
    have z11 : w5.cell? ⟨w.heap.size, 11, none⟩ = some (.bool false) := hx5.cell 11
    have hc := evalC Ac; have hf := evalF Ac; have hgl := evalG Ac
    obtain ⟨ρ, hρ⟩ : ∃ ρ, Ac.eval = ρ := ⟨_, rfl⟩
    rw [hρ] at a3 hc hf hgl
    exact relPure hρ (.agg #[.int .u32 0, .int .u32 (ax : Int), .int .i64 0, .bool false, .string ⟨#[]⟩, .string ⟨#[]⟩, .string ⟨#[]⟩, .bool false, .string ⟨#[]⟩, .string ⟨#[]⟩, .string ⟨#[]⟩, .bool false]) (by simp [go_sem, hc, hf, hgl, ↓IntWalk.iteOmega, a3, *]) rfl
  · refine relStep_plain rfl ?_
    intro Ac w5 hp
    have hb := hp.bel
    have hc := evalC Ac; have hf := evalF Ac; have hgl := evalG Ac
    obtain ⟨ρ, hρ⟩ : ∃ ρ, Ac.eval = ρ := ⟨_, rfl⟩
    rw [hρ] at hc hf hgl
    refine relCall hρ 78 #[] (by simp [go_sem, hc, hf, hgl, ↓IntWalk.iteOmega, *]) ?_
    refine (newA_any w5).mono ?_
    rintro e w6 ⟨rfl, hk6, hb6⟩
    exact ⟨_, rfl, ⟨_, rfl, hk6, hb.size⟩, hb6⟩
  · refine relStep_plain rfl ?_
    intro Ac w5 hp
    have hb := hp.bel
    have a5 : Ac.eval (.tmp 5) = .int .u32 (own : Int) := hp.dep 0 (by kernel_rfl)
    have a6 : Ac.eval (.tmp 6) = .agg #[.int .u32 0, .int .u32 (ax : Int), .int .i64 0, .bool false, .string ⟨#[]⟩, .string ⟨#[]⟩, .string ⟨#[]⟩, .bool false, .string ⟨#[]⟩, .string ⟨#[]⟩, .string ⟨#[]⟩, .bool false] := hp.dep 1 (by kernel_rfl)
    obtain ⟨g7, a7, hk7, hg7⟩ := hp.dep 2 (by kernel_rfl)
    change Ac.eval (.tmp 7) = _ at a7
    have hc := evalC Ac; have hf := evalF Ac; have hgl := evalG Ac
    obtain ⟨ρ, hρ⟩ : ∃ ρ, Ac.eval = ρ := ⟨_, rfl⟩
    rw [hρ] at a5 a6 a7 hc hf hgl
    exact relPure hρ (.agg #[.int .u32 (own : Int), .int .u32 0, .int .u32 (ax : Int), .int .i64 0, .bool false, .string ⟨#[]⟩, .string ⟨#[]⟩, .string ⟨#[]⟩, .bool false, .string ⟨#[]⟩, .string ⟨#[]⟩, .string ⟨#[]⟩, .bool false, .pointer (some ⟨g7, 0, none⟩)]) (by simp [go_sem, hc, hf, hgl, ↓IntWalk.iteOmega, a5, a6, a7, *]) ⟨g7, rfl, hk7, hg7⟩
  · refine relStep_plain rfl ?_
    intro Ac w5 hp
    have hb := hp.bel
    obtain ⟨g8, a8, hk8, hg8⟩ := hp.dep 3 (by kernel_rfl)
    change Ac.eval (.tmp 8) = _ at a8
    have hc := evalC Ac; have hf := evalF Ac; have hgl := evalG Ac
    obtain ⟨ρ, hρ⟩ : ∃ ρ, Ac.eval = ρ := ⟨_, rfl⟩
    rw [hρ] at a8 hc hf hgl
    exact relVal hρ (.pointer (some ⟨w5.heap.size, 0, none⟩)) (w5.alloc (.cells #[.int .u32 (own : Int), .int .u32 0, .int .u32 (ax : Int), .int .i64 0, .bool false, .string ⟨#[]⟩, .string ⟨#[]⟩, .string ⟨#[]⟩, .bool false, .string ⟨#[]⟩, .string ⟨#[]⟩, .string ⟨#[]⟩, .bool false, .pointer (some ⟨g8, 0, none⟩)] 126)) (by simp [go_sem, hc, hf, hgl, ↓IntWalk.iteOmega, a8]) ⟨w5.heap.size, g8, rfl, Blk.new w5 _ _, hk8.alloc _, hg8, hk8.lt⟩ ((Below.refl _ _).alloc (Nat.le_refl _) _)
  intro u w8 hb7 hall
  obtain ⟨R9, g9, e9, hR9, hk9, hg9, hl9⟩ := relAll_at hall (i := 4) (by decide +kernel)
  change u 4 = _ at e9
  clear hall
  simp only [List.drop_succ_cons, List.drop_zero, List.take_succ_cons, List.take_zero, putAll, Act.put, List.setIfInBounds_toArray, List.set_cons_zero, List.set_cons_succ, Nat.zero_add, Nat.reduceAdd, e9]
  have HB8 := hide (HB1.out.trans (hb7.mono HB1.out.size))
  have HR9 := hide hR9
  have HK9 := hide hk9
  have hg := Nat.le_trans HB1.out.size hg9
  clear hb7 hR9 hk9
  go_wp2
  go_ret
  exact ⟨R9, g9, rfl, HR9.out, HK9.out, hg, hl9, HB8.out⟩
end Go.Proofs.YtcinjckajnnhmaaGreat
set_option linter.unusedSimpArgs false
set_option linter.unusedVariables false
namespace Go.Proofs.YtcinjckajnnhmaaGreat
open Go.RowKit Go.WideShapes Go.ChangeShapes
/-- Attributes handed back with a word, told apart from a block: what lies behind them says nothing of it. -/
def OkM (X : AT) (b : Bool) (v : Value) (ob : Option Nat) (w : World) : Prop := ∃ A n c xs B m d, v = .tuple #[atV X.has X.org A n c X.hop X.med X.pref X.aas X.aid B m d, .bool b] ∧
  w.ownsRow 0 133 2 (.slice A n c) n xs ∧ Chunks 2 (fun w vs x => FrB 0 ob (fun w => sgR w vs x) w) w xs X.path ∧ FrB 0 ob (fun w => U32s w B m d X.comms) w
theorem grownBy_set (w : World) (R i : Nat) (v : Value) : w.grownBy (w.setCell ⟨R, i, none⟩ v) (some R) :=
  ⟨rfl, rfl, rfl, Nat.le_of_eq (by simp), fun k _ hk => Below.heap_setCell _ _ _ k (fun e => hk (by rw [e]))⟩
section
variable {X : AT} {b : Bool} {v : Value} {ob : Option Nat} {w w' : World} {R B0 : Nat}
theorem OkM.below (h : OkM X b v ob w) (hb : Below w.heap.size w w') : OkM X b v ob w' := by
  obtain ⟨A, n, c, xs, B, m, d, e, h1, h2, h3⟩ := h
  exact ⟨A, n, c, xs, B, m, d, e, own_kept h1 hb, chunks_fr_below h2 hb, h3.below hb⟩
theorem fr_any {S : World → Prop} (h : FrB B0 none S w) (hob : ∀ k, ob = some k → k < B0) : FrB 0 ob S w := by
  intro w' ha
  exact h w' ⟨ha.1, fun k o hk ho hc _ => ha.2 k o (Nat.zero_le _) ho hc (fun e => by have := hob k e.symm; omega)⟩
/-- Of what lies from B0 on: apart from a block below. -/
theorem OkM.of_low (h : AtO B0 w X v) (hob : ∀ k, ob = some k → k < B0) : OkM X b (.tuple #[v, .bool b]) ob w := by
  obtain ⟨A, n, c, xs, B, m, d, rfl, h1, h2⟩ := h
  exact ⟨A, n, c, xs, B, m, d, rfl, own_baseLe h1.1 (Nat.zero_le _), ⟨h1.2.1, fun k x hx => fr_any (FrB.none_ (h1.2.2 k x hx)) hob⟩, fr_any h2 hob⟩
theorem fr_newer {S : World → Prop} (h : FrB 0 none S w) (hb : Below w.heap.size w w') (hob : w.heap.size ≤ R) : FrB 0 (some R) S w' := fr_new h hb (fun k e => by cases e; exact hob)
/-- A block comes to memory behind: apart from that. -/
theorem OkM.new (h : OkM X b v none w) (hb : Below w.heap.size w w') (hR : w.heap.size ≤ R) : OkM X b v (some R) w' := by
  obtain ⟨A, n, c, xs, B, m, d, e, h1, h2, h3⟩ := h
  exact ⟨A, n, c, xs, B, m, d, e, own_kept h1 hb, ⟨h2.1, fun k x hx => fr_newer (h2.2 k x hx) hb hR⟩, fr_newer h3 hb hR⟩
theorem own_setsT {base e size n H : Nat} {u : Value} {xs : List Value} {t : TypeId} {cs : Array Value} (hne : e ≠ t) : ∀ (vs : List Value) (i : Nat) {w : World} {cs : Array Value}, w.ownsRow base e size u n xs → Blk w H t cs → (w.setCells H i vs).ownsRow base e size u n xs
  | [], _, _, _, h, _ => h
  | v :: vs, i, _, _, h, hk => own_setsT hne vs (i + 1) (own_set h (own_blk_ne h hk hne) v) (hk.set_ i v) (cs := cs)
theorem fr_sets {S : World → Prop} : ∀ (vs : List Value) (i : Nat) {w : World}, FrB 0 (some R) S w → FrB 0 (some R) S (w.setCells R i vs)
  | [], _, _, h => h
  | v :: vs, i, w, h => fr_sets vs (i + 1) (h.ag (AgB.grown (grownBy_set w R i v)))
theorem OkM.sets {vs : List Value} {cs : Array Value} (h : OkM X b v (some R) w) (hk : Blk w R 28 cs) : OkM X b v (some R) (w.setCells R 0 vs) := by
  obtain ⟨A, n, c, xs, B, m, d, e, h1, h2, h3⟩ := h
  exact ⟨A, n, c, xs, B, m, d, e, own_setsT (cs := cs) (by decide) vs 0 h1 hk, ⟨h2.1, fun k x hx => fr_sets vs 0 (h2.2 k x hx)⟩, fr_sets vs 0 h3⟩
theorem OkM.rd (h : OkM X b v ob w) : ∃ u, v = .tuple #[u, .bool b] ∧ AtR w X u := by
  obtain ⟨A, n, c, xs, B, m, d, e, h1, h2, h3⟩ := h
  exact ⟨_, e, A, n, c, B, m, d, rfl, LstAt.of_own (by decide) h1 ⟨h2.1, fun k x hx => (h2.2 k x hx).here⟩, h3.here⟩
end
/-- What is said of the operations k (the call), k + 1 (its move), k + 2, k + 3 (its parts), k + 4 (the box), k + 5 (the store). -/
structure OkX (k : Nat) (X : AT) (b : Bool) (B0 : Nat) (D : Nat → Bool) (u : Nat → Value) (w : World) : Prop where
  d1 : D (k + 1) = true → D k = true
  d2 : D (k + 2) = true → D k = true
  d3 : D (k + 3) = true → D k = true
  d5 : D (k + 5) = true → D k = true ∧ D (k + 4) = true
  c0 : D k = true → D (k + 4) = false → OkM X b (u k) none w
  c1 : D (k + 1) = true → u (k + 1) = u k
  c2 : D (k + 2) = true → ∃ y z, u k = .tuple #[y, z] ∧ u (k + 2) = y
  c3 : D (k + 3) = true → ∃ y z, u k = .tuple #[y, z] ∧ u (k + 3) = z
  c4 : D (k + 4) = true → ∃ R, u (k + 4) = .pointer (some ⟨R, 0, none⟩) ∧ B0 ≤ R ∧ (∃ cs, Blk w R 28 cs ∧ (D (k + 5) = false → cs = zeroC)) ∧ (D k = true → OkM X b (u k) (some R) w)
  c5 : D (k + 5) = true → ∃ R A n c B m d, u (k + 4) = .pointer (some ⟨R, 0, none⟩) ∧ u k = .tuple #[atV X.has X.org A n c X.hop X.med X.pref X.aas X.aid B m d, .bool b] ∧ Blk w R 28 (atC X.has X.org A n c X.hop X.med X.pref X.aas X.aid B m d)
section
variable {k : Nat} {X : AT} {b : Bool} {B0 : Nat} {D : Nat → Bool} {u : Nat → Value} {w w' : World}
theorem okx_start (u : Nat → Value) (w : World) : OkX k X b B0 (fun _ => false) u w := by
  constructor <;> intro h <;> cases h
theorem okx_below (h : OkX k X b B0 D u w) (hb : Below w.heap.size w w') : OkX k X b B0 D u w' :=
  ⟨h.d1, h.d2, h.d3, h.d5, fun a c => (h.c0 a c).below hb, h.c1, h.c2, h.c3, fun a => by
    obtain ⟨R, e, hR, ⟨cs, hk, hz⟩, hm⟩ := h.c4 a
    exact ⟨R, e, hR, ⟨cs, hk.below hb hk.lt, hz⟩, fun c => (hm c).below hb⟩, fun a => by
    obtain ⟨R, A, n, c, B, m, d, e, e2, hk⟩ := h.c5 a
    exact ⟨R, A, n, c, B, m, d, e, e2, hk.below hb hk.lt⟩⟩
theorem okx_other {i : Nat} (hi : i < k ∨ k + 5 < i) (v : Value) (hb : Below w.heap.size w w') (h : OkX k X b B0 D u w) : OkX k X b B0 (updD D i) (updU u i v) w' := by
  have h' := okx_below h hb
  have e : ∀ j, k ≤ j → j ≤ k + 5 → updD D i j = D j ∧ updU u i v j = u j := fun j h1 h2 => by
    unfold updD updU
    rw [if_neg (by omega), if_neg (by omega)]
    exact ⟨rfl, rfl⟩
  obtain ⟨a0, b0⟩ := e k (by omega) (by omega)
  obtain ⟨a1, b1⟩ := e (k + 1) (by omega) (by omega)
  obtain ⟨a2, b2⟩ := e (k + 2) (by omega) (by omega)
  obtain ⟨a3, b3⟩ := e (k + 3) (by omega) (by omega)
  obtain ⟨a4, b4⟩ := e (k + 4) (by omega) (by omega)
  obtain ⟨a5, b5⟩ := e (k + 5) (by omega) (by omega)
  constructor <;> simp only [a0, a1, a2, a3, a4, a5, b0, b1, b2, b3, b4, b5]
  · exact h'.d1
  · exact h'.d2
  · exact h'.d3
  · exact h'.d5
  · exact h'.c0
  · exact h'.c1
  · exact h'.c2
  · exact h'.c3
  · exact h'.c4
  · exact h'.c5
theorem updD_self (D : Nat → Bool) (i : Nat) : updD D i i = true := by unfold updD; rw [if_pos rfl]
theorem updD_ne (D : Nat → Bool) {i j : Nat} (h : j ≠ i) : updD D i j = D j := by unfold updD; rw [if_neg h]
theorem updU_self (u : Nat → Value) (i : Nat) (v : Value) : updU u i v i = v := by unfold updU; rw [if_pos rfl]
theorem updU_ne (u : Nat → Value) {i j : Nat} (v : Value) (h : j ≠ i) : updU u i v j = u j := by unfold updU; rw [if_neg h]
theorem b_no {p : Prop} {x : Bool} (h : x = false) (h' : x = true) : p := by rw [h] at h'; cases h'
/-- The call. -/
theorem okx_call {y : Value} (h : OkX k X b B0 D u w) (hn : D k = false) (hb : Below w.heap.size w w') (hy : AtO w.heap.size w' X y) : OkX k X b B0 (updD D k) (updU u k (.tuple #[y, .bool b])) w' := by
  constructor <;> simp only [updD_self, updU_self, updD_ne D (show k + 1 ≠ k by omega), updD_ne D (show k + 2 ≠ k by omega), updD_ne D (show k + 3 ≠ k by omega), updD_ne D (show k + 4 ≠ k by omega), updD_ne D (show k + 5 ≠ k by omega), updU_ne u _ (show k + 1 ≠ k by omega), updU_ne u _ (show k + 2 ≠ k by omega), updU_ne u _ (show k + 3 ≠ k by omega), updU_ne u _ (show k + 4 ≠ k by omega)]
  · exact fun _ => trivial
  · exact fun _ => trivial
  · exact fun _ => trivial
  · exact fun e => ⟨trivial, (h.d5 e).2⟩
  · exact fun _ _ => OkM.of_low hy (fun k e => by cases e)
  · exact fun e => b_no hn (h.d1 e)
  · exact fun e => b_no hn (h.d2 e)
  · exact fun e => b_no hn (h.d3 e)
  · intro e
    obtain ⟨R, e1, hR, ⟨cs, hk, hz⟩, hm⟩ := h.c4 e
    exact ⟨R, e1, hR, ⟨cs, hk.below hb hk.lt, hz⟩, fun _ => OkM.of_low hy (fun k e => by cases e; exact hk.lt)⟩
  · exact fun e => b_no hn (h.d5 e).1
theorem okx_move (h : OkX k X b B0 D u w) (hd : D k = true) : OkX k X b B0 (updD D (k + 1)) (updU u (k + 1) (u k)) w := by
  constructor <;> simp only [updD_self, updU_self, updD_ne D (show k ≠ k + 1 by omega), updD_ne D (show k + 2 ≠ k + 1 by omega), updD_ne D (show k + 3 ≠ k + 1 by omega), updD_ne D (show k + 4 ≠ k + 1 by omega), updD_ne D (show k + 5 ≠ k + 1 by omega), updU_ne u _ (show k ≠ k + 1 by omega), updU_ne u _ (show k + 2 ≠ k + 1 by omega), updU_ne u _ (show k + 3 ≠ k + 1 by omega), updU_ne u _ (show k + 4 ≠ k + 1 by omega)]
  · exact fun _ => hd
  · exact h.d2
  · exact h.d3
  · exact h.d5
  · exact h.c0
  · exact fun _ => trivial
  · exact h.c2
  · exact h.c3
  · exact h.c4
  · exact h.c5
theorem okx_ext0 {y z : Value} (h : OkX k X b B0 D u w) (hd : D k = true) (hu : u k = .tuple #[y, z]) : OkX k X b B0 (updD D (k + 2)) (updU u (k + 2) y) w := by
  constructor <;> simp only [updD_self, updU_self, updD_ne D (show k ≠ k + 2 by omega), updD_ne D (show k + 1 ≠ k + 2 by omega), updD_ne D (show k + 3 ≠ k + 2 by omega), updD_ne D (show k + 4 ≠ k + 2 by omega), updD_ne D (show k + 5 ≠ k + 2 by omega), updU_ne u _ (show k ≠ k + 2 by omega), updU_ne u _ (show k + 1 ≠ k + 2 by omega), updU_ne u _ (show k + 3 ≠ k + 2 by omega), updU_ne u _ (show k + 4 ≠ k + 2 by omega)]
  · exact h.d1
  · exact fun _ => hd
  · exact h.d3
  · exact h.d5
  · exact h.c0
  · exact h.c1
  · exact fun _ => ⟨y, z, hu, rfl⟩
  · exact h.c3
  · exact h.c4
  · exact h.c5
theorem okx_ext1 {y z : Value} (h : OkX k X b B0 D u w) (hd : D k = true) (hu : u k = .tuple #[y, z]) : OkX k X b B0 (updD D (k + 3)) (updU u (k + 3) z) w := by
  constructor <;> simp only [updD_self, updU_self, updD_ne D (show k ≠ k + 3 by omega), updD_ne D (show k + 1 ≠ k + 3 by omega), updD_ne D (show k + 2 ≠ k + 3 by omega), updD_ne D (show k + 4 ≠ k + 3 by omega), updD_ne D (show k + 5 ≠ k + 3 by omega), updU_ne u _ (show k ≠ k + 3 by omega), updU_ne u _ (show k + 1 ≠ k + 3 by omega), updU_ne u _ (show k + 2 ≠ k + 3 by omega), updU_ne u _ (show k + 4 ≠ k + 3 by omega)]
  · exact h.d1
  · exact h.d2
  · exact fun _ => hd
  · exact h.d5
  · exact h.c0
  · exact h.c1
  · exact h.c2
  · exact fun _ => ⟨y, z, hu, rfl⟩
  · exact h.c4
  · exact h.c5
/-- The box. -/
theorem okx_alloc (h : OkX k X b B0 D u w) (hn : D (k + 4) = false) (hB : B0 ≤ w.heap.size) : OkX k X b B0 (updD D (k + 4)) (updU u (k + 4) (.pointer (some ⟨w.heap.size, 0, none⟩))) (w.alloc (.cells zeroC 28)) := by
  have hb : Below w.heap.size w (w.alloc (.cells zeroC 28)) := (Below.refl _ w).alloc (Nat.le_refl _) _
  constructor <;> simp only [updD_self, updU_self, updD_ne D (show k ≠ k + 4 by omega), updD_ne D (show k + 1 ≠ k + 4 by omega), updD_ne D (show k + 2 ≠ k + 4 by omega), updD_ne D (show k + 3 ≠ k + 4 by omega), updD_ne D (show k + 5 ≠ k + 4 by omega), updU_ne u _ (show k ≠ k + 4 by omega), updU_ne u _ (show k + 1 ≠ k + 4 by omega), updU_ne u _ (show k + 2 ≠ k + 4 by omega), updU_ne u _ (show k + 3 ≠ k + 4 by omega)]
  · exact h.d1
  · exact h.d2
  · exact h.d3
  · exact fun e => b_no hn (h.d5 e).2
  · exact fun _ e => by cases e
  · exact h.c1
  · exact h.c2
  · exact h.c3
  · exact fun _ => ⟨_, rfl, hB, ⟨_, Blk.new w _ _, fun _ => rfl⟩, fun hc => (h.c0 hc hn).new hb (Nat.le_refl _)⟩
  · exact fun e => b_no hn (h.d5 e).2
/-- The store. -/
theorem okx_store {R : Nat} {A : Option Addr} {n c : Nat} {B : Option Addr} {m d : Nat} (h : OkX k X b B0 D u w) (hd : D k = true) (hd4 : D (k + 4) = true) (hR : u (k + 4) = .pointer (some ⟨R, 0, none⟩)) (hn : D (k + 5) = false)
    (hu : u k = .tuple #[atV X.has X.org A n c X.hop X.med X.pref X.aas X.aid B m d, .bool b]) :
    OkX k X b B0 (updD D (k + 5)) (updU u (k + 5) undef) (w.setCells R 0 [.int .i64 X.has, .int .i64 X.org, .slice A n c, .int .u32 X.hop, .int .u32 X.med, .int .u32 X.pref, .int .u32 X.aas, .int .u32 X.aid, .slice B m d]) := by
  obtain ⟨R', e1, hB, ⟨cs, hk, hz⟩, hm⟩ := h.c4 hd4
  rw [hR] at e1
  simp only [Value.pointer.injEq, Option.some.injEq, Addr.mk.injEq, and_true] at e1
  subst e1
  obtain rfl := hz hn
  have hk2 := blk9_set (v0 := .int .i64 X.has) (v1 := .int .i64 X.org) (v2 := .slice A n c) (v3 := .int .u32 X.hop) (v4 := .int .u32 X.med) (v5 := .int .u32 X.pref) (v6 := .int .u32 X.aas) (v7 := .int .u32 X.aid) (v8 := .slice B m d) hk
  constructor <;> simp only [updD_self, updU_self, updD_ne D (show k ≠ k + 5 by omega), updD_ne D (show k + 1 ≠ k + 5 by omega), updD_ne D (show k + 2 ≠ k + 5 by omega), updD_ne D (show k + 3 ≠ k + 5 by omega), updD_ne D (show k + 4 ≠ k + 5 by omega), updU_ne u _ (show k ≠ k + 5 by omega), updU_ne u _ (show k + 1 ≠ k + 5 by omega), updU_ne u _ (show k + 2 ≠ k + 5 by omega), updU_ne u _ (show k + 3 ≠ k + 5 by omega), updU_ne u _ (show k + 4 ≠ k + 5 by omega)]
  · exact h.d1
  · exact h.d2
  · exact h.d3
  · exact fun _ => ⟨hd, hd4⟩
  · exact fun _ e => b_no e hd4
  · exact h.c1
  · exact h.c2
  · exact h.c3
  · exact fun _ => ⟨R, hR, hB, ⟨_, hk2, fun e => by cases e⟩, fun _ => (hm hd).sets hk⟩
  · exact fun _ => ⟨R, A, n, c, B, m, d, hR, hu, hk2⟩
theorem okx_fin (h : OkX k X b B0 D u w) (hd : D k = true) (hd2 : D (k + 2) = true) (hd3 : D (k + 3) = true) (hd4 : D (k + 4) = true) (hd5 : D (k + 5) = true) :
    ∃ R A n c B m d, u (k + 4) = .pointer (some ⟨R, 0, none⟩) ∧ u (k + 3) = .bool b ∧ B0 ≤ R ∧ Blk w R 28 (atC X.has X.org A n c X.hop X.med X.pref X.aas X.aid B m d) ∧ LstAt 2 sgR w A n c X.path ∧ U32s w B m d X.comms := by
  obtain ⟨R, A, n, c, B, m, d, e1, e2, hk⟩ := h.c5 hd5
  obtain ⟨R', e3, hB, _, hm⟩ := h.c4 hd4
  rw [e1] at e3
  simp only [Value.pointer.injEq, Option.some.injEq, Addr.mk.injEq, and_true] at e3
  subst e3
  obtain ⟨v, hv, ha⟩ := (hm hd).rd
  obtain ⟨y, z, e4, e5⟩ := h.c3 hd3
  rw [e2] at e4 hv
  simp only [Value.tuple.injEq, Array.mk.injEq, List.cons.injEq, and_true] at e4 hv
  obtain ⟨rfl, rfl⟩ := e4
  subst hv
  obtain ⟨A', n', c', B', m', d', e6, hl, hu⟩ := ha
  simp only [Value.agg.injEq, Array.mk.injEq, List.cons.injEq, and_true, true_and, Value.slice.injEq] at e6
  obtain ⟨⟨rfl, rfl, rfl⟩, rfl, rfl, rfl⟩ := e6
  exact ⟨R, A, n, c, B, m, d, e1, e5, hB, hk, hl, hu⟩
end
theorem relPureS {P : Program} {o : Oper} {A : Act} {w : World} {S : Value → World → Prop} {Q : Exit → Act → World → Prop} {ρ : Operand → Value} (hρ : A.eval = ρ) (v : Value) (h : (execOp ρ o).run P w = .ok (.value v) w) (hS : S v w) :
    o.wp P A w (fun A' w' => ∃ v, A' = A.put o.dst v ∧ S v w') Q := by
  subst hρ
  unfold Oper.wp
  rw [h]
  exact ⟨v, rfl, hS⟩
theorem relValS {P : Program} {o : Oper} {A : Act} {w : World} {S : Value → World → Prop} {Q : Exit → Act → World → Prop} {ρ : Operand → Value} (hρ : A.eval = ρ) (v : Value) (w' : World) (h : (execOp ρ o).run P w = .ok (.value v) w') (hS : S v w') :
    o.wp P A w (fun A' w' => ∃ v, A' = A.put o.dst v ∧ S v w') Q := by
  subst hρ
  unfold Oper.wp
  rw [h]
  exact ⟨v, rfl, hS⟩
theorem relCallS {P : Program} {o : Oper} {A : Act} {w : World} {S : Value → World → Prop} {Q : Exit → Act → World → Prop} {ρ : Operand → Value} (hρ : A.eval = ρ) (f : FuncId) (args : Array Value) (h : (execOp ρ o).run P w = .ok (.enter f args) w)
    (hc : Calls P f args w fun e w' => ∃ v, e = .returned v ∧ S v w') :
    o.wp P A w (fun A' w' => ∃ v, A' = A.put o.dst v ∧ S v w') Q := by
  subst hρ
  unfold Oper.wp
  rw [h]
  refine hc.mono ?_
  rintro e w' ⟨v, rfl, hS⟩
  exact ⟨v, rfl, hS⟩
theorem okx_tup {k : Nat} {X : AT} {b : Bool} {B0 : Nat} {D : Nat → Bool} {u : Nat → Value} {w : World} (h : OkX k X b B0 D u w) (hd : D k = true) : ∃ A n c B m d, u k = .tuple #[atV X.has X.org A n c X.hop X.med X.pref X.aas X.aid B m d, .bool b] := by
  cases h4 : D (k + 4) with
  | false =>
    obtain ⟨A, n, c, xs, B, m, d, e, _⟩ := h.c0 hd h4
    exact ⟨A, n, c, B, m, d, e⟩
  | true =>
    obtain ⟨R, _, _, _, hm⟩ := h.c4 h4
    obtain ⟨A, n, c, xs, B, m, d, e, _⟩ := hm hd
    exact ⟨A, n, c, B, m, d, e⟩
set_option maxHeartbeats 1000000 in
theorem storeA {w : World} {R : Nat} {h o : Int} {A : Option Addr} {n c : Nat} {hp md pf aa ai : Int} {B : Option Addr} {m d : Nat} (hk : Blk w R 28 zeroC) :
    (Instr.storeAt 28 (.pointer (some ⟨R, 0, none⟩)) (atV h o A n c hp md pf aa ai B m d)).run Tryz.prog w = .ok () (w.setCells R 0 [.int .i64 h, .int .i64 o, .slice A n c, .int .u32 hp, .int .u32 md, .int .u32 pf, .int .u32 aa, .int .u32 ai, .slice B m d]) := by
  obtain ⟨z0, z1, z2, z3, z4, z5, z6, z7, z8⟩ := blk9 hk
  have zf := fun i => hk.frozen i
  simp [go_sem, z0, z1, z2, z3, z4, z5, z6, z7, z8, zf, World.setCells]
/-- Relations that say nothing of the world. -/
def AllFlat : List (Value → World → Prop) → Prop
  | [] => True
  | R :: r => (∀ (v : Value) (w w' : World), R v w → R v w') ∧ AllFlat r
theorem relFlat : ∀ (Rs : List (Value → World → Prop)) (_ : AllFlat Rs) (i : Nat) (v : Value) (w w' : World), relAt Rs i v w → relAt Rs i v w'
  | [], _, i, v, w, w', h => by unfold relAt; simp
  | R :: r, h, 0, v, w, w', hr => h.1 v w w' hr
  | R :: r, h, i + 1, v, w, w', hr => relFlat r h.2 i v w w' hr
end Go.Proofs.YtcinjckajnnhmaaGreat
set_option linter.unusedSimpArgs false
set_option linter.unusedVariables false
namespace Go.Proofs.YtcinjckajnnhmaaGreat
open Go.RowKit Go.WideShapes Go.ChangeShapes
attribute [local go_sem] Oper.semAt_some
theorem ato_zero (b : Nat) (w : World) : AtO b w X0 (.agg #[.int .i64 0, .int .i64 0, .slice none 0 0, .int .u32 0, .int .u32 0, .int .u32 0, .int .u32 0, .int .u32 0, .slice none 0 0]) := ⟨none, 0, 0, [], none, 0, 0, rfl, LOw.nil, fun w2 _ => ⟨rfl, Nat.le_refl _, Nat.zero_le _, by simp [X0], fun h => absurd h (by omega)⟩⟩
set_option maxRecDepth 100000 in
set_option maxHeartbeats 8000000 in
theorem full_none (own ax : Nat) (r g a n : Nat) (w : World) (ha : PG a n) (hr : Blk w r 126 #[.int .u32 (own : Int), .int .u32 0, .int .u32 (ax : Int), .int .i64 0, .bool false, .string ⟨#[]⟩, .string ⟨#[]⟩, .string ⟨#[]⟩, .bool false, .string ⟨#[]⟩, .string ⟨#[]⟩, .string ⟨#[]⟩, .bool false, .pointer (some ⟨g, 0, none⟩)]) (hg : Blk w g 201 #[.pointer none]) :
    Calls Tryz.prog 158 #[.pointer (some ⟨r, 0, none⟩), .agg #[.int .u32 (a : Int), .int .i64 (n : Int)]] w (GoodP false w) := by
  obtain ⟨w1, hw1⟩ : ∃ w1, w.alloc (.cells #[.int .u32 (a : Int), .int .i64 (n : Int)] 24) = w1 := ⟨_, rfl⟩
  have hb1 : Below w.heap.size w w1 := hw1 ▸ blkBelow1 w _
  have HX : Hid (Blk w1 w.heap.size 24 #[.int .u32 (a : Int), .int .i64 (n : Int)]) := hide (hw1 ▸ Blk.new w _ _)
  have HR := hide (hr.below hb1 hr.lt)
  have HG := hide (hg.below hb1 hg.lt)
  have HGet : Hid (∀ W, Below w1.heap.size w1 W → Calls Tryz.prog 82 #[.pointer (some ⟨g, 0, none⟩), .agg #[.int .u32 (a : Int), .int .i64 (n : Int)]] W fun e w' => Below W.heap.size W w' ∧ e = .returned (.tuple #[.agg #[.int .i64 0, .int .i64 0, .slice none 0 0, .int .u32 0, .int .u32 0, .int .u32 0, .int .u32 0, .int .u32 0, .slice none 0 0], .bool false])) := hide (fun W hb => getA_any (α := AT) (F := fun _ => False) (R := atR) g a n .nil W ha (HG.out.below hb HG.out.lt) trivial trivial (fun _ h => h.elim))
  have HB1 := hide hb1
  have HW1 := hide hw1
  clear hw1 hb1 hr hg
  go_enter Tryz.func158, Tryz.ntmps158
  go_upto_region 1 with fail
  rw [HW1.out]
  have Hmn := hide (show AllMono [(fun v _ => v = .pointer (some ⟨r, 0, none⟩)), (fun v _ => v = .pointer (some ⟨r, 0, none⟩)), (fun v _ => v = .pointer (some ⟨r, 13, none⟩)), (fun v _ => v = .pointer (some ⟨g, 0, none⟩)), (fun v _ => v = .agg #[.int .u32 (a : Int), .int .i64 (n : Int)]), (fun _ _ => True), (fun _ _ => True), (fun _ _ => True), (fun _ _ => True), (fun _ _ => True), (fun _ _ => True)] from ⟨fun _ _ _ _ h => h, fun _ _ _ _ h => h, fun _ _ _ _ h => h, fun _ _ _ _ h => h, fun _ _ _ _ h => h, fun _ _ _ _ _ => trivial, fun _ _ _ _ _ => trivial, fun _ _ _ _ _ => trivial, fun _ _ _ _ _ => trivial, fun _ _ _ _ _ => trivial, fun _ _ _ _ _ => trivial, trivial⟩)
  have Hfl := hide (show AllFlat [(fun v _ => v = .pointer (some ⟨r, 0, none⟩)), (fun v _ => v = .pointer (some ⟨r, 0, none⟩)), (fun v _ => v = .pointer (some ⟨r, 13, none⟩)), (fun v _ => v = .pointer (some ⟨g, 0, none⟩)), (fun v _ => v = .agg #[.int .u32 (a : Int), .int .i64 (n : Int)]), (fun _ _ => True), (fun _ _ => True), (fun _ _ => True), (fun _ _ => True), (fun _ _ => True), (fun _ _ => True)] from ⟨fun _ _ _ h => h, fun _ _ _ h => h, fun _ _ _ h => h, fun _ _ _ h => h, fun _ _ _ h => h, fun _ _ _ h => h, fun _ _ _ h => h, fun _ _ _ h => h, fun _ _ _ h => h, fun _ _ _ h => h, fun _ _ _ h => h, trivial⟩)
  refine wp_region_relX 11 w1.heap.size (Nat.le_refl _) [(fun v _ => v = .pointer (some ⟨r, 0, none⟩)), (fun v _ => v = .pointer (some ⟨r, 0, none⟩)), (fun v _ => v = .pointer (some ⟨r, 13, none⟩)), (fun v _ => v = .pointer (some ⟨g, 0, none⟩)), (fun v _ => v = .agg #[.int .u32 (a : Int), .int .i64 (n : Int)]), (fun _ _ => True), (fun _ _ => True), (fun _ _ => True), (fun _ _ => True), (fun _ _ => True), (fun _ _ => True)] (OkX 5 X0 false w1.heap.size) (by kernel_rfl) (by kernel_rfl) (by kernel_rfl) (by kernel_rfl) (by kernel_rfl) (okx_start _ _) ⟨?_, ?_, ?_, ?_, ?_, ?_, ?_, ?_, ?_, ?_, ?_, trivial⟩ ?_
  · refine relX_plain rfl rfl Hmn.out (Nat.le_refl _) (fun D u v w w2 hb h => okx_other (by omega) v hb h) ?_
    intro Dn Ac w5 hp
    have hb := hp.bel
    have a0 : Ac.eval (.tmp 0) = .pointer (some ⟨r, 0, none⟩) := hp.out 0 (by rfl)
    have hc := evalC Ac; have hf := evalF Ac; have hgl := evalG Ac
    obtain ⟨ρ, hρ⟩ : ∃ ρ, Ac.eval = ρ := ⟨_, rfl⟩
    rw [hρ] at a0 hc hf hgl
    exact relPure hρ (.pointer (some ⟨r, 0, none⟩)) (by simp [go_sem, hc, hf, hgl, ↓IntWalk.iteOmega, a0, *]) rfl
  · refine relX_plain rfl rfl Hmn.out (Nat.le_refl _) (fun D u v w w2 hb h => okx_other (by omega) v hb h) ?_
    intro Dn Ac w5 hp
    have hb := hp.bel
    have a8 : Ac.eval (.tmp 8) = .pointer (some ⟨r, 0, none⟩) := hp.dep 0 (by kernel_rfl)
    have hc := evalC Ac; have hf := evalF Ac; have hgl := evalG Ac
    obtain ⟨ρ, hρ⟩ : ∃ ρ, Ac.eval = ρ := ⟨_, rfl⟩
    rw [hρ] at a8 hc hf hgl
    exact relPure hρ (.pointer (some ⟨r, 0, none⟩)) (by simp [go_sem, hc, hf, hgl, ↓IntWalk.iteOmega, a8, *]) rfl
  · refine relX_plain rfl rfl Hmn.out (Nat.le_refl _) (fun D u v w w2 hb h => okx_other (by omega) v hb h) ?_
    intro Dn Ac w5 hp
    have hb := hp.bel
    have a9 : Ac.eval (.tmp 9) = .pointer (some ⟨r, 0, none⟩) := hp.dep 1 (by kernel_rfl)
    have hc := evalC Ac; have hf := evalF Ac; have hgl := evalG Ac
    obtain ⟨ρ, hρ⟩ : ∃ ρ, Ac.eval = ρ := ⟨_, rfl⟩
    rw [hρ] at a9 hc hf hgl
    exact relPure hρ (.pointer (some ⟨r, 13, none⟩)) (by simp [go_sem, hc, hf, hgl, ↓IntWalk.iteOmega, a9, *]) rfl
  · refine relX_plain rfl rfl Hmn.out (Nat.le_refl _) (fun D u v w w2 hb h => okx_other (by omega) v hb h) ?_
    intro Dn Ac w5 hp
    have hb := hp.bel
    have a10 : Ac.eval (.tmp 10) = .pointer (some ⟨r, 13, none⟩) := hp.dep 2 (by kernel_rfl)
    have hr5 := HR.out.below hb HR.out.lt
    have z13 : w5.cell? ⟨r, 13, none⟩ = some (.pointer (some ⟨g, 0, none⟩)) := hr5.cell 13
    have hc := evalC Ac; have hf := evalF Ac; have hgl := evalG Ac
    obtain ⟨ρ, hρ⟩ : ∃ ρ, Ac.eval = ρ := ⟨_, rfl⟩
    rw [hρ] at a10 hc hf hgl
    exact relPure hρ (.pointer (some ⟨g, 0, none⟩)) (by simp [go_sem, hc, hf, hgl, ↓IntWalk.iteOmega, a10, *]) rfl
  · refine relX_plain rfl rfl Hmn.out (Nat.le_refl _) (fun D u v w w2 hb h => okx_other (by omega) v hb h) ?_
    intro Dn Ac w5 hp
    have hb := hp.bel
    have a3 : Ac.eval (.tmp 3) = .pointer (some ⟨w.heap.size, 0, none⟩) := hp.out 3 (by rfl)
    have hx5 := HX.out.below hb HX.out.lt
    have x0 : w5.cell? ⟨w.heap.size, 0, none⟩ = some (.int .u32 (a : Int)) := hx5.cell 0
    have x1 : w5.cell? ⟨w.heap.size, 1, none⟩ = some (.int .i64 (n : Int)) := hx5.cell 1
    have hc := evalC Ac; have hf := evalF Ac; have hgl := evalG Ac
    obtain ⟨ρ, hρ⟩ : ∃ ρ, Ac.eval = ρ := ⟨_, rfl⟩
    rw [hρ] at a3 hc hf hgl
    exact relPure hρ (.agg #[.int .u32 (a : Int), .int .i64 (n : Int)]) (by simp [go_sem, hc, hf, hgl, ↓IntWalk.iteOmega, a3, *]) rfl
  · refine relX_op rfl rfl Hmn.out (Nat.le_refl _) ?_
    intro D Ac w5 hp
    have hb := hp.bel
    have a11 : Ac.eval (.tmp 11) = .pointer (some ⟨g, 0, none⟩) := hp.dep 3 (by kernel_rfl)
    have a12 : Ac.eval (.tmp 12) = .agg #[.int .u32 (a : Int), .int .i64 (n : Int)] := hp.dep 4 (by kernel_rfl)
    have hx := hp.ext
    have hno := hp.no
    have hc := evalC Ac; have hf := evalF Ac; have hgl := evalG Ac
    obtain ⟨ρ, hρ⟩ : ∃ ρ, Ac.eval = ρ := ⟨_, rfl⟩
    rw [hρ] at a11 a12 hc hf hgl
    refine relCallS hρ 82 #[.pointer (some ⟨g, 0, none⟩), .agg #[.int .u32 (a : Int), .int .i64 (n : Int)]] (by simp [go_sem, hc, hf, hgl, ↓IntWalk.iteOmega, a11, a12, *]) ?_
    refine (HGet.out w5 hb).mono ?_
    rintro e w6 ⟨hb6, rfl⟩
    exact ⟨_, rfl, trivial, hb6, okx_call hx hno hb6 (ato_zero _ _)⟩
  · refine relX_op rfl rfl Hmn.out (Nat.le_refl _) ?_
    intro D Ac w5 hp
    have hd : D 5 = true := hp.dn 5 (by kernel_rfl)
    obtain ⟨ρ, hρ⟩ : ∃ ρ, Ac.eval = ρ := ⟨_, rfl⟩
    refine relPureS hρ (Ac.eval (.tmp 13)) (by rw [hρ]; simp [go_sem]) ⟨trivial, Below.refl _ _, ?_⟩
    exact okx_move hp.ext hd
  · refine relX_op rfl rfl Hmn.out (Nat.le_refl _) ?_
    intro D Ac w5 hp
    have hd1 : D 6 = true := hp.dn 6 (by kernel_rfl)
    have hd := hp.ext.d1 hd1
    obtain ⟨A6, n6, c6, B6, m6, d6, hu6⟩ := okx_tup hp.ext hd
    have hu7 := (hp.ext.c1 hd1).trans hu6
    change Ac.eval (.tmp 7) = _ at hu7
    have hx := hp.ext
    obtain ⟨ρ, hρ⟩ : ∃ ρ, Ac.eval = ρ := ⟨_, rfl⟩
    rw [hρ] at hu7
    refine relPureS hρ _ (by simp [go_sem, hu7]) ⟨trivial, Below.refl _ _, okx_ext0 hx hd hu6⟩
  · refine relX_op rfl rfl Hmn.out (Nat.le_refl _) ?_
    intro D Ac w5 hp
    have hd1 : D 6 = true := hp.dn 6 (by kernel_rfl)
    have hd := hp.ext.d1 hd1
    obtain ⟨A6, n6, c6, B6, m6, d6, hu6⟩ := okx_tup hp.ext hd
    have hu7 := (hp.ext.c1 hd1).trans hu6
    change Ac.eval (.tmp 7) = _ at hu7
    have hx := hp.ext
    obtain ⟨ρ, hρ⟩ : ∃ ρ, Ac.eval = ρ := ⟨_, rfl⟩
    rw [hρ] at hu7
    refine relPureS hρ _ (by simp [go_sem, hu7]) ⟨trivial, Below.refl _ _, okx_ext1 hx hd hu6⟩
  · refine relX_op rfl rfl Hmn.out (Nat.le_refl _) ?_
    intro D Ac w5 hp
    obtain ⟨ρ, hρ⟩ : ∃ ρ, Ac.eval = ρ := ⟨_, rfl⟩
    refine relValS hρ (.pointer (some ⟨w5.heap.size, 0, none⟩)) (w5.alloc (.cells zeroC 28)) (by simp [go_sem]) ⟨trivial, (Below.refl _ _).alloc (Nat.le_refl _) _, okx_alloc hp.ext hp.no hp.bel.size⟩
  · refine relX_store rfl ?_
    intro D Ac w5 hp
    have hd4 : D 9 = true := hp.dn 9 (by kernel_rfl)
    have hd2 : D 7 = true := hp.dn 7 (by kernel_rfl)
    have hd := hp.ext.d2 hd2
    obtain ⟨A6, n6, c6, B6, m6, d6, hu6⟩ := okx_tup hp.ext hd
    obtain ⟨y6, z6, hy, hv⟩ := hp.ext.c2 hd2
    rw [hu6] at hy
    simp only [Value.tuple.injEq, Array.mk.injEq, List.cons.injEq, and_true] at hy
    obtain ⟨rfl, rfl⟩ := hy
    obtain ⟨R6, hR6, hB6, ⟨cs6, hk6, hz6⟩, _⟩ := hp.ext.c4 hd4
    obtain rfl := hz6 hp.no
    have hpt := hR6
    change Ac.eval (.tmp 5) = _ at hpt
    change Ac.eval (.tmp 14) = _ at hv
    exact ⟨_, .inl (exec_store rfl hpt hv (storeA hk6)), trivial, below_sets _ 0 (Below.refl _ _) hB6, fun j _ hj => relFlat _ Hfl.out _ _ _ _ (hp.has j hj), okx_store hp.ext hd hd4 hR6 hp.no hu6⟩
  intro u w7 hb7 hall hox
  obtain ⟨R9, A9, n9, c9, B9, m9, d9, hp9, hb9, hB9, hk9, hl9, hu9⟩ := okx_fin hox (by decide) (by decide) (by decide) (by decide) (by decide)
  change u 9 = _ at hp9
  change u 8 = _ at hb9
  clear hall
  simp only [List.drop_succ_cons, List.drop_zero, List.take_succ_cons, List.take_zero, putAll, Act.put, List.setIfInBounds_toArray, List.set_cons_zero, List.set_cons_succ, Nat.zero_add, Nat.reduceAdd, hp9, hb9]
  have HB7 := hide (HB1.out.trans (hb7.mono HB1.out.size))
  have HR7 := hide (HR.out.below hb7 HR.out.lt)
  clear hb7 hk9
  have z3 : w7.cell? ⟨r, 3, none⟩ = some (.int .i64 0) := HR7.out.cell 3
  go_wp2
  go_ret
  exact ⟨rfl, HB7.out⟩
end Go.Proofs.YtcinjckajnnhmaaGreat
set_option linter.unusedSimpArgs false
set_option linter.unusedVariables false
namespace Go.Proofs.YtcinjckajnnhmaaGreat
open Go.RowKit Go.WideShapes Go.ChangeShapes
attribute [local go_sem] Oper.semAt_some
theorem cell_ne_blk {w : World} {g b o : Nat} {t : TypeId} {q : Option Addr} {v : Value} (hk : Blk w g t #[.pointer q]) (h : w.cell? ⟨b, o, none⟩ = some v) (hv : ∀ p, v ≠ .pointer p) : b ≠ g := by
  rintro rfl
  have h1 := hk.cell o
  rw [h1] at h
  cases o with
  | zero => simp at h; exact hv q h.symm
  | succ o => simp at h
theorem u32s_frs {w : World} {g : Nat} {t : TypeId} {q : Option Addr} {A : Option Addr} {n c : Nat} {l : List Nat} (hk : Blk w g t #[.pointer q]) (h : U32s w A n c l) : FrS (fun k => k < w.heap.size ∧ k ≠ g) none (fun w => U32s w A n c l) w := by
  intro w' ha
  refine ⟨h.1, h.2.1, h.2.2.1, h.2.2.2.1, fun hn => ?_⟩
  obtain ⟨b, o, e, hb, hc⟩ := h.2.2.2.2 hn
  exact ⟨b, o, e, Nat.lt_of_lt_of_le hb ha.1, fun k x hx => cell_kept_ag (a := ⟨b, o + k, none⟩) (hc k x hx) (fun ob e1 e2 => ha.2 b ob ⟨hb, cell_ne_blk hk (hc k x hx) (by simp)⟩ e1 e2 (by simp))⟩
theorem sgs_frs {w : World} {g : Nat} {t : TypeId} {q : Option Addr} {A : Option Addr} {n c : Nat} {l : List SG} (hk : Blk w g t #[.pointer q]) (h : LstAt 2 sgR w A n c l) : FrS (fun k => k < w.heap.size ∧ k ≠ g) none (fun w => LstAt 2 sgR w A n c l) w := by
  intro w' ha
  refine ⟨h.1, h.2.1, h.2.2.1, fun hn => ?_⟩
  obtain ⟨b, o, e, hb, hc⟩ := h.2.2.2 hn
  refine ⟨b, o, e, Nat.lt_of_lt_of_le hb ha.1, fun i x hx => ?_⟩
  obtain ⟨vs, hl, ⟨B, m, d, rfl, hu⟩, hcs⟩ := hc i x hx
  have hbg : b ≠ g := cell_ne_blk hk (hcs 0 _ rfl) (by simp)
  exact ⟨_, rfl, ⟨B, m, d, rfl, u32s_frs hk hu w' ha⟩, fun j v hj => cell_kept_ag (a := ⟨b, o + i * 2 + j, none⟩) (hcs j v hj) (fun ob e1 e2 => ha.2 b ob ⟨hb, hbg⟩ e1 e2 (by simp))⟩
/-- A tree of one node. -/
def FedT (a n g : Nat) (X : AT) (w : World) : Prop := ∃ b F, Blk w g 201 #[.pointer (some ⟨b, 0, none⟩)] ∧ TrA 9 205 F atR w (.nd b a n (some X) .nil .nil)
set_option maxRecDepth 100000 in
set_option maxHeartbeats 16000000 in
theorem feed1_any (own ax r g a n hh : Nat) (X Y : AT) (rr : List Nat) (sl : List SG) (A : Option Addr) (k c : Nat) (B : Option Addr) (m d : Nat) (w : World) (ha : PG a n) (hr : Blk w r 126 #[.int .u32 (own : Int), .int .u32 0, .int .u32 (ax : Int), .int .i64 0, .bool false, .string ⟨#[]⟩, .string ⟨#[]⟩, .string ⟨#[]⟩, .bool false, .string ⟨#[]⟩, .string ⟨#[]⟩, .string ⟨#[]⟩, .bool false, .pointer (some ⟨g, 0, none⟩)]) (hg : Blk w g 201 #[.pointer none]) (hgr : g ≠ r) (hH : Blk w hh 24 #[.int .u32 (a : Int), .int .i64 (n : Int)]) (hhg : hh ≠ g) (hP : LstAt 2 sgR w A k c X.path) (hC : U32s w B m d X.comms) (hn : numS X.path ≤ 10000) (hm : X.comms.length ≤ 10000) (hY : normA X = Y) (hne : own ≠ ax) (hf : X.path = ⟨2, ax :: rr⟩ :: sl) (hha : pathHas X.path own = false) :
    Calls Tryz.prog 92 #[.pointer (some ⟨r, 0, none⟩), .agg #[.slice none 0 0, .int .i64 X.has, .int .i64 X.org, .slice A k c, .int .u32 X.hop, .int .u32 X.med, .int .u32 X.pref, .int .u32 X.aas, .int .u32 X.aid, .slice B m d, .slice (some ⟨hh, 0, none⟩) 1 1]] w fun e w' => ∃ A' c', e = .returned (.tuple #[.slice A' 1 c', .bool false]) ∧ LstAt 2 pxR w' A' 1 c' [(a, n)] ∧ Blk w' r 126 #[.int .u32 (own : Int), .int .u32 0, .int .u32 (ax : Int), .int .i64 0, .bool false, .string ⟨#[]⟩, .string ⟨#[]⟩, .string ⟨#[]⟩, .bool false, .string ⟨#[]⟩, .string ⟨#[]⟩, .string ⟨#[]⟩, .bool false, .pointer (some ⟨g, 0, none⟩)] ∧ FedT a n g (clrP Y) w' ∧ ChgS (fun k => k = g) w w' := by
  obtain ⟨i0, hi, hz0, hz1, hz2⟩ := info_parts pxInfo
  obtain ⟨w0, hw0⟩ : ∃ w0, w.alloc (.cells #[.slice none 0 0, .int .i64 X.has, .int .i64 X.org, .slice A k c, .int .u32 X.hop, .int .u32 X.med, .int .u32 X.pref, .int .u32 X.aas, .int .u32 X.aid, .slice B m d, .slice (some ⟨hh, 0, none⟩) 1 1] 81) = w0 := ⟨_, rfl⟩
  have hb0 : Below w.heap.size w w0 := hw0 ▸ blkBelow1 w _
  have HX : Hid (Blk w0 w.heap.size 81 #[.slice none 0 0, .int .i64 X.has, .int .i64 X.org, .slice A k c, .int .u32 X.hop, .int .u32 X.med, .int .u32 X.pref, .int .u32 X.aas, .int .u32 X.aid, .slice B m d, .slice (some ⟨hh, 0, none⟩) 1 1]) := hide (hw0 ▸ Blk.new w _ _)
  have HR := hide (hr.below hb0 hr.lt)
  have HG := hide (hg.below hb0 hg.lt)
  have HH := hide (hH.below hb0 hH.lt)
  have HAcc := hide (fun W (hb : Below w0.heap.size w0 W) => acc_ext own ax X Y rr sl (.agg #[.int .i64 X.has, .int .i64 X.org, .slice A k c, .int .u32 X.hop, .int .u32 X.med, .int .u32 X.pref, .int .u32 X.aas, .int .u32 X.aid, .slice B m d]) W ⟨A, k, c, B, m, d, rfl, (hP.below sgMono hb0).below sgMono hb, (hC.below hb0).below hb⟩ hn hm hY hne hf hha)
  have HFu := hide (fun W (h1 : Blk W r 126 #[.int .u32 (own : Int), .int .u32 0, .int .u32 (ax : Int), .int .i64 0, .bool false, .string ⟨#[]⟩, .string ⟨#[]⟩, .string ⟨#[]⟩, .bool false, .string ⟨#[]⟩, .string ⟨#[]⟩, .string ⟨#[]⟩, .bool false, .pointer (some ⟨g, 0, none⟩)]) (h2 : Blk W g 201 #[.pointer none]) => full_none own ax r g a n W ha h1 h2)
  have HPg := hide ha
  have hrl := hr.lt
  have hgl := hg.lt
  have hhl := hH.lt
  have Hhg := hide hhg
  have Hgr := hide hgr
  have HB0 := hide hb0
  have HW0 := hide hw0
  have HS0 : Hid (w0.heap.size = w.heap.size + 1) := hide (by rw [← hw0]; simp)
  clear hw0 hb0 hr hg hH hP hC hn hm hY hne hf hha ha hhg hgr
  have x0 : w0.cell? ⟨w.heap.size, 0, none⟩ = some (.slice none 0 0) := HX.out.cell 0
  go_enter Tryz.func92, Tryz.ntmps92
  go_wp2
  rw [HW0.out]
  go_loopw [4, 15] (fun vo iv wr => iv = .int .i64 0 ∧ vo = .slice none 0 0 ∧ wr = w0) (fun _ _ _ => 0)
  case atStart => exact ⟨rfl, rfl, rfl⟩
  case round =>
  obtain ⟨rfl, rfl, hwr⟩ := hrel
  have hwr' := hwr.symm
  subst hwr'
  clear x0 hwr
  go_upto_region 7 with fail
  have Hmn := hide (show AllMono [(fun v _ => v = .pointer (some ⟨r, 0, none⟩)), (fun v _ => v = .pointer (some ⟨r, 0, none⟩)), (fun v _ => v = .pointer (some ⟨r, 0, none⟩)), (fun v _ => v = .int .u32 (own : Int)), (fun v _ => v = .pointer (some ⟨r, 0, none⟩)), (fun v _ => v = .pointer (some ⟨r, 0, none⟩)), (fun v _ => v = .pointer (some ⟨r, 1, none⟩)), (fun v _ => v = .pointer (some ⟨r, 2, none⟩)), (fun v _ => v = .int .u32 (ax : Int)), (fun v _ => v = .pointer (some ⟨w.heap.size, 1, none⟩)), (fun v _ => v = .agg #[.int .i64 X.has, .int .i64 X.org, .slice A k c, .int .u32 X.hop, .int .u32 X.med, .int .u32 X.pref, .int .u32 X.aas, .int .u32 X.aid, .slice B m d]), (fun _ _ => True), (fun _ _ => True), (fun _ _ => True), (fun _ _ => True), (fun _ _ => True), (fun _ _ => True)] from ⟨fun _ _ _ _ h => h, fun _ _ _ _ h => h, fun _ _ _ _ h => h, fun _ _ _ _ h => h, fun _ _ _ _ h => h, fun _ _ _ _ h => h, fun _ _ _ _ h => h, fun _ _ _ _ h => h, fun _ _ _ _ h => h, fun _ _ _ _ h => h, fun _ _ _ _ h => h, fun _ _ _ _ _ => trivial, fun _ _ _ _ _ => trivial, fun _ _ _ _ _ => trivial, fun _ _ _ _ _ => trivial, fun _ _ _ _ _ => trivial, fun _ _ _ _ _ => trivial, trivial⟩)
  have Hfl := hide (show AllFlat [(fun v _ => v = .pointer (some ⟨r, 0, none⟩)), (fun v _ => v = .pointer (some ⟨r, 0, none⟩)), (fun v _ => v = .pointer (some ⟨r, 0, none⟩)), (fun v _ => v = .int .u32 (own : Int)), (fun v _ => v = .pointer (some ⟨r, 0, none⟩)), (fun v _ => v = .pointer (some ⟨r, 0, none⟩)), (fun v _ => v = .pointer (some ⟨r, 1, none⟩)), (fun v _ => v = .pointer (some ⟨r, 2, none⟩)), (fun v _ => v = .int .u32 (ax : Int)), (fun v _ => v = .pointer (some ⟨w.heap.size, 1, none⟩)), (fun v _ => v = .agg #[.int .i64 X.has, .int .i64 X.org, .slice A k c, .int .u32 X.hop, .int .u32 X.med, .int .u32 X.pref, .int .u32 X.aas, .int .u32 X.aid, .slice B m d]), (fun _ _ => True), (fun _ _ => True), (fun _ _ => True), (fun _ _ => True), (fun _ _ => True), (fun _ _ => True)] from ⟨fun _ _ _ h => h, fun _ _ _ h => h, fun _ _ _ h => h, fun _ _ _ h => h, fun _ _ _ h => h, fun _ _ _ h => h, fun _ _ _ h => h, fun _ _ _ h => h, fun _ _ _ h => h, fun _ _ _ h => h, fun _ _ _ h => h, fun _ _ _ h => h, fun _ _ _ h => h, fun _ _ _ h => h, fun _ _ _ h => h, fun _ _ _ h => h, fun _ _ _ h => h, trivial⟩)
  refine wp_region_relX 17 w0.heap.size (Nat.le_refl _) [(fun v _ => v = .pointer (some ⟨r, 0, none⟩)), (fun v _ => v = .pointer (some ⟨r, 0, none⟩)), (fun v _ => v = .pointer (some ⟨r, 0, none⟩)), (fun v _ => v = .int .u32 (own : Int)), (fun v _ => v = .pointer (some ⟨r, 0, none⟩)), (fun v _ => v = .pointer (some ⟨r, 0, none⟩)), (fun v _ => v = .pointer (some ⟨r, 1, none⟩)), (fun v _ => v = .pointer (some ⟨r, 2, none⟩)), (fun v _ => v = .int .u32 (ax : Int)), (fun v _ => v = .pointer (some ⟨w.heap.size, 1, none⟩)), (fun v _ => v = .agg #[.int .i64 X.has, .int .i64 X.org, .slice A k c, .int .u32 X.hop, .int .u32 X.med, .int .u32 X.pref, .int .u32 X.aas, .int .u32 X.aid, .slice B m d]), (fun _ _ => True), (fun _ _ => True), (fun _ _ => True), (fun _ _ => True), (fun _ _ => True), (fun _ _ => True)] (OkX 11 (clrP Y) true w0.heap.size) (by kernel_rfl) (by kernel_rfl) (by kernel_rfl) (by kernel_rfl) (by kernel_rfl) (okx_start _ _) ⟨?_, ?_, ?_, ?_, ?_, ?_, ?_, ?_, ?_, ?_, ?_, ?_, ?_, ?_, ?_, ?_, ?_, trivial⟩ ?_
  · refine relX_plain rfl rfl Hmn.out (Nat.le_refl _) (fun D u v w w2 hb h => okx_other (by omega) v hb h) ?_
    intro Dn Ac w5 hp
    have hb := hp.bel
    have a0 : Ac.eval (.tmp 0) = .pointer (some ⟨r, 0, none⟩) := hp.out 0 (by rfl)
    have hc := evalC Ac; have hf := evalF Ac; have hgl := evalG Ac
    obtain ⟨ρ, hρ⟩ : ∃ ρ, Ac.eval = ρ := ⟨_, rfl⟩
    rw [hρ] at a0 hc hf hgl
    exact relPure hρ (.pointer (some ⟨r, 0, none⟩)) (by simp [go_sem, hc, hf, hgl, ↓IntWalk.iteOmega, a0, *]) rfl
  · refine relX_plain rfl rfl Hmn.out (Nat.le_refl _) (fun D u v w w2 hb h => okx_other (by omega) v hb h) ?_
    intro Dn Ac w5 hp
    have hb := hp.bel
    have a28 : Ac.eval (.tmp 28) = .pointer (some ⟨r, 0, none⟩) := hp.dep 0 (by kernel_rfl)
    have hc := evalC Ac; have hf := evalF Ac; have hgl := evalG Ac
    obtain ⟨ρ, hρ⟩ : ∃ ρ, Ac.eval = ρ := ⟨_, rfl⟩
    rw [hρ] at a28 hc hf hgl
    exact relPure hρ (.pointer (some ⟨r, 0, none⟩)) (by simp [go_sem, hc, hf, hgl, ↓IntWalk.iteOmega, a28, *]) rfl
  · refine relX_plain rfl rfl Hmn.out (Nat.le_refl _) (fun D u v w w2 hb h => okx_other (by omega) v hb h) ?_
    intro Dn Ac w5 hp
    have hb := hp.bel
    have a29 : Ac.eval (.tmp 29) = .pointer (some ⟨r, 0, none⟩) := hp.dep 1 (by kernel_rfl)
    have hc := evalC Ac; have hf := evalF Ac; have hgl := evalG Ac
    obtain ⟨ρ, hρ⟩ : ∃ ρ, Ac.eval = ρ := ⟨_, rfl⟩
    rw [hρ] at a29 hc hf hgl
    exact relPure hρ (.pointer (some ⟨r, 0, none⟩)) (by simp [go_sem, hc, hf, hgl, ↓IntWalk.iteOmega, a29, *]) rfl
  · refine relX_plain rfl rfl Hmn.out (Nat.le_refl _) (fun D u v w w2 hb h => okx_other (by omega) v hb h) ?_
    intro Dn Ac w5 hp
    have hb := hp.bel
    have a30 : Ac.eval (.tmp 30) = .pointer (some ⟨r, 0, none⟩) := hp.dep 2 (by kernel_rfl)
    have hr5 := HR.out.below hb HR.out.lt
    have r0 : w5.cell? ⟨r, 0, none⟩ = some (.int .u32 (own : Int)) := hr5.cell 0
    have r2 : w5.cell? ⟨r, 2, none⟩ = some (.int .u32 (ax : Int)) := hr5.cell 2
    have hc := evalC Ac; have hf := evalF Ac; have hgl := evalG Ac
    obtain ⟨ρ, hρ⟩ : ∃ ρ, Ac.eval = ρ := ⟨_, rfl⟩
    rw [hρ] at a30 hc hf hgl
    exact relPure hρ (.int .u32 (own : Int)) (by simp [go_sem, hc, hf, hgl, ↓IntWalk.iteOmega, a30, *]) rfl
  · refine relX_plain rfl rfl Hmn.out (Nat.le_refl _) (fun D u v w w2 hb h => okx_other (by omega) v hb h) ?_
    intro Dn Ac w5 hp
    have hb := hp.bel
    have a0 : Ac.eval (.tmp 0) = .pointer (some ⟨r, 0, none⟩) := hp.out 0 (by rfl)
    have hc := evalC Ac; have hf := evalF Ac; have hgl := evalG Ac
    obtain ⟨ρ, hρ⟩ : ∃ ρ, Ac.eval = ρ := ⟨_, rfl⟩
    rw [hρ] at a0 hc hf hgl
    exact relPure hρ (.pointer (some ⟨r, 0, none⟩)) (by simp [go_sem, hc, hf, hgl, ↓IntWalk.iteOmega, a0, *]) rfl
  · refine relX_plain rfl rfl Hmn.out (Nat.le_refl _) (fun D u v w w2 hb h => okx_other (by omega) v hb h) ?_
    intro Dn Ac w5 hp
    have hb := hp.bel
    have a32 : Ac.eval (.tmp 32) = .pointer (some ⟨r, 0, none⟩) := hp.dep 4 (by kernel_rfl)
    have hc := evalC Ac; have hf := evalF Ac; have hgl := evalG Ac
    obtain ⟨ρ, hρ⟩ : ∃ ρ, Ac.eval = ρ := ⟨_, rfl⟩
    rw [hρ] at a32 hc hf hgl
    exact relPure hρ (.pointer (some ⟨r, 0, none⟩)) (by simp [go_sem, hc, hf, hgl, ↓IntWalk.iteOmega, a32, *]) rfl
  · refine relX_plain rfl rfl Hmn.out (Nat.le_refl _) (fun D u v w w2 hb h => okx_other (by omega) v hb h) ?_
    intro Dn Ac w5 hp
    have hb := hp.bel
    have a33 : Ac.eval (.tmp 33) = .pointer (some ⟨r, 0, none⟩) := hp.dep 5 (by kernel_rfl)
    have hc := evalC Ac; have hf := evalF Ac; have hgl := evalG Ac
    obtain ⟨ρ, hρ⟩ : ∃ ρ, Ac.eval = ρ := ⟨_, rfl⟩
    rw [hρ] at a33 hc hf hgl
    exact relPure hρ (.pointer (some ⟨r, 1, none⟩)) (by simp [go_sem, hc, hf, hgl, ↓IntWalk.iteOmega, a33, *]) rfl
  · refine relX_plain rfl rfl Hmn.out (Nat.le_refl _) (fun D u v w w2 hb h => okx_other (by omega) v hb h) ?_
    intro Dn Ac w5 hp
    have hb := hp.bel
    have a34 : Ac.eval (.tmp 34) = .pointer (some ⟨r, 1, none⟩) := hp.dep 6 (by kernel_rfl)
    have hc := evalC Ac; have hf := evalF Ac; have hgl := evalG Ac
    obtain ⟨ρ, hρ⟩ : ∃ ρ, Ac.eval = ρ := ⟨_, rfl⟩
    rw [hρ] at a34 hc hf hgl
    exact relPure hρ (.pointer (some ⟨r, 2, none⟩)) (by simp [go_sem, hc, hf, hgl, ↓IntWalk.iteOmega, a34, *]) rfl
  · refine relX_plain rfl rfl Hmn.out (Nat.le_refl _) (fun D u v w w2 hb h => okx_other (by omega) v hb h) ?_
    intro Dn Ac w5 hp
    have hb := hp.bel
    have a35 : Ac.eval (.tmp 35) = .pointer (some ⟨r, 2, none⟩) := hp.dep 7 (by kernel_rfl)
    have hr5 := HR.out.below hb HR.out.lt
    have r0 : w5.cell? ⟨r, 0, none⟩ = some (.int .u32 (own : Int)) := hr5.cell 0
    have r2 : w5.cell? ⟨r, 2, none⟩ = some (.int .u32 (ax : Int)) := hr5.cell 2
    have hc := evalC Ac; have hf := evalF Ac; have hgl := evalG Ac
    obtain ⟨ρ, hρ⟩ : ∃ ρ, Ac.eval = ρ := ⟨_, rfl⟩
    rw [hρ] at a35 hc hf hgl
    exact relPure hρ (.int .u32 (ax : Int)) (by simp [go_sem, hc, hf, hgl, ↓IntWalk.iteOmega, a35, *]) rfl
  · refine relX_plain rfl rfl Hmn.out (Nat.le_refl _) (fun D u v w w2 hb h => okx_other (by omega) v hb h) ?_
    intro Dn Ac w5 hp
    have hb := hp.bel
    have a3 : Ac.eval (.tmp 3) = .pointer (some ⟨w.heap.size, 0, none⟩) := hp.out 3 (by rfl)
    have hc := evalC Ac; have hf := evalF Ac; have hgl := evalG Ac
    obtain ⟨ρ, hρ⟩ : ∃ ρ, Ac.eval = ρ := ⟨_, rfl⟩
    rw [hρ] at a3 hc hf hgl
    exact relPure hρ (.pointer (some ⟨w.heap.size, 1, none⟩)) (by simp [go_sem, hc, hf, hgl, ↓IntWalk.iteOmega, a3, *]) rfl
  · refine relX_plain rfl rfl Hmn.out (Nat.le_refl _) (fun D u v w w2 hb h => okx_other (by omega) v hb h) ?_
    intro Dn Ac w5 hp
    have hb := hp.bel
    have a37 : Ac.eval (.tmp 37) = .pointer (some ⟨w.heap.size, 1, none⟩) := hp.dep 9 (by kernel_rfl)
    have hx5 := HX.out.below hb HX.out.lt
    have x0 : w5.cell? ⟨w.heap.size, 0, none⟩ = some (.slice none 0 0) := hx5.cell 0
    have x1 : w5.cell? ⟨w.heap.size, 1, none⟩ = some (.int .i64 X.has) := hx5.cell 1
    have x2 : w5.cell? ⟨w.heap.size, 2, none⟩ = some (.int .i64 X.org) := hx5.cell 2
    have x3 : w5.cell? ⟨w.heap.size, 3, none⟩ = some (.slice A k c) := hx5.cell 3
    have x4 : w5.cell? ⟨w.heap.size, 4, none⟩ = some (.int .u32 X.hop) := hx5.cell 4
    have x5 : w5.cell? ⟨w.heap.size, 5, none⟩ = some (.int .u32 X.med) := hx5.cell 5
    have x6 : w5.cell? ⟨w.heap.size, 6, none⟩ = some (.int .u32 X.pref) := hx5.cell 6
    have x7 : w5.cell? ⟨w.heap.size, 7, none⟩ = some (.int .u32 X.aas) := hx5.cell 7
    have x8 : w5.cell? ⟨w.heap.size, 8, none⟩ = some (.int .u32 X.aid) := hx5.cell 8
    have x9 : w5.cell? ⟨w.heap.size, 9, none⟩ = some (.slice B m d) := hx5.cell 9
    have x10 : w5.cell? ⟨w.heap.size, 10, none⟩ = some (.slice (some ⟨hh, 0, none⟩) 1 1) := hx5.cell 10
    have hc := evalC Ac; have hf := evalF Ac; have hgl := evalG Ac
    obtain ⟨ρ, hρ⟩ : ∃ ρ, Ac.eval = ρ := ⟨_, rfl⟩
    rw [hρ] at a37 hc hf hgl
    exact relPure hρ (.agg #[.int .i64 X.has, .int .i64 X.org, .slice A k c, .int .u32 X.hop, .int .u32 X.med, .int .u32 X.pref, .int .u32 X.aas, .int .u32 X.aid, .slice B m d]) (by simp [go_sem, hc, hf, hgl, ↓IntWalk.iteOmega, a37, *]) rfl
  · refine relX_op rfl rfl Hmn.out (Nat.le_refl _) ?_
    intro D Ac w5 hp
    have hb := hp.bel
    have a31 : Ac.eval (.tmp 31) = .int .u32 (own : Int) := hp.dep 3 (by kernel_rfl)
    have a36 : Ac.eval (.tmp 36) = .int .u32 (ax : Int) := hp.dep 8 (by kernel_rfl)
    have a38 : Ac.eval (.tmp 38) = .agg #[.int .i64 X.has, .int .i64 X.org, .slice A k c, .int .u32 X.hop, .int .u32 X.med, .int .u32 X.pref, .int .u32 X.aas, .int .u32 X.aid, .slice B m d] := hp.dep 10 (by kernel_rfl)
    have hx := hp.ext
    have hno := hp.no
    have hc := evalC Ac; have hf := evalF Ac; have hgl := evalG Ac
    obtain ⟨ρ, hρ⟩ : ∃ ρ, Ac.eval = ρ := ⟨_, rfl⟩
    rw [hρ] at a31 a36 a38 hc hf hgl
    refine relCallS hρ 157 #[.int .u32 (own : Int), .int .u32 (ax : Int), .agg #[.int .i64 X.has, .int .i64 X.org, .slice A k c, .int .u32 X.hop, .int .u32 X.med, .int .u32 X.pref, .int .u32 X.aas, .int .u32 X.aid, .slice B m d]] (by simp [go_sem, hc, hf, hgl, ↓IntWalk.iteOmega, a31, a36, a38, *]) ?_
    refine (HAcc.out w5 hb).mono ?_
    rintro e w6 ⟨v6, rfl, ho6, hb6⟩
    exact ⟨_, rfl, trivial, hb6, okx_call hx hno hb6 ho6⟩
  · refine relX_op rfl rfl Hmn.out (Nat.le_refl _) ?_
    intro D Ac w5 hp
    have hd : D 11 = true := hp.dn 11 (by kernel_rfl)
    obtain ⟨ρ, hρ⟩ : ∃ ρ, Ac.eval = ρ := ⟨_, rfl⟩
    refine relPureS hρ (Ac.eval (.tmp 39)) (by rw [hρ]; simp [go_sem]) ⟨trivial, Below.refl _ _, ?_⟩
    exact okx_move hp.ext hd
  · refine relX_op rfl rfl Hmn.out (Nat.le_refl _) ?_
    intro D Ac w5 hp
    have hd1 : D 12 = true := hp.dn 12 (by kernel_rfl)
    have hd := hp.ext.d1 hd1
    obtain ⟨A6, n6, c6, B6, m6, d6, hu6⟩ := okx_tup hp.ext hd
    have hu7 := (hp.ext.c1 hd1).trans hu6
    change Ac.eval (.tmp 27) = _ at hu7
    have hx := hp.ext
    obtain ⟨ρ, hρ⟩ : ∃ ρ, Ac.eval = ρ := ⟨_, rfl⟩
    rw [hρ] at hu7
    refine relPureS hρ _ (by simp [go_sem, hu7]) ⟨trivial, Below.refl _ _, okx_ext0 hx hd hu6⟩
  · refine relX_op rfl rfl Hmn.out (Nat.le_refl _) ?_
    intro D Ac w5 hp
    have hd1 : D 12 = true := hp.dn 12 (by kernel_rfl)
    have hd := hp.ext.d1 hd1
    obtain ⟨A6, n6, c6, B6, m6, d6, hu6⟩ := okx_tup hp.ext hd
    have hu7 := (hp.ext.c1 hd1).trans hu6
    change Ac.eval (.tmp 27) = _ at hu7
    have hx := hp.ext
    obtain ⟨ρ, hρ⟩ : ∃ ρ, Ac.eval = ρ := ⟨_, rfl⟩
    rw [hρ] at hu7
    refine relPureS hρ _ (by simp [go_sem, hu7]) ⟨trivial, Below.refl _ _, okx_ext1 hx hd hu6⟩
  · refine relX_op rfl rfl Hmn.out (Nat.le_refl _) ?_
    intro D Ac w5 hp
    obtain ⟨ρ, hρ⟩ : ∃ ρ, Ac.eval = ρ := ⟨_, rfl⟩
    refine relValS hρ (.pointer (some ⟨w5.heap.size, 0, none⟩)) (w5.alloc (.cells zeroC 28)) (by simp [go_sem]) ⟨trivial, (Below.refl _ _).alloc (Nat.le_refl _) _, okx_alloc hp.ext hp.no hp.bel.size⟩
  · refine relX_store rfl ?_
    intro D Ac w5 hp
    have hd4 : D 15 = true := hp.dn 15 (by kernel_rfl)
    have hd2 : D 13 = true := hp.dn 13 (by kernel_rfl)
    have hd := hp.ext.d2 hd2
    obtain ⟨A6, n6, c6, B6, m6, d6, hu6⟩ := okx_tup hp.ext hd
    obtain ⟨y6, z6, hy, hv⟩ := hp.ext.c2 hd2
    rw [hu6] at hy
    simp only [Value.tuple.injEq, Array.mk.injEq, List.cons.injEq, and_true] at hy
    obtain ⟨rfl, rfl⟩ := hy
    obtain ⟨R6, hR6, hB6, ⟨cs6, hk6, hz6⟩, _⟩ := hp.ext.c4 hd4
    obtain rfl := hz6 hp.no
    have hpt := hR6
    change Ac.eval (.tmp 8) = _ at hpt
    change Ac.eval (.tmp 40) = _ at hv
    exact ⟨_, .inl (exec_store rfl hpt hv (storeA hk6)), trivial, below_sets _ 0 (Below.refl _ _) hB6, fun j _ hj => relFlat _ Hfl.out _ _ _ _ (hp.has j hj), okx_store hp.ext hd hd4 hR6 hp.no hu6⟩
  intro u w7 hb7 hall hox
  obtain ⟨R9, A9, n9, c9, B9, m9, d9, hp9, hb9, hB9, hk9, hl9, hu9⟩ := okx_fin hox (by decide) (by decide) (by decide) (by decide) (by decide)
  change u 15 = _ at hp9
  change u 14 = _ at hb9
  clear hall
  simp only [List.drop_succ_cons, List.drop_zero, List.take_succ_cons, List.take_zero, putAll, Act.put, List.setIfInBounds_toArray, List.set_cons_zero, List.set_cons_succ, Nat.zero_add, Nat.reduceAdd, hp9, hb9]
  have HR7 := hide (HR.out.below hb7 HR.out.lt)
  have HG7 := hide (HG.out.below hb7 HG.out.lt)
  have HH7 := hide (HH.out.below hb7 HH.out.lt)
  have HX7 := hide (HX.out.below hb7 HX.out.lt)
  have HB7 := hide (HB0.out.trans (hb7.mono HB0.out.size))
  have HA7 : Hid (Blk w7 R9 28 #[.int .i64 (clrP Y).has, .int .i64 (clrP Y).org, .slice A9 n9 c9, .int .u32 (clrP Y).hop, .int .u32 (clrP Y).med, .int .u32 (clrP Y).pref, .int .u32 (clrP Y).aas, .int .u32 (clrP Y).aid, .slice B9 m9 d9]) := hide hk9
  have HL7 := hide hl9
  have HU7 := hide hu9
  have hR9 : w0.heap.size ≤ R9 := hB9
  have hs0 := HB0.out.size
  have hs7 := HB7.out.size
  have hsz := HS0.out
  clear hb7 hk9 hl9 hu9 hB9
  have x10 : w7.cell? ⟨w.heap.size, 10, none⟩ = some (.slice (some ⟨hh, 0, none⟩) 1 1) := HX7.out.cell 10
  go_wp2
  clear x10
  go_loopw [4, 45] (fun vo iv wr => (iv = .int .i64 0 ∧ vo = .slice none 0 0 ∧ wr = w7) ∨ (iv = .int .i64 1 ∧ ∃ A' c', vo = .slice A' 1 c' ∧ LstAt 2 pxR wr A' 1 c' [(a, n)] ∧ Blk wr r 126 #[.int .u32 (own : Int), .int .u32 0, .int .u32 (ax : Int), .int .i64 0, .bool false, .string ⟨#[]⟩, .string ⟨#[]⟩, .string ⟨#[]⟩, .bool false, .string ⟨#[]⟩, .string ⟨#[]⟩, .string ⟨#[]⟩, .bool false, .pointer (some ⟨g, 0, none⟩)] ∧ FedT a n g (clrP Y) wr ∧ ChgS (fun k => k = g) w wr)) (fun _ iv _ => 1 - (intOf iv).toNat)
  case atStart => exact .inl ⟨rfl, rfl, rfl⟩
  case round =>
    rcases hrel with ⟨rfl, rfl, hwr⟩ | ⟨rfl, A', c', rfl, hl1, hr1, ht1, hc1⟩
    · have hwr' := hwr.symm
      subst hwr'
      clear hwr
      have p0 : w7.cell? ⟨hh, 0, none⟩ = some (.int .u32 (a : Int)) := HH7.out.cell 0
      have p1 : w7.cell? ⟨hh, 1, none⟩ = some (.int .i64 (n : Int)) := HH7.out.cell 1
      obtain ⟨w8, hw8⟩ : ∃ W, w7.alloc (.cells #[.int .u32 (a : Int), .int .i64 (n : Int)] 24) = W := ⟨_, rfl⟩
      have hb8 : Below w7.heap.size w7 w8 := hw8 ▸ blkBelow1 w7 _
      have HP8 : Hid (Blk w8 w7.heap.size 24 #[.int .u32 (a : Int), .int .i64 (n : Int)]) := hide (hw8 ▸ Blk.new w7 _ _)
      have HR8 := hide (HR7.out.below hb8 HR7.out.lt)
      have HG8 := hide (HG7.out.below hb8 HG7.out.lt)
      have HFl := hide (HFu.out w8 HR8.out HG8.out)
      have HB8 := hide hb8
      have HW8 := hide hw8
      clear hw8 hb8
      go_upto_region 11 with fail
      rw [HW8.out]
      clear p0 p1
      have q0 : w8.cell? ⟨w7.heap.size, 0, none⟩ = some (.int .u32 (a : Int)) := HP8.out.cell 0
      have q1 : w8.cell? ⟨w7.heap.size, 1, none⟩ = some (.int .i64 (n : Int)) := HP8.out.cell 1
      go_wp2_with fail
      refine HFl.out.mono ?_
      rintro e w9 ⟨rfl, hb9⟩
      have HB9 := hide (HB8.out.trans (hb9.mono HB8.out.size))
      have HP9 := hide (HP8.out.below hb9 HP8.out.lt)
      have HR9 := hide (HR8.out.below hb9 HR8.out.lt)
      have HA9 := hide (HA7.out.below HB9.out HA7.out.lt)
      clear hb9 q0 q1
      go_upto_region 15 with fail
      have Hmn := hide (show AllMono [(fun v _ => v = .pointer (some ⟨r, 0, none⟩)), (fun v _ => v = .pointer (some ⟨r, 0, none⟩)), (fun v _ => v = .pointer (some ⟨r, 13, none⟩)), (fun v _ => v = .pointer (some ⟨g, 0, none⟩)), (fun v _ => v = .agg #[.int .u32 (a : Int), .int .i64 (n : Int)]), (fun v _ => v = .agg #[.int .i64 (clrP Y).has, .int .i64 (clrP Y).org, .slice A9 n9 c9, .int .u32 (clrP Y).hop, .int .u32 (clrP Y).med, .int .u32 (clrP Y).pref, .int .u32 (clrP Y).aas, .int .u32 (clrP Y).aid, .slice B9 m9 d9])] from ⟨fun _ _ _ _ h => h, fun _ _ _ _ h => h, fun _ _ _ _ h => h, fun _ _ _ _ h => h, fun _ _ _ _ h => h, fun _ _ _ _ h => h, trivial⟩)
      refine wp_region_relT 6 _ (by kernel_rfl) (by kernel_rfl) (by kernel_rfl) (by kernel_rfl) (by kernel_rfl) (relMono _ Hmn.out) ⟨?_, ?_, ?_, ?_, ?_, ?_, trivial⟩ ?_
      · refine relStep_plain rfl ?_
        intro Ac w5 hp
        have hb := hp.bel
        have a0 : Ac.eval (.tmp 0) = .pointer (some ⟨r, 0, none⟩) := hp.out 0 (by rfl)
        have hc := evalC Ac; have hf := evalF Ac; have hgl := evalG Ac
        obtain ⟨ρ, hρ⟩ : ∃ ρ, Ac.eval = ρ := ⟨_, rfl⟩
        rw [hρ] at a0 hc hf hgl
        exact relPure hρ (.pointer (some ⟨r, 0, none⟩)) (by simp [go_sem, hc, hf, hgl, ↓IntWalk.iteOmega, a0, *]) rfl
      · refine relStep_plain rfl ?_
        intro Ac w5 hp
        have hb := hp.bel
        have a68 : Ac.eval (.tmp 68) = .pointer (some ⟨r, 0, none⟩) := hp.dep 0 (by kernel_rfl)
        have hc := evalC Ac; have hf := evalF Ac; have hgl := evalG Ac
        obtain ⟨ρ, hρ⟩ : ∃ ρ, Ac.eval = ρ := ⟨_, rfl⟩
        rw [hρ] at a68 hc hf hgl
        exact relPure hρ (.pointer (some ⟨r, 0, none⟩)) (by simp [go_sem, hc, hf, hgl, ↓IntWalk.iteOmega, a68, *]) rfl
      · refine relStep_plain rfl ?_
        intro Ac w5 hp
        have hb := hp.bel
        have a69 : Ac.eval (.tmp 69) = .pointer (some ⟨r, 0, none⟩) := hp.dep 1 (by kernel_rfl)
        have hc := evalC Ac; have hf := evalF Ac; have hgl := evalG Ac
        obtain ⟨ρ, hρ⟩ : ∃ ρ, Ac.eval = ρ := ⟨_, rfl⟩
        rw [hρ] at a69 hc hf hgl
        exact relPure hρ (.pointer (some ⟨r, 13, none⟩)) (by simp [go_sem, hc, hf, hgl, ↓IntWalk.iteOmega, a69, *]) rfl
      · refine relStep_plain rfl ?_
        intro Ac w5 hp
        have hb := hp.bel
        have a70 : Ac.eval (.tmp 70) = .pointer (some ⟨r, 13, none⟩) := hp.dep 2 (by kernel_rfl)
        have hr5 := HR9.out.below hb HR9.out.lt
        have r13 : w5.cell? ⟨r, 13, none⟩ = some (.pointer (some ⟨g, 0, none⟩)) := hr5.cell 13
        have hc := evalC Ac; have hf := evalF Ac; have hgl := evalG Ac
        obtain ⟨ρ, hρ⟩ : ∃ ρ, Ac.eval = ρ := ⟨_, rfl⟩
        rw [hρ] at a70 hc hf hgl
        exact relPure hρ (.pointer (some ⟨g, 0, none⟩)) (by simp [go_sem, hc, hf, hgl, ↓IntWalk.iteOmega, a70, *]) rfl
      · refine relStep_plain rfl ?_
        intro Ac w5 hp
        have hb := hp.bel
        have a11 : Ac.eval (.tmp 11) = .pointer (some ⟨w7.heap.size, 0, none⟩) := hp.out 11 (by rfl)
        have hx5 := HP9.out.below hb HP9.out.lt
        have x0 : w5.cell? ⟨w7.heap.size, 0, none⟩ = some (.int .u32 (a : Int)) := hx5.cell 0
        have x1 : w5.cell? ⟨w7.heap.size, 1, none⟩ = some (.int .i64 (n : Int)) := hx5.cell 1
        have hc := evalC Ac; have hf := evalF Ac; have hgl := evalG Ac
        obtain ⟨ρ, hρ⟩ : ∃ ρ, Ac.eval = ρ := ⟨_, rfl⟩
        rw [hρ] at a11 hc hf hgl
        exact relPure hρ (.agg #[.int .u32 (a : Int), .int .i64 (n : Int)]) (by simp [go_sem, hc, hf, hgl, ↓IntWalk.iteOmega, a11, *]) rfl
      · refine relStep_plain rfl ?_
        intro Ac w5 hp
        have hb := hp.bel
        have a8 : Ac.eval (.tmp 8) = .pointer (some ⟨R9, 0, none⟩) := hp.out 8 (by rfl)
        have ha5 := HA9.out.below hb HA9.out.lt
        have y0 : w5.cell? ⟨R9, 0, none⟩ = some (.int .i64 (clrP Y).has) := ha5.cell 0
        have y1 : w5.cell? ⟨R9, 1, none⟩ = some (.int .i64 (clrP Y).org) := ha5.cell 1
        have y2 : w5.cell? ⟨R9, 2, none⟩ = some (.slice A9 n9 c9) := ha5.cell 2
        have y3 : w5.cell? ⟨R9, 3, none⟩ = some (.int .u32 (clrP Y).hop) := ha5.cell 3
        have y4 : w5.cell? ⟨R9, 4, none⟩ = some (.int .u32 (clrP Y).med) := ha5.cell 4
        have y5 : w5.cell? ⟨R9, 5, none⟩ = some (.int .u32 (clrP Y).pref) := ha5.cell 5
        have y6 : w5.cell? ⟨R9, 6, none⟩ = some (.int .u32 (clrP Y).aas) := ha5.cell 6
        have y7 : w5.cell? ⟨R9, 7, none⟩ = some (.int .u32 (clrP Y).aid) := ha5.cell 7
        have y8 : w5.cell? ⟨R9, 8, none⟩ = some (.slice B9 m9 d9) := ha5.cell 8
        have hc := evalC Ac; have hf := evalF Ac; have hgl := evalG Ac
        obtain ⟨ρ, hρ⟩ : ∃ ρ, Ac.eval = ρ := ⟨_, rfl⟩
        rw [hρ] at a8 hc hf hgl
        exact relPure hρ (.agg #[.int .i64 (clrP Y).has, .int .i64 (clrP Y).org, .slice A9 n9 c9, .int .u32 (clrP Y).hop, .int .u32 (clrP Y).med, .int .u32 (clrP Y).pref, .int .u32 (clrP Y).aas, .int .u32 (clrP Y).aid, .slice B9 m9 d9]) (by simp [go_sem, hc, hf, hgl, ↓IntWalk.iteOmega, a8, *]) rfl
      intro u w10 hb7 hall
      have e71 : u 3 = .pointer (some ⟨g, 0, none⟩) := relAll_at hall (i := 3) (by decide +kernel)
      have e72 : u 4 = .agg #[.int .u32 (a : Int), .int .i64 (n : Int)] := relAll_at hall (i := 4) (by decide +kernel)
      have e73 : u 5 = .agg #[.int .i64 (clrP Y).has, .int .i64 (clrP Y).org, .slice A9 n9 c9, .int .u32 (clrP Y).hop, .int .u32 (clrP Y).med, .int .u32 (clrP Y).pref, .int .u32 (clrP Y).aas, .int .u32 (clrP Y).aid, .slice B9 m9 d9] := relAll_at hall (i := 5) (by decide +kernel)
      clear hall
      simp only [List.drop_succ_cons, List.drop_zero, List.take_succ_cons, List.take_zero, putAll, Act.put, List.setIfInBounds_toArray, List.set_cons_zero, List.set_cons_succ, Nat.zero_add, Nat.reduceAdd, e71, e72, e73]
      have HB10 := hide (HB9.out.trans (hb7.mono HB9.out.size))
      have HG10 := hide (HG7.out.below HB10.out HG7.out.lt)
      have HR10 := hide (HR7.out.below HB10.out HR7.out.lt)
      have HP10 := hide (HP9.out.below hb7 HP9.out.lt)
      have hs10 := HB10.out.size
      have HPt := hide (puteA_any (R := atR) (F := fun k => k < w10.heap.size ∧ k ≠ g) g a n (clrP Y) (clrP Y).has (clrP Y).org A9 n9 c9 (clrP Y).hop (clrP Y).med (clrP Y).pref (clrP Y).aas (clrP Y).aid B9 m9 d9 w10 HPg.out HG10.out (fun k h => h.1) (fun W ha => ⟨A9, n9, c9, B9, m9, d9, rfl, sgs_frs HG10.out (HL7.out.below sgMono HB10.out) W ha, u32s_frs HG10.out (HU7.out.below HB10.out) W ha⟩) (fun h => h.2 rfl))
      clear hb7 e71 e72 e73
      go_wp2_with fail
      refine HPt.out.mono ?_
      rintro e w11 ⟨rfl, b, hbb, hk11, ht11, hc11⟩
      have hgr := Hgr.out
      have hp7 : w7.heap.size < w10.heap.size := HP10.out.lt
      have HP11 := hide (chg_blk hc11 HP10.out (show ¬ (w7.heap.size = g) by omega))
      have HR11 := hide (chg_blk hc11 HR10.out (show ¬ (r = g) by omega))
      have HT11 : Hid (FedT a n g (clrP Y) w11) := hide ⟨b, _, hk11, ht11⟩
      have HC11 : Hid (ChgS (fun k => k = g) w w11) := hide (chg_trans (chg_below (HB7.out.trans (HB10.out.mono HB7.out.size))) hc11 (fun k h => .inl h))
      have hs11 := hc11.size
      clear hk11 ht11 hc11 hbb
      have q0 : w11.cell? ⟨w7.heap.size, 0, none⟩ = some (.int .u32 (a : Int)) := HP11.out.cell 0
      have q1 : w11.cell? ⟨w7.heap.size, 1, none⟩ = some (.int .i64 (n : Int)) := HP11.out.cell 1
      go_wp2_with (at_builtin; refine wpList_append_any _ rfl (.tmp 75) (.tmp 77) 45 rfl w11.heap.size 24 i0 _ 2 16 Tryz.underlying45 hi hz0 hz1 hz2 rfl (by decide) (.slice none 0 0) 0 [] rfl (World.ownsRow_nil _ _ _ _) (w11.heap.size + 1) (some ⟨w11.heap.size, 0, none⟩) 1 1 [.int .u32 (a : Int), .int .i64 (n : Int)] rfl (reads_blkN (Blk.new _ _ _) (by simp) rfl rfl) (by simp [Value.oneCell']) (by unfold maxLen; omega) (by omega) (by simp) ?_; intro v' w12 h5 h6 h7)
      go_roundw
      case rel =>
        have hb12 : Below w11.heap.size w11 w12 := ((Below.refl _ _).alloc (Nat.le_refl _) _).grown h6 (by simp) (fun k hk => by simp [Value.ownBlock] at hk)
        rw [Nat.zero_add, List.nil_append] at h5
        obtain ⟨A', c', rfl⟩ := own_slice h5
        obtain ⟨b, F, hT1, hT2⟩ := HT11.out
        exact .inr ⟨by go_num, A', c', rfl, own_pxs (l := [(a, n)]) h5, HR11.out.below hb12 HR11.out.lt, ⟨b, F, hT1.below hb12 hT1.lt, hT2.chg (S := fun _ => False) (chg_below hb12) (by simp) (by simp)⟩, chg_trans HC11.out (chg_below (S := fun _ => False) hb12) (fun k h => h.elim)⟩
      case measure => simp [intOf]
    · have HL1 := hide hl1
      have HR1 := hide hr1
      have HT1 := hide ht1
      have HC1 := hide hc1
      clear hl1 hr1 ht1 hc1
      go_wp2
      refine bodyPost_ret (v := .tuple #[.slice A' 1 c', .bool false]) (by simp [results, Tryz.results92, go_sem]) rfl ⟨A', c', rfl, HL1.out, HR1.out, HT1.out, HC1.out⟩
end Go.Proofs.YtcinjckajnnhmaaGreat
set_option linter.unusedSimpArgs false
set_option linter.unusedVariables false
namespace Go.Proofs.YtcinjckajnnhmaaGreat
open Go.RowKit Go.WideShapes Go.ChangeShapes
attribute [local go_sem] Oper.semAt_some
theorem ltK (x y : Nat) : ltOf cfK x y = decide (nk x < nk y) := by
  unfold ltOf cfK
  by_cases h : nk x < nk y
  · simp [h]
  · rw [if_neg h]
    by_cases h2 : nk x = nk y
    · simp [h2]
    · simp [h, h2]
theorem swoK : Go.Sort.SWO (ltOf cfK) := by
  refine ⟨fun x => ?_, fun x y z h1 h2 => ?_, fun x y z h1 h2 => ?_⟩
  · rw [ltK]; simp
  · rw [ltK] at *; simp at *; omega
  · rw [ltK] at *; simp at *; omega
theorem flatK_pk (d : Array Nat) : Go.Sort.flatK enK 2 d = (pkC d.toList).toArray := by
  refine Go.Sort.ext_get! (by simp [pkC_len]) fun t ht => ?_
  have ht' : t < d.size * 2 := by simpa using ht
  rw [Go.Sort.get_flatK _ _ _ _ ht']
  have hx : d.toList[t / 2]? = some d[t / 2]! := by simp [show t / 2 < d.size by omega]
  have h1 := flat2 enK enK_len d.toList (t / 2) (t % 2) _ hx (by omega)
  rw [show t / 2 * 2 + t % 2 = t by omega] at h1
  have h2 : t % 2 < (enK d[t / 2]!).length := by rw [enK_len]; omega
  have h3 : t < (pkC d.toList).toArray.size := by simp [pkC_len]; omega
  rw [getElem!_pos (enK d[t / 2]!) _ h2, getElem!_pos (pkC d.toList).toArray _ h3]
  have h4 : t < (d.toList.flatMap enK).length := by rw [flat2_len enK enK_len]; simpa using ht'
  rw [List.getElem?_eq_getElem h2, List.getElem?_eq_getElem h4] at h1
  exact (Option.some.inj h1).symm
theorem PkRow.holds {base g cap : Nat} {w : World} {d : Array Nat} (h : PkRow base g cap w d) : Go.Sort.HoldsK enK 2 w g 0 d := by
  unfold Go.Sort.HoldsK
  rw [flatK_pk]
  intro t ht
  have ht' : t < d.size * 2 := by simpa [pkC_len] using ht
  refine ⟨?_, h.1.frozenAt _⟩
  rw [Nat.zero_add, h.1.cellAt t ht', getElem!_pos _ t ht]
  simp [show t < (pkC d.toList).length by rw [pkC_len]; simpa using ht']
theorem PkRow.sorted {base g cap n : Nat} {w : World} {d d' : Array Nat} {os : Array Obj} (h : PkRow base g cap w d) (hs : d'.size = d.size) (hv : ∀ x ∈ d'.toList, nk x = x) :
    PkRow base g cap (sortWorldK enK 2 w g 0 n d' os) d' ∧ Below base w (sortWorldK enK 2 w g 0 n d' os) := by
  have hH := h.holds
  unfold Go.Sort.HoldsK at hH
  rw [flatK_pk] at hH
  have hlen : (pkC d'.toList).length = (pkC d.toList).length := by rw [pkC_len, pkC_len]; simp [hs]
  have e : sortWorldK enK 2 w g 0 n d' os = Go.Sort.grow ((w.drewN n).setCells g 0 (pkC d'.toList)) os := by
    unfold sortWorldK Go.Sort.putRowK
    rw [flatK_pk, Go.Lib.putRow_eq_setCells id w g 0 (pkC d.toList).toArray (pkC d'.toList) n hH (by simp [hlen]), List.map_id]
  rw [e]
  have h1 := own_setCellsK (pkC d'.toList) 0 (h.drewN n).1 (by rw [Nat.zero_add, pkC_len]; simp [hs])
  have e2 : List.take 0 (pkC d.toList) ++ pkC d'.toList ++ List.drop (0 + (pkC d'.toList).length) (pkC d.toList) = pkC d'.toList := by
    rw [Nat.zero_add, hlen, List.drop_length]; simp
  rw [e2] at h1
  have hb1 : Below base w ((w.drewN n).setCells g 0 (pkC d'.toList)) := below_clear h.2.2.1 _ _ (below_drewN (Below.refl _ _) _)
  have hgs : Below ((w.drewN n).setCells g 0 (pkC d'.toList)).heap.size ((w.drewN n).setCells g 0 (pkC d'.toList)) (Go.Sort.grow ((w.drewN n).setCells g 0 (pkC d'.toList)) os) := Lib.below_grow _ _ (Nat.le_refl _) 0 os
  have hbs : base ≤ w.heap.size := Nat.le_trans h.2.2.1 (Nat.le_of_lt h.2.2.2.1)
  have hszs : ((w.drewN n).setCells g 0 (pkC d'.toList)).heap.size = w.heap.size := sizeSetCells _ _ _ _
  refine ⟨⟨?_, hv, h.2.2.1, Nat.lt_of_lt_of_le (by rw [hszs]; exact h.2.2.2.1) hgs.size, by rw [hs]; exact h.2.2.2.2.1, h.2.2.2.2.2⟩, hb1.trans (hgs.mono (by rw [hszs]; exact hbs))⟩
  have := own_kept h1 hgs
  rw [hs]
  exact this
theorem up_of_sorted {d : Array Nat} (h : Go.Sort.SortedIn (ltOf cfK) 0 d.size d) (hv : ∀ j : Nat, nk (d[j]! : Nat) = d[j]!) : Up d := by
  intro i hi
  have := h i (i + 1) (Nat.zero_le _) (by omega) hi
  rw [ltK, hv, hv] at this
  simpa using this
theorem cmpLaysK (g off size : Nat) (w : World) : CmpLays Tryz.prog 153 #[] enK 2 cfK g off size w := by
  intro m os dk hs x y
  refine (cmpD _ _ _ _ (nk_pg x) (nk_pg y) _).mono ?_
  rintro e w' ⟨rfl, hb, hd⟩
  rw [cmpK]
  exact ⟨rfl, gr_of hb hd⟩
theorem enK_one (x : Nat) : ∀ v ∈ enK x, v.oneCell' = true := by
  intro v hv
  simp [enK] at hv
  rcases hv with rfl | rfl <;> rfl
theorem permIn_whole {d d' : Array Nat} (h : Go.Sort.PermIn 0 d.size d d') : d'.size = d.size ∧ d'.toList.Perm d.toList := by
  obtain ⟨h1, _, h3⟩ := h
  refine ⟨h1, ?_⟩
  have e1 : d.extract 0 d.size = d := by simp
  have e2 : d'.extract 0 d.size = d' := by rw [← h1]; simp
  rw [e1, e2] at h3
  exact h3
theorem pxSortF_any (base g cap : Nat) (d : Array Nat) (w : World) (h : PkRow base g cap w d) (hsz : d.size ≤ 100000) :
    Calls Tryz.prog 152 #[.slice (some ⟨g, 0, none⟩) d.size cap, .func (.func 153) #[] #[]] w fun e w' => e = .returned (.tuple #[]) ∧ ∃ d' : Array Nat, PkRow base g cap w' d' ∧ Up d' ∧ d'.size = d.size ∧ d'.toList.Perm d.toList ∧ Below base w w' := by
  refine (Tryz.slices_SortFunc_px enK enK_len enK_one cfK swoK 153 #[] g 0 cap d w (fun args W => by simp [callFunc, go_sem, Tryz.func153]; rfl) (cmpLaysK g 0 d.size w) h.holds h.2.2.2.1 (by omega)).mono ?_
  rintro e w' ⟨rfl, d', n, os, hp, hs, rfl⟩
  obtain ⟨hz, hpm⟩ := permIn_whole hp
  have hv : ∀ x ∈ d'.toList, nk x = x := fun x hx => h.2.1 x ((hpm.mem_iff).1 hx)
  obtain ⟨hr, hb⟩ := h.sorted (n := n) (os := os) hz hv
  exact ⟨rfl, d', hr, up_of_sorted (by rw [hz]; exact hs) (fun j => hr.val j), hz, hpm, hb⟩
theorem sortP_perm {l r : List Nat} (h : l.Perm r) : setOf l = setOf r :=
  rise_ext (setOf_rise _) (setOf_rise _) (fun x => by rw [setOf_mem, setOf_mem]; exact h.mem_iff)
theorem pkC_map {l : List (Nat × Nat)} (hg : ∀ x ∈ l, PG x.1 x.2) : pkC (l.map pK) = pxC l := by
  rw [pkC_pxC _ (fun x hx => by obtain ⟨y, hy, rfl⟩ := List.mem_map.1 hx; exact nk_pK (hg y hy)), map_unK hg]
theorem pkC_setOf {l : List (Nat × Nat)} (hg : ∀ x ∈ l, PG x.1 x.2) : pkC (setOf (l.map pK)) = pxC (sortP l) :=
  pkC_pxC _ (fun x hx => by
    rw [setOf_mem] at hx
    obtain ⟨y, hy, rfl⟩ := List.mem_map.1 hx
    exact nk_pK (hg y hy))
set_option maxRecDepth 100000 in
set_option maxHeartbeats 4000000 in
/-- nlri.Sort of good prefixes. -/
theorem nSort_any (A : Option Addr) (n c : Nat) (l : List (Nat × Nat)) (w : World) (h : LstAt 2 pxR w A n c l) (hg : ∀ x ∈ l, PG x.1 x.2) (hn : n ≤ 100000) :
    Calls Tryz.prog 87 #[.slice A n c] w fun e w' => ∃ A' c', e = .returned (.slice A' (sortP l).length c') ∧ w'.ownsRow w.heap.size 24 2 (.slice A' (sortP l).length c') (sortP l).length (pxC (sortP l)) ∧ Below w.heap.size w w' := by
  have H1 := hide (pxClone_any A n c l w h hn)
  have H2 := hide (fun A c W (h : LstAt 2 pxR W A n c l) => pxDelete_good A n c l W h hg)
  have H3 := hide (fun f W => pxSortF_nil f W)
  have H4 := hide (fun W => pxCompact_nil W)
  have H5 := hide (fun base g cap (d : Array Nat) W (hr : PkRow base g cap W d) (hz : d.size ≤ 100000) => pxSortF_any base g cap d W hr hz)
  have H6 := hide (fun base g cap (d : Array Nat) W (hr : PkRow base g cap W d) hu (hz : d.size ≤ 100000) => pxCompact_any base g cap d W hr hu hz)
  have HG := hide hg
  have hln := h.1
  clear h hg
  go_enter Tryz.func87, Tryz.ntmps87
  go_wp2_with fail
  refine H1.out.mono ?_
  rintro e w1 ⟨v, rfl, ho, hb1⟩
  rcases ho.2 with ⟨rfl, h0⟩ | ⟨g, cap, cur, rfl, hbg, hcur, hnc, hcm, _, _⟩
  · subst h0
    have hl : l = [] := List.eq_nil_of_length_eq_zero hln
    have HB1 := hide hb1
    have HE : Hid (sortP l = []) := hide (by rw [hl]; rfl)
    have H2' := hide (H2.out none 0 w1 (by rw [hl]; exact LstAt.none_))
    clear ho hb1 hl
    go_wp2_with fail
    refine H2'.out.mono ?_
    rintro e w2 ⟨rfl, hb2⟩
    have HB2 := hide (HB1.out.trans (hb2.mono HB1.out.size))
    clear hb2
    go_wp2_with fail
    refine (H3.out _ _).mono ?_
    rintro e w3 ⟨rfl, rfl⟩
    go_wp2_with fail
    refine (H4.out _).mono ?_
    rintro e w3 ⟨rfl, rfl⟩
    go_wp2
    go_ret
    refine ⟨none, 0, by rw [HE.out]; rfl, ?_, HB2.out⟩
    rw [HE.out]
    exact World.ownsRow_nil _ _ _ _
  · have hgl : g < w1.heap.size := (Array.getElem?_eq_some_iff.1 hcur).1
    obtain ⟨d, hd⟩ : ∃ d : Array Nat, (l.map pK).toArray = d := ⟨_, rfl⟩
    have hdt : d.toList = l.map pK := by rw [← hd]
    have hds : d.size = n := by rw [← hd]; simp [hln]
    have hbs := hb1.size
    have HR1 : Hid (PkRow w.heap.size g cap w1 d) := hide ⟨by rw [hdt, pkC_map HG.out, hds]; exact ho, fun x hx => by
      rw [hdt] at hx
      obtain ⟨y, hy, rfl⟩ := List.mem_map.1 hx
      exact nk_pK (HG.out y hy), hbg, hgl, by omega, hcm⟩
    have H2' := hide (H2.out (some ⟨g, 0, none⟩) cap w1 (own_pxs ho))
    have HB1 := hide hb1
    have HDt := hide hdt
    have HDs := hide hds
    clear ho hb1 hd hdt hds hcur
    go_wp2_with fail
    refine H2'.out.mono ?_
    rintro e w2 ⟨rfl, hb2⟩
    have HB2 := hide (HB1.out.trans (hb2.mono HB1.out.size))
    have HR2 : Hid (PkRow w.heap.size g cap w2 d) := hide ⟨own_kept HR1.out.1 hb2, HR1.out.2.1, HR1.out.2.2.1, Nat.lt_of_lt_of_le HR1.out.2.2.2.1 hb2.size, HR1.out.2.2.2.2⟩
    have H5' := hide (H5.out _ _ _ d w2 HR2.out (by rw [HDs.out]; exact hn))
    rw [HDs.out] at H5'
    clear hb2
    go_wp2_with fail
    refine H5'.out.mono ?_
    rintro e w3 ⟨rfl, d', hr3, hu3, hz3, hp3, hb3⟩
    have HR3 := hide hr3
    have HP3 := hide hp3
    have HZ3 := hide hz3
    have HB3 := hide (HB2.out.trans hb3)
    have H6' := hide (H6.out _ _ _ d' w3 hr3 hu3 (by rw [hz3]; exact hn))
    rw [hz3] at H6'
    clear hr3 hu3 hz3 hp3 hb3
    go_wp2_with fail
    refine H6'.out.mono ?_
    rintro e w4 ⟨m, rfl, hm, ho4, hb4⟩
    have HM := hide hm
    have HO4 := hide ho4
    have HB4 := hide (HB3.out.trans hb4)
    clear hm ho4 hb4
    go_wp2
    go_ret
    have e1 : setOf d'.toList = setOf (l.map pK) := by rw [sortP_perm HP3.out, HDt.out]
    have e2 : (sortP l).length = m := by rw [HM.out, e1]; simp [sortP]
    have ho := HO4.out
    rw [e1, pkC_setOf HG.out] at ho
    exact ⟨some ⟨g, 0, none⟩, cap, by rw [e2]; rfl, by rw [e2]; exact ho, HB4.out⟩
end Go.Proofs.YtcinjckajnnhmaaGreat
set_option linter.unusedSimpArgs false
set_option linter.unusedVariables false
namespace Go.Proofs.YtcinjckajnnhmaaGreat
open Go.RowKit Go.WideShapes Go.ChangeShapes
attribute [local go_sem] Oper.semAt_some
theorem lst_px1 {w : World} {hh a n : Nat} (hH : Blk w hh 24 #[.int .u32 (a : Int), .int .i64 (n : Int)]) : LstAt 2 pxR w (some ⟨hh, 0, none⟩) 1 1 [(a, n)] := by
  refine ⟨rfl, Nat.le_refl _, by unfold maxLen; omega, fun _ => ⟨_, _, rfl, hH.lt, fun k x hx => ?_⟩⟩
  have hk0 : k = 0 := by
    have := (List.getElem?_eq_some_iff.1 hx).1
    simp at this
    exact this
  subst hk0
  simp only [List.getElem?_cons_zero, Option.some.injEq] at hx
  subst hx
  refine ⟨[.int .u32 (a : Int), .int .i64 (n : Int)], rfl, rfl, fun j v hj => ?_⟩
  rw [Nat.zero_mul, Nat.add_zero, Nat.zero_add, hH.cell j]
  simpa using hj
theorem sortP_one {a n : Nat} (h : PG a n) : sortP [(a, n)] = [(a, n)] := by
  have e : setOf [pK (a, n)] = [pK (a, n)] := rfl
  unfold sortP
  rw [List.map_cons, List.map_nil, e, List.map_cons, List.map_nil, unK_pK h]
set_option maxRecDepth 100000 in
set_option maxHeartbeats 8000000 in
theorem Feed1_any (own ax r g a n hh : Nat) (X Y : AT) (rr : List Nat) (sl : List SG) (A : Option Addr) (k c : Nat) (B : Option Addr) (m d : Nat) (w : World) (ha : PG a n) (hr : Blk w r 126 #[.int .u32 (own : Int), .int .u32 0, .int .u32 (ax : Int), .int .i64 0, .bool false, .string ⟨#[]⟩, .string ⟨#[]⟩, .string ⟨#[]⟩, .bool false, .string ⟨#[]⟩, .string ⟨#[]⟩, .string ⟨#[]⟩, .bool false, .pointer (some ⟨g, 0, none⟩)]) (hg : Blk w g 201 #[.pointer none]) (hgr : g ≠ r) (hH : Blk w hh 24 #[.int .u32 (a : Int), .int .i64 (n : Int)]) (hhg : hh ≠ g) (hP : LstAt 2 sgR w A k c X.path) (hC : U32s w B m d X.comms) (hY : normA X = Y) (hne : own ≠ ax) (hf : X.path = ⟨2, ax :: rr⟩ :: sl) (hha : pathHas X.path own = false) (hN : normA X = X) (hb1 : attB X.has 1 = true) (hb2 : attB X.has 2 = true) (h0 : 0 ≤ X.org) (h02 : X.org ≤ 2) (hcm : X.comms.length ≤ 255) (hho : attB X.has 3 = true ∧ X.hop = 5) (hpo : normS X.path = X.path) (hpl : ∀ x ∈ X.path, 1 ≤ x.r.length ∧ x.r.length ≤ 255) (hpn : X.path.length ≤ 100) (hnum : numS X.path ≤ 2000) :
    Calls Tryz.prog 43 #[.pointer (some ⟨r, 0, none⟩), .agg #[.slice none 0 0, .int .i64 X.has, .int .i64 X.org, .slice A k c, .int .u32 X.hop, .int .u32 X.med, .int .u32 X.pref, .int .u32 X.aas, .int .u32 X.aid, .slice B m d, .slice (some ⟨hh, 0, none⟩) 1 1]] w fun e w' => ∃ A' c', e = .returned (.tuple #[.slice A' 1 c', .bool false]) ∧ LstAt 2 pxR w' A' 1 c' [(a, n)] ∧ Blk w' r 126 #[.int .u32 (own : Int), .int .u32 0, .int .u32 (ax : Int), .int .i64 0, .bool false, .string ⟨#[]⟩, .string ⟨#[]⟩, .string ⟨#[]⟩, .bool false, .string ⟨#[]⟩, .string ⟨#[]⟩, .string ⟨#[]⟩, .bool false, .pointer (some ⟨g, 0, none⟩)] ∧ FedT a n g (clrP Y) w' ∧ ChgS (fun k => k = g) w w' := by
  obtain ⟨w0, hw0⟩ : ∃ w0, w.alloc (.cells #[.slice none 0 0, .int .i64 X.has, .int .i64 X.org, .slice A k c, .int .u32 X.hop, .int .u32 X.med, .int .u32 X.pref, .int .u32 X.aas, .int .u32 X.aid, .slice B m d, .slice (some ⟨hh, 0, none⟩) 1 1] 81) = w0 := ⟨_, rfl⟩
  have hb0 : Below w.heap.size w w0 := hw0 ▸ blkBelow1 w _
  have HX : Hid (Blk w0 w.heap.size 81 #[.slice none 0 0, .int .i64 X.has, .int .i64 X.org, .slice A k c, .int .u32 X.hop, .int .u32 X.med, .int .u32 X.pref, .int .u32 X.aas, .int .u32 X.aid, .slice B m d, .slice (some ⟨hh, 0, none⟩) 1 1]) := hide (hw0 ▸ Blk.new w _ _)
  have HUg := hide (fun W (hb : Below w.heap.size w W) => updGood_own none (some ⟨hh, 0, none⟩) 0 0 1 1 [] [(a, (n : Int))] X A k c B m d W LstAt.none_ (pz_of_px (lst_px1 (hH.below hb hH.lt)) (by simpa using ha)) (by simp) (by simpa using good_pg ha) (by omega) (hP.below sgMono hb) (hC.below hb) hN hb1 hb2 h0 h02 hcm hho hpo hpl hpn hnum)
  have HFe := hide (fun W (hb : Below w.heap.size w W) => feed1_any own ax r g a n hh X Y rr sl A k c B m d W ha (hr.below hb hr.lt) (hg.below hb hg.lt) hgr (hH.below hb hH.lt) hhg (hP.below sgMono hb) (hC.below hb) (by omega) (by omega) hY hne hf hha)
  have HPg := hide ha
  have HB0 := hide hb0
  have HW0 := hide hw0
  clear hw0 hb0 hr hg hH hP hC hY hne hf hha hhg hgr hN hb1 hb2 h0 h02 hcm hho hpo hpl hpn hnum ha
  have x0 : w0.cell? ⟨w.heap.size, 0, none⟩ = some (.slice none 0 0) := HX.out.cell 0
  have x1 : w0.cell? ⟨w.heap.size, 1, none⟩ = some (.int .i64 X.has) := HX.out.cell 1
  have x2 : w0.cell? ⟨w.heap.size, 2, none⟩ = some (.int .i64 X.org) := HX.out.cell 2
  have x3 : w0.cell? ⟨w.heap.size, 3, none⟩ = some (.slice A k c) := HX.out.cell 3
  have x4 : w0.cell? ⟨w.heap.size, 4, none⟩ = some (.int .u32 X.hop) := HX.out.cell 4
  have x5 : w0.cell? ⟨w.heap.size, 5, none⟩ = some (.int .u32 X.med) := HX.out.cell 5
  have x6 : w0.cell? ⟨w.heap.size, 6, none⟩ = some (.int .u32 X.pref) := HX.out.cell 6
  have x7 : w0.cell? ⟨w.heap.size, 7, none⟩ = some (.int .u32 X.aas) := HX.out.cell 7
  have x8 : w0.cell? ⟨w.heap.size, 8, none⟩ = some (.int .u32 X.aid) := HX.out.cell 8
  have x9 : w0.cell? ⟨w.heap.size, 9, none⟩ = some (.slice B m d) := HX.out.cell 9
  have x10 : w0.cell? ⟨w.heap.size, 10, none⟩ = some (.slice (some ⟨hh, 0, none⟩) 1 1) := HX.out.cell 10
  go_enter Tryz.func43, Tryz.ntmps43
  go_wp2_with fail
  rw [HW0.out]
  refine (HUg.out _ HB0.out).mono ?_
  rintro e w1 ⟨rfl, hb1⟩
  have HB1 := hide (HB0.out.trans (hb1.mono HB0.out.size))
  have HX1 := hide (HX.out.below hb1 HX.out.lt)
  clear hb1 x0 x1 x2 x3 x4 x5 x6 x7 x8 x9 x10
  have y0 : w1.cell? ⟨w.heap.size, 0, none⟩ = some (.slice none 0 0) := HX1.out.cell 0
  have y1 : w1.cell? ⟨w.heap.size, 1, none⟩ = some (.int .i64 X.has) := HX1.out.cell 1
  have y2 : w1.cell? ⟨w.heap.size, 2, none⟩ = some (.int .i64 X.org) := HX1.out.cell 2
  have y3 : w1.cell? ⟨w.heap.size, 3, none⟩ = some (.slice A k c) := HX1.out.cell 3
  have y4 : w1.cell? ⟨w.heap.size, 4, none⟩ = some (.int .u32 X.hop) := HX1.out.cell 4
  have y5 : w1.cell? ⟨w.heap.size, 5, none⟩ = some (.int .u32 X.med) := HX1.out.cell 5
  have y6 : w1.cell? ⟨w.heap.size, 6, none⟩ = some (.int .u32 X.pref) := HX1.out.cell 6
  have y7 : w1.cell? ⟨w.heap.size, 7, none⟩ = some (.int .u32 X.aas) := HX1.out.cell 7
  have y8 : w1.cell? ⟨w.heap.size, 8, none⟩ = some (.int .u32 X.aid) := HX1.out.cell 8
  have y9 : w1.cell? ⟨w.heap.size, 9, none⟩ = some (.slice B m d) := HX1.out.cell 9
  have y10 : w1.cell? ⟨w.heap.size, 10, none⟩ = some (.slice (some ⟨hh, 0, none⟩) 1 1) := HX1.out.cell 10
  go_wp2_with fail
  refine (HFe.out _ HB1.out).mono ?_
  rintro e w2 ⟨A', c', rfl, hl2, hr2, ht2, hc2⟩
  have HSo := hide (nSort_any A' 1 c' [(a, n)] w2 hl2 (by simpa using HPg.out) (by omega))
  rw [sortP_one HPg.out] at HSo
  have HR2 := hide hr2
  have HT2 := hide ht2
  have HC2 : Hid (ChgS (fun k => k = g) w w2) := hide (chg_trans (chg_below HB1.out) hc2 (fun k h => .inl h))
  clear hl2 hr2 ht2 hc2 y0 y1 y2 y3 y4 y5 y6 y7 y8 y9 y10
  go_wp2_with fail
  refine HSo.out.mono ?_
  rintro e w3 ⟨A3, c3, rfl, ho3, hb3⟩
  have HO3 := hide ho3
  have HB3 := hide hb3
  clear ho3 hb3
  go_wp2
  obtain ⟨b, F, hT1, hT2⟩ := HT2.out
  refine bodyPost_ret (v := .tuple #[.slice A3 1 c3, .bool false]) (by simp [results, Tryz.results43, go_sem]) rfl ⟨A3, c3, rfl, own_pxs (l := [(a, n)]) HO3.out, HR2.out.below HB3.out HR2.out.lt, ⟨b, F, hT1.below HB3.out hT1.lt, hT2.chg (S := fun _ => False) (chg_below HB3.out) (by simp) (by simp)⟩, chg_trans HC2.out (chg_below (S := fun _ => False) HB3.out) (fun k h => h.elim)⟩
end Go.Proofs.YtcinjckajnnhmaaGreat
set_option linter.unusedSimpArgs false
set_option linter.unusedVariables false
namespace Go.Proofs.YtcinjckajnnhmaaGreat
open Go.RowKit Go.WideShapes Go.ChangeShapes
attribute [local go_sem] Oper.semAt_some
def lX1 : AT := ⟨14, 0, [⟨2, [65001]⟩], 5, 0, 0, 0, 0, []⟩
def lX2 : AT := ⟨4, 0, [⟨2, [65001, 65000]⟩], 0, 0, 0, 0, 0, []⟩
theorem norm_lX1 : normA lX1 = lX1 := by kernel_rfl
theorem norm_lX2 : normA lX2 = lX2 := by kernel_rfl
theorem sg_one {w : World} {s u : Nat} {l : List Nat} {m : Nat} (hs : Blk w s 133 #[.int .i64 2, .slice (some ⟨u, 0, none⟩) m m]) (hu : U32s w (some ⟨u, 0, none⟩) m m l) : LstAt 2 sgR w (some ⟨s, 0, none⟩) 1 1 [⟨2, l⟩] := by
  refine ⟨rfl, Nat.le_refl _, by unfold maxLen; omega, fun _ => ⟨_, _, rfl, hs.lt, fun k x hx => ?_⟩⟩
  have hk0 : k = 0 := by
    have := (List.getElem?_eq_some_iff.1 hx).1
    simp at this
    exact this
  subst hk0
  simp only [List.getElem?_cons_zero, Option.some.injEq] at hx
  subst hx
  refine ⟨_, rfl, ⟨_, _, _, rfl, hu⟩, fun j v hj => ?_⟩
  rw [Nat.zero_mul, Nat.add_zero, Nat.zero_add, hs.cell j]
  simpa using hj
theorem u32_blk {w : World} {u : Nat} {l : List Nat} {m : Nat} (hu : Blk w u 22 (l.map fun x : Nat => Value.int .u32 (x : Int)).toArray) (hm : l.length = m) (hl : ∀ x ∈ l, x < 4294967296) (hmx : m ≤ 1000) : U32s w (some ⟨u, 0, none⟩) m m l := by
  refine ⟨hm, Nat.le_refl _, by unfold maxLen; omega, hl, fun _ => ⟨u, 0, rfl, hu.lt, fun k x hx => ?_⟩⟩
  rw [Nat.zero_add, hu.cell k]
  simp [hx]
set_option maxRecDepth 100000 in
set_option maxHeartbeats 4000000 in
theorem ribLen_one (own ax r g a n : Nat) (X : AT) (w : World) (hr : Blk w r 126 #[.int .u32 (own : Int), .int .u32 0, .int .u32 (ax : Int), .int .i64 0, .bool false, .string ⟨#[]⟩, .string ⟨#[]⟩, .string ⟨#[]⟩, .bool false, .string ⟨#[]⟩, .string ⟨#[]⟩, .string ⟨#[]⟩, .bool false, .pointer (some ⟨g, 0, none⟩)]) (ht : FedT a n g X w) : Calls Tryz.prog 63 #[.pointer (some ⟨r, 0, none⟩)] w fun e w' => e = .returned (.int .i64 1) ∧ Below w.heap.size w w' := by
  obtain ⟨b, F, h1, h2⟩ := ht
  have HL := hide (tlenA_any (F := F) (R := atR) g (.nd b a n (some X) .nil .nil) w h1 h2.mem)
  have HR := hide hr
  clear hr h1 h2
  have z13 : w.cell? ⟨r, 13, none⟩ = some (.pointer (some ⟨g, 0, none⟩)) := HR.out.cell 13
  go_enter Tryz.func63, Tryz.ntmps63
  go_wp2_with fail
  refine HL.out.mono ?_
  rintro e w1 ⟨rfl, rfl⟩
  go_wp2
  go_ret
  exact ⟨rfl, Below.refl _ _⟩
set_option maxRecDepth 100000 in
set_option maxHeartbeats 8000000 in
theorem lives27_any (w : World) : Calls Tryz.prog 47 #[] w (GoodP true w) := by
  have HNw := hide (ribinNew_any 65000 65001 w)
  go_enter Tryz.func47, Tryz.ntmps47
  go_wp2_with fail
  refine HNw.out.mono ?_
  rintro e w1 ⟨R, g, rfl, hR1, hg1, hgs, hgR, hb1⟩
  obtain ⟨w2, hw2⟩ : ∃ W, w1.alloc (.cells #[.int .u32 167772160, .int .i64 8] 24) = W := ⟨_, rfl⟩
  have hb2 : Below w1.heap.size w1 w2 := hw2 ▸ blkBelow1 w1 _
  have HP2 : Hid (Blk w2 w1.heap.size 24 #[.int .u32 167772160, .int .i64 8]) := hide (hw2 ▸ Blk.new w1 _ _)
  have HR2 := hide (hR1.below hb2 hR1.lt)
  have HG2 := hide (hg1.below hb2 hg1.lt)
  have HB2 := hide (hb1.trans (hb2.mono hb1.size))
  have HW2 := hide hw2
  have hRl := hR1.lt
  clear hw2 hR1 hg1 hb2
  go_upto_region 3 with fail
  rw [HW2.out]
  obtain ⟨w3, hw3⟩ : ∃ W, ((w2.alloc (.cells #[.int .u32 65001] 22)).alloc (.cells #[.int .i64 2, .slice (some ⟨w2.heap.size, 0, none⟩) 1 1] 133)).alloc (.cells #[.int .i64 14, .int .i64 0, .slice (some ⟨w2.heap.size + 1, 0, none⟩) 1 1, .int .u32 5, .int .u32 0, .int .u32 0, .int .u32 0, .int .u32 0, .slice none 0 0] 28) = W := ⟨_, rfl⟩
  have hb3 : Below w2.heap.size w2 w3 := hw3 ▸ blkBelow3q w2 _ _ _
  have HU3 : Hid (Blk w3 w2.heap.size 22 #[.int .u32 65001]) := hide (hw3 ▸ ((Blk.new w2 _ _).alloc _).alloc _)
  have HS3 : Hid (Blk w3 (w2.heap.size + 1) 133 #[.int .i64 2, .slice (some ⟨w2.heap.size, 0, none⟩) 1 1]) := hide (hw3 ▸ (blk_new' _ _ (by simp)).alloc _)
  have HA3 : Hid (Blk w3 (w2.heap.size + 1 + 1) 28 #[.int .i64 14, .int .i64 0, .slice (some ⟨w2.heap.size + 1, 0, none⟩) 1 1, .int .u32 5, .int .u32 0, .int .u32 0, .int .u32 0, .int .u32 0, .slice none 0 0]) := hide (hw3 ▸ blk_new' _ _ (by simp))
  have HW3 := hide hw3
  have HB3 := hide (HB2.out.trans (hb3.mono HB2.out.size))
  have HP3 := hide (HP2.out.below hb3 HP2.out.lt)
  have HR3 := hide (HR2.out.below hb3 HR2.out.lt)
  have HG3 := hide (HG2.out.below hb3 HG2.out.lt)
  clear hw3 hb3
  go_upto_region 4 with fail
  rw [HW3.out]
  obtain ⟨w4, hw4⟩ : ∃ W, w3.alloc (.cells #[.int .u32 167772160, .int .i64 8] 24) = W := ⟨_, rfl⟩
  have hb4 : Below w3.heap.size w3 w4 := hw4 ▸ blkBelow1 w3 _
  have HH4 : Hid (Blk w4 w3.heap.size 24 #[.int .u32 167772160, .int .i64 8]) := hide (hw4 ▸ Blk.new w3 _ _)
  have HU4 := hide (HU3.out.below hb4 HU3.out.lt)
  have HS4 := hide (HS3.out.below hb4 HS3.out.lt)
  have HP4 := hide (HP3.out.below hb4 HP3.out.lt)
  have HR4 := hide (HR3.out.below hb4 HR3.out.lt)
  have HG4 := hide (HG3.out.below hb4 HG3.out.lt)
  have HB4 := hide (HB3.out.trans (hb4.mono HB3.out.size))
  have hl3 := HG3.out.lt
  have hs1 := hb1.size
  have hp1 := HP2.out.lt
  have hgw1 : g < w1.heap.size := Nat.lt_trans hgR hRl
  have HUr : Hid (U32s w4 (some ⟨w2.heap.size, 0, none⟩) 1 1 [65001]) := hide (u32_blk (l := [65001]) HU4.out rfl (by decide) (by decide))
  have HSr : Hid (LstAt 2 sgR w4 (some ⟨w2.heap.size + 1, 0, none⟩) 1 1 [⟨2, [65001]⟩]) := hide (sg_one HS4.out HUr.out)
  have HFd := hide (Feed1_any 65000 65001 R g 167772160 8 w3.heap.size lX1 lX1 [] [] (some ⟨w2.heap.size + 1, 0, none⟩) 1 1 none 0 0 w4 pg8 HR4.out HG4.out (by omega) HH4.out (by omega) HSr.out ⟨rfl, Nat.le_refl _, Nat.zero_le _, by simp [lX1], fun h => absurd h (by omega)⟩ norm_lX1 (by omega) rfl (by decide) norm_lX1 (by decide) (by decide) (by decide) (by decide) (by decide) ⟨by decide, rfl⟩ (by kernel_rfl) (by decide) (by decide) (by decide))
  have HW4 := hide hw4
  clear hw4 hb4
  have a0 : w3.cell? ⟨w2.heap.size + 1 + 1, 0, none⟩ = some (.int .i64 14) := HA3.out.cell 0
  have a1 : w3.cell? ⟨w2.heap.size + 1 + 1, 1, none⟩ = some (.int .i64 0) := HA3.out.cell 1
  have a2 : w3.cell? ⟨w2.heap.size + 1 + 1, 2, none⟩ = some (.slice (some ⟨w2.heap.size + 1, 0, none⟩) 1 1) := HA3.out.cell 2
  have a3 : w3.cell? ⟨w2.heap.size + 1 + 1, 3, none⟩ = some (.int .u32 5) := HA3.out.cell 3
  have a4 : w3.cell? ⟨w2.heap.size + 1 + 1, 4, none⟩ = some (.int .u32 0) := HA3.out.cell 4
  have a5 : w3.cell? ⟨w2.heap.size + 1 + 1, 5, none⟩ = some (.int .u32 0) := HA3.out.cell 5
  have a6 : w3.cell? ⟨w2.heap.size + 1 + 1, 6, none⟩ = some (.int .u32 0) := HA3.out.cell 6
  have a7 : w3.cell? ⟨w2.heap.size + 1 + 1, 7, none⟩ = some (.int .u32 0) := HA3.out.cell 7
  have a8 : w3.cell? ⟨w2.heap.size + 1 + 1, 8, none⟩ = some (.slice none 0 0) := HA3.out.cell 8
  have p0 : w3.cell? ⟨w1.heap.size, 0, none⟩ = some (.int .u32 167772160) := HP3.out.cell 0
  have p1 : w3.cell? ⟨w1.heap.size, 1, none⟩ = some (.int .i64 8) := HP3.out.cell 1
  go_wp2_with fail
  rw [HW4.out]
  refine HFd.out.mono ?_
  rintro e w5 ⟨A4, c4, rfl, hl5, hr5, ht5, hc5⟩
  have HL5 := hide hl5
  have HR5 := hide hr5
  have HT5 := hide ht5
  have HP5 := hide (chg_blk hc5 HP4.out (show ¬ (w1.heap.size = g) by omega))
  have HC5 : Hid (ChgS (fun k => k = g) w4 w5) := hide hc5
  have HB5 : Hid (Below w.heap.size w w5) := hide (chg_to_below (chg_trans (chg_below (S := fun k => k = g) HB4.out) hc5 (fun k h => .inl h)) (Nat.le_refl _) (fun k h => by omega))
  clear hl5 hr5 ht5 hc5 a0 a1 a2 a3 a4 a5 a6 a7 a8 p0 p1
  obtain ⟨gA, oA, hAd, _⟩ := HL5.out.2.2.2 (by omega)
  subst hAd
  obtain ⟨w6, hw6⟩ : ∃ W, (w5.alloc (.cells #[.int .u32 65001, .int .u32 65000] 22)).alloc (.cells #[.int .i64 2, .slice (some ⟨w5.heap.size, 0, none⟩) 2 2] 133) = W := ⟨_, rfl⟩
  have hb6 : Below w5.heap.size w5 w6 := hw6 ▸ blkBelow2 w5 _ _
  have HU6 : Hid (Blk w6 w5.heap.size 22 #[.int .u32 65001, .int .u32 65000]) := hide (hw6 ▸ (Blk.new w5 _ _).alloc _)
  have HS6 : Hid (Blk w6 (w5.heap.size + 1) 133 #[.int .i64 2, .slice (some ⟨w5.heap.size, 0, none⟩) 2 2]) := hide (hw6 ▸ blk_new' _ _ (by simp))
  have HSr6 : Hid (LstAt 2 sgR w6 (some ⟨w5.heap.size + 1, 0, none⟩) 1 1 [⟨2, [65001, 65000]⟩]) := hide (sg_one HS6.out (u32_blk (l := [65001, 65000]) HU6.out rfl (by decide) (by decide)))
  have HAt6 : Hid (AtR w6 lX2 (.agg #[.int .i64 4, .int .i64 0, .slice (some ⟨w5.heap.size + 1, 0, none⟩) 1 1, .int .u32 0, .int .u32 0, .int .u32 0, .int .u32 0, .int .u32 0, .slice none 0 0])) := hide ⟨_, _, _, none, 0, 0, rfl, HSr6.out, rfl, Nat.le_refl _, Nat.zero_le _, by simp [lX2], fun h => absurd h (by omega)⟩
  have HAc := hide (Acc_of 65000 65001 lX2 lX2 false _ w6 HAt6.out (fun W hb => acc_has 65000 65001 lX2 lX2 [65000] [] 65001 _ W (HAt6.out.below hb) (by decide) (by decide) norm_lX2 rfl (by decide)))
  have HB6 := hide hb6
  have HW6 := hide hw6
  clear hw6 hb6
  go_upto_region 5 with fail
  go_wp2_with fail
  rw [HW6.out]
  refine HAc.out.mono ?_
  rintro e w7 ⟨v7, rfl, ⟨A7, n7, c7, xs7, B7, m7, d7, rfl, hl7, hu7⟩, hb7⟩
  obtain ⟨w8, hw8⟩ : ∃ W, w7.alloc (.cells #[.int .i64 lX2.has, .int .i64 lX2.org, .slice A7 n7 c7, .int .u32 lX2.hop, .int .u32 lX2.med, .int .u32 lX2.pref, .int .u32 lX2.aas, .int .u32 lX2.aid, .slice B7 m7 d7] 28) = W := ⟨_, rfl⟩
  have hb8 : Below w7.heap.size w7 w8 := hw8 ▸ blkBelow1 w7 _
  have HB8 : Hid (Below w5.heap.size w5 w8) := hide (HB6.out.trans ((hb7.trans (hb8.mono hb7.size)).mono HB6.out.size))
  have HP := hide (HP5.out.below HB8.out HP5.out.lt)
  have HL := hide (HL5.out.below pxMono HB8.out)
  have HR8 := hide (HR5.out.below HB8.out HR5.out.lt)
  obtain ⟨b, F, hT1, hT2⟩ := HT5.out
  have HT8 : Hid (FedT 167772160 8 g (clrP lX1) w8) := hide ⟨b, F, hT1.below HB8.out hT1.lt, hT2.chg (S := fun _ => False) (chg_below HB8.out) (by simp) (by simp)⟩
  have HLn : Hid (∀ W, Below w8.heap.size w8 W → Calls Tryz.prog 63 #[.pointer (some ⟨R, 0, none⟩)] W fun e w' => e = .returned (.int .i64 1) ∧ Below W.heap.size W w') := hide (fun W hb => by
    obtain ⟨b, F, hT1, hT2⟩ := HT8.out
    exact ribLen_one 65000 65001 R g 167772160 8 (clrP lX1) W (HR8.out.below hb HR8.out.lt) ⟨b, F, hT1.below hb hT1.lt, hT2.chg (S := fun _ => False) (chg_below hb) (by simp) (by simp)⟩)
  have HW8 := hide hw8
  clear hw8 hb8 hb7 hl7 hu7 hT1 hT2
  go_upto_region 6 with fail
  rw [HW8.out]
  have Hmn := hide (show AllMono [(fun v _ => v = .slice (some ⟨gA, oA, none⟩) 1 c4), (fun v _ => v = .int .i64 1), (fun v _ => v = .bool true), (fun v _ => v = .bool true), (fun v _ => v = .slice (some ⟨gA, oA, none⟩) 1 c4), (fun v _ => v = .pointer (some ⟨gA, oA, none⟩)), (fun v _ => v = .agg #[.int .u32 167772160, .int .i64 8]), (fun v _ => v = .agg #[.int .u32 167772160, .int .i64 8]), (fun v _ => v = .bool true), (fun v _ => v = .bool true), (fun v _ => v = .bool true), (fun v _ => v = .bool false), (fun v _ => v = .bool true), (fun v _ => v = .bool true), (fun v _ => v = .bool true), (fun v _ => v = .pointer (some ⟨R, 0, none⟩)), (fun v _ => v = .int .i64 1), (fun v _ => v = .bool true), (fun v _ => v = .bool true), (fun v _ => v = .bool true), (fun v _ => v = .bool false), (fun v _ => v = .bool true), (fun v _ => v = .bool true)] from ⟨fun _ _ _ _ h => h, fun _ _ _ _ h => h, fun _ _ _ _ h => h, fun _ _ _ _ h => h, fun _ _ _ _ h => h, fun _ _ _ _ h => h, fun _ _ _ _ h => h, fun _ _ _ _ h => h, fun _ _ _ _ h => h, fun _ _ _ _ h => h, fun _ _ _ _ h => h, fun _ _ _ _ h => h, fun _ _ _ _ h => h, fun _ _ _ _ h => h, fun _ _ _ _ h => h, fun _ _ _ _ h => h, fun _ _ _ _ h => h, fun _ _ _ _ h => h, fun _ _ _ _ h => h, fun _ _ _ _ h => h, fun _ _ _ _ h => h, fun _ _ _ _ h => h, fun _ _ _ _ h => h, trivial⟩)
  refine wp_region_relT 23 _ (by kernel_rfl) (by kernel_rfl) (by kernel_rfl) (by kernel_rfl) (by kernel_rfl) (relMono _ Hmn.out) ⟨?_, ?_, ?_, ?_, ?_, ?_, ?_, ?_, ?_, ?_, ?_, ?_, ?_, ?_, ?_, ?_, ?_, ?_, ?_, ?_, ?_, ?_, ?_, trivial⟩ ?_
  · refine relStep_plain rfl ?_
    intro Ac w5 hp
    have hb := hp.bel
    have a4 : Ac.eval (.tmp 4) = .slice (some ⟨gA, oA, none⟩) 1 c4 := hp.out 4 (by rfl)
    have hc := evalC Ac; have hf := evalF Ac; have hgl := evalG Ac
    obtain ⟨ρ, hρ⟩ : ∃ ρ, Ac.eval = ρ := ⟨_, rfl⟩
    rw [hρ] at a4 hc hf hgl
    exact relPure hρ (.slice (some ⟨gA, oA, none⟩) 1 c4) (by simp [go_sem, hc, hf, hgl, ↓IntWalk.iteOmega, a4, *]) rfl
  · refine relStep_plain rfl ?_
    intro Ac w5 hp
    have hb := hp.bel
    have a32 : Ac.eval (.tmp 32) = .slice (some ⟨gA, oA, none⟩) 1 c4 := hp.dep 0 (by kernel_rfl)
    have hc := evalC Ac; have hf := evalF Ac; have hgl := evalG Ac
    obtain ⟨ρ, hρ⟩ : ∃ ρ, Ac.eval = ρ := ⟨_, rfl⟩
    rw [hρ] at a32 hc hf hgl
    exact relPure hρ (.int .i64 1) (by simp [go_sem, hc, hf, hgl, ↓IntWalk.iteOmega, a32, *]) rfl
  · refine relStep_plain rfl ?_
    intro Ac w5 hp
    have hb := hp.bel
    have a33 : Ac.eval (.tmp 33) = .int .i64 1 := hp.dep 1 (by kernel_rfl)
    have hc := evalC Ac; have hf := evalF Ac; have hgl := evalG Ac
    obtain ⟨ρ, hρ⟩ : ∃ ρ, Ac.eval = ρ := ⟨_, rfl⟩
    rw [hρ] at a33 hc hf hgl
    exact relPure hρ (.bool true) (by simp [go_sem, hc, hf, hgl, ↓IntWalk.iteOmega, a33, *]) rfl
  · refine relStep_plain rfl ?_
    intro Ac w5 hp
    have hb := hp.bel
    have a34 : Ac.eval (.tmp 34) = .bool true := hp.dep 2 (by kernel_rfl)
    have hc := evalC Ac; have hf := evalF Ac; have hgl := evalG Ac
    obtain ⟨ρ, hρ⟩ : ∃ ρ, Ac.eval = ρ := ⟨_, rfl⟩
    rw [hρ] at a34 hc hf hgl
    exact relPure hρ (.bool true) (by simp [go_sem, hc, hf, hgl, ↓IntWalk.iteOmega, a34, *]) rfl
  · refine relStep_guard (g := 3) (b := true) (x := true) rfl (by kernel_rfl) rfl (by kernel_rfl) rfl (fun _ _ h => h) ?_
    intro Ac w5 hp
    have hb := hp.bel
    have a4 : Ac.eval (.tmp 4) = .slice (some ⟨gA, oA, none⟩) 1 c4 := hp.out 4 (by rfl)
    have hc := evalC Ac; have hf := evalF Ac; have hgl := evalG Ac
    obtain ⟨ρ, hρ⟩ : ∃ ρ, Ac.eval = ρ := ⟨_, rfl⟩
    rw [hρ] at a4 hc hf hgl
    exact relPure hρ (.slice (some ⟨gA, oA, none⟩) 1 c4) (by simp [go_sem, hc, hf, hgl, ↓IntWalk.iteOmega, a4, *]) rfl
  · refine relStep_guard (g := 3) (b := true) (x := true) rfl (by kernel_rfl) rfl (by kernel_rfl) rfl (fun _ _ h => h) ?_
    intro Ac w5 hp
    have hb := hp.bel
    have a36 : Ac.eval (.tmp 36) = .slice (some ⟨gA, oA, none⟩) 1 c4 := hp.dep 4 (by kernel_rfl)
    have hc := evalC Ac; have hf := evalF Ac; have hgl := evalG Ac
    obtain ⟨ρ, hρ⟩ : ∃ ρ, Ac.eval = ρ := ⟨_, rfl⟩
    rw [hρ] at a36 hc hf hgl
    exact relPure hρ (.pointer (some ⟨gA, oA, none⟩)) (by simp [go_sem, hc, hf, hgl, ↓IntWalk.iteOmega, a36, *]) rfl
  · refine relStep_guard (g := 3) (b := true) (x := true) rfl (by kernel_rfl) rfl (by kernel_rfl) rfl (fun _ _ h => h) ?_
    intro Ac w5 hp
    have hb := hp.bel
    have a37 : Ac.eval (.tmp 37) = .pointer (some ⟨gA, oA, none⟩) := hp.dep 5 (by kernel_rfl)
    have h5 := HL.out.below pxMono hb
    obtain ⟨g5, o5, a5, m5, e5, hg5, hx5, hc0, hc1⟩ := PXat h5 (q := 0) (by omega)
    simp only [List.getElem?_cons_zero, Option.some.injEq, Prod.mk.injEq] at hx5
    obtain ⟨rfl, rfl⟩ := hx5
    injection e5 with e5
    injection e5 with e6 e7
    subst e6 e7
    have k0 : w5.cell? ⟨gA, oA, none⟩ = some (.int .u32 167772160) := by simpa using hc0
    have k1 : w5.cell? ⟨gA, oA + 1, none⟩ = some (.int .i64 8) := by simpa using hc1
    have hc := evalC Ac; have hf := evalF Ac; have hgl := evalG Ac
    obtain ⟨ρ, hρ⟩ : ∃ ρ, Ac.eval = ρ := ⟨_, rfl⟩
    rw [hρ] at a37 hc hf hgl
    exact relPure hρ (.agg #[.int .u32 167772160, .int .i64 8]) (by simp [go_sem, hc, hf, hgl, ↓IntWalk.iteOmega, a37, *]) rfl
  · refine relStep_guard (g := 3) (b := true) (x := true) rfl (by kernel_rfl) rfl (by kernel_rfl) rfl (fun _ _ h => h) ?_
    intro Ac w5 hp
    have hb := hp.bel
    have a2 : Ac.eval (.tmp 2) = .pointer (some ⟨w1.heap.size, 0, none⟩) := hp.out 2 (by rfl)
    have h5 := HP.out.below hb HP.out.lt
    have k0 : w5.cell? ⟨w1.heap.size, 0, none⟩ = some (.int .u32 167772160) := h5.cell 0
    have k1 : w5.cell? ⟨w1.heap.size, 1, none⟩ = some (.int .i64 8) := h5.cell 1
    have hc := evalC Ac; have hf := evalF Ac; have hgl := evalG Ac
    obtain ⟨ρ, hρ⟩ : ∃ ρ, Ac.eval = ρ := ⟨_, rfl⟩
    rw [hρ] at a2 hc hf hgl
    exact relPure hρ (.agg #[.int .u32 167772160, .int .i64 8]) (by simp [go_sem, hc, hf, hgl, ↓IntWalk.iteOmega, a2, *]) rfl
  · refine relStep_guard (g := 3) (b := true) (x := true) rfl (by kernel_rfl) rfl (by kernel_rfl) rfl (fun _ _ h => h) ?_
    intro Ac w5 hp
    have hb := hp.bel
    have a38 : Ac.eval (.tmp 38) = .agg #[.int .u32 167772160, .int .i64 8] := hp.dep 6 (by kernel_rfl)
    have a39 : Ac.eval (.tmp 39) = .agg #[.int .u32 167772160, .int .i64 8] := hp.dep 7 (by kernel_rfl)
    have hc := evalC Ac; have hf := evalF Ac; have hgl := evalG Ac
    obtain ⟨ρ, hρ⟩ : ∃ ρ, Ac.eval = ρ := ⟨_, rfl⟩
    rw [hρ] at a38 a39 hc hf hgl
    exact relPure hρ (.bool true) (by simp [go_sem, hc, hf, hgl, ↓IntWalk.iteOmega, a38, a39, *]) rfl
  · refine relStep_plain rfl ?_
    intro Ac w5 hp
    have hb := hp.bel
    have a35 : Ac.eval (.tmp 35) = .bool true := hp.dep 3 (by kernel_rfl)
    have a40 : Ac.eval (.tmp 40) = .bool true := hp.dep 8 (by kernel_rfl)
    have hc := evalC Ac; have hf := evalF Ac; have hgl := evalG Ac
    obtain ⟨ρ, hρ⟩ : ∃ ρ, Ac.eval = ρ := ⟨_, rfl⟩
    rw [hρ] at a35 a40 hc hf hgl
    exact relPure hρ (.bool true) (by simp [go_sem, hc, hf, hgl, ↓IntWalk.iteOmega, a35, a40, *]) rfl
  · refine relStep_plain rfl ?_
    intro Ac w5 hp
    have hb := hp.bel
    have a41 : Ac.eval (.tmp 41) = .bool true := hp.dep 9 (by kernel_rfl)
    have hc := evalC Ac; have hf := evalF Ac; have hgl := evalG Ac
    obtain ⟨ρ, hρ⟩ : ∃ ρ, Ac.eval = ρ := ⟨_, rfl⟩
    rw [hρ] at a41 hc hf hgl
    exact relPure hρ (.bool true) (by simp [go_sem, hc, hf, hgl, ↓IntWalk.iteOmega, a41, *]) rfl
  · refine relStep_guard (g := 10) (b := true) (x := true) rfl (by kernel_rfl) rfl (by kernel_rfl) rfl (fun _ _ h => h) ?_
    intro Ac w5 hp
    have hb := hp.bel
    have a5 : Ac.eval (.tmp 5) = .bool false := hp.out 5 (by rfl)
    have hc := evalC Ac; have hf := evalF Ac; have hgl := evalG Ac
    obtain ⟨ρ, hρ⟩ : ∃ ρ, Ac.eval = ρ := ⟨_, rfl⟩
    rw [hρ] at a5 hc hf hgl
    exact relPure hρ (.bool false) (by simp [go_sem, hc, hf, hgl, ↓IntWalk.iteOmega, a5, *]) rfl
  · refine relStep_guard (g := 10) (b := true) (x := true) rfl (by kernel_rfl) rfl (by kernel_rfl) rfl (fun _ _ h => h) ?_
    intro Ac w5 hp
    have hb := hp.bel
    have a43 : Ac.eval (.tmp 43) = .bool false := hp.dep 11 (by kernel_rfl)
    have hc := evalC Ac; have hf := evalF Ac; have hgl := evalG Ac
    obtain ⟨ρ, hρ⟩ : ∃ ρ, Ac.eval = ρ := ⟨_, rfl⟩
    rw [hρ] at a43 hc hf hgl
    exact relPure hρ (.bool true) (by simp [go_sem, hc, hf, hgl, ↓IntWalk.iteOmega, a43, *]) rfl
  · refine relStep_plain rfl ?_
    intro Ac w5 hp
    have hb := hp.bel
    have a42 : Ac.eval (.tmp 42) = .bool true := hp.dep 10 (by kernel_rfl)
    have a44 : Ac.eval (.tmp 44) = .bool true := hp.dep 12 (by kernel_rfl)
    have hc := evalC Ac; have hf := evalF Ac; have hgl := evalG Ac
    obtain ⟨ρ, hρ⟩ : ∃ ρ, Ac.eval = ρ := ⟨_, rfl⟩
    rw [hρ] at a42 a44 hc hf hgl
    exact relPure hρ (.bool true) (by simp [go_sem, hc, hf, hgl, ↓IntWalk.iteOmega, a42, a44, *]) rfl
  · refine relStep_plain rfl ?_
    intro Ac w5 hp
    have hb := hp.bel
    have a45 : Ac.eval (.tmp 45) = .bool true := hp.dep 13 (by kernel_rfl)
    have hc := evalC Ac; have hf := evalF Ac; have hgl := evalG Ac
    obtain ⟨ρ, hρ⟩ : ∃ ρ, Ac.eval = ρ := ⟨_, rfl⟩
    rw [hρ] at a45 hc hf hgl
    exact relPure hρ (.bool true) (by simp [go_sem, hc, hf, hgl, ↓IntWalk.iteOmega, a45, *]) rfl
  · refine relStep_guard (g := 14) (b := true) (x := true) rfl (by kernel_rfl) rfl (by kernel_rfl) rfl (fun _ _ h => h) ?_
    intro Ac w5 hp
    have hb := hp.bel
    have a1 : Ac.eval (.tmp 1) = .pointer (some ⟨R, 0, none⟩) := hp.out 1 (by rfl)
    have hc := evalC Ac; have hf := evalF Ac; have hgl := evalG Ac
    obtain ⟨ρ, hρ⟩ : ∃ ρ, Ac.eval = ρ := ⟨_, rfl⟩
    rw [hρ] at a1 hc hf hgl
    exact relPure hρ (.pointer (some ⟨R, 0, none⟩)) (by simp [go_sem, hc, hf, hgl, ↓IntWalk.iteOmega, a1, *]) rfl
  · refine relStep_guard (g := 14) (b := true) (x := true) rfl (by kernel_rfl) rfl (by kernel_rfl) rfl (fun _ _ h => h) ?_
    intro Ac w5 hp
    have hb := hp.bel
    have a47 : Ac.eval (.tmp 47) = .pointer (some ⟨R, 0, none⟩) := hp.dep 15 (by kernel_rfl)
    have hc := evalC Ac; have hf := evalF Ac; have hgl := evalG Ac
    obtain ⟨ρ, hρ⟩ : ∃ ρ, Ac.eval = ρ := ⟨_, rfl⟩
    rw [hρ] at a47 hc hf hgl
    refine relCall hρ 63 #[.pointer (some ⟨R, 0, none⟩)] (by simp [go_sem, hc, hf, hgl, ↓IntWalk.iteOmega, a47, *]) ?_
    refine (HLn.out w5 hb).mono ?_
    rintro e w6 ⟨rfl, hb6⟩
    exact ⟨_, rfl, rfl, hb6⟩
  · refine relStep_guard (g := 14) (b := true) (x := true) rfl (by kernel_rfl) rfl (by kernel_rfl) rfl (fun _ _ h => h) ?_
    intro Ac w5 hp
    have hb := hp.bel
    have a48 : Ac.eval (.tmp 48) = .int .i64 1 := hp.dep 16 (by kernel_rfl)
    have hc := evalC Ac; have hf := evalF Ac; have hgl := evalG Ac
    obtain ⟨ρ, hρ⟩ : ∃ ρ, Ac.eval = ρ := ⟨_, rfl⟩
    rw [hρ] at a48 hc hf hgl
    exact relPure hρ (.bool true) (by simp [go_sem, hc, hf, hgl, ↓IntWalk.iteOmega, a48, *]) rfl
  · refine relStep_plain rfl ?_
    intro Ac w5 hp
    have hb := hp.bel
    have a46 : Ac.eval (.tmp 46) = .bool true := hp.dep 14 (by kernel_rfl)
    have a49 : Ac.eval (.tmp 49) = .bool true := hp.dep 17 (by kernel_rfl)
    have hc := evalC Ac; have hf := evalF Ac; have hgl := evalG Ac
    obtain ⟨ρ, hρ⟩ : ∃ ρ, Ac.eval = ρ := ⟨_, rfl⟩
    rw [hρ] at a46 a49 hc hf hgl
    exact relPure hρ (.bool true) (by simp [go_sem, hc, hf, hgl, ↓IntWalk.iteOmega, a46, a49, *]) rfl
  · refine relStep_plain rfl ?_
    intro Ac w5 hp
    have hb := hp.bel
    have a50 : Ac.eval (.tmp 50) = .bool true := hp.dep 18 (by kernel_rfl)
    have hc := evalC Ac; have hf := evalF Ac; have hgl := evalG Ac
    obtain ⟨ρ, hρ⟩ : ∃ ρ, Ac.eval = ρ := ⟨_, rfl⟩
    rw [hρ] at a50 hc hf hgl
    exact relPure hρ (.bool true) (by simp [go_sem, hc, hf, hgl, ↓IntWalk.iteOmega, a50, *]) rfl
  · refine relStep_guard (g := 19) (b := true) (x := true) rfl (by kernel_rfl) rfl (by kernel_rfl) rfl (fun _ _ h => h) ?_
    intro Ac w5 hp
    have hb := hp.bel
    have a7 : Ac.eval (.tmp 7) = .bool false := hp.out 7 (by rfl)
    have hc := evalC Ac; have hf := evalF Ac; have hgl := evalG Ac
    obtain ⟨ρ, hρ⟩ : ∃ ρ, Ac.eval = ρ := ⟨_, rfl⟩
    rw [hρ] at a7 hc hf hgl
    exact relPure hρ (.bool false) (by simp [go_sem, hc, hf, hgl, ↓IntWalk.iteOmega, a7, *]) rfl
  · refine relStep_guard (g := 19) (b := true) (x := true) rfl (by kernel_rfl) rfl (by kernel_rfl) rfl (fun _ _ h => h) ?_
    intro Ac w5 hp
    have hb := hp.bel
    have a52 : Ac.eval (.tmp 52) = .bool false := hp.dep 20 (by kernel_rfl)
    have hc := evalC Ac; have hf := evalF Ac; have hgl := evalG Ac
    obtain ⟨ρ, hρ⟩ : ∃ ρ, Ac.eval = ρ := ⟨_, rfl⟩
    rw [hρ] at a52 hc hf hgl
    exact relPure hρ (.bool true) (by simp [go_sem, hc, hf, hgl, ↓IntWalk.iteOmega, a52, *]) rfl
  · refine relStep_plain rfl ?_
    intro Ac w5 hp
    have hb := hp.bel
    have a51 : Ac.eval (.tmp 51) = .bool true := hp.dep 19 (by kernel_rfl)
    have a53 : Ac.eval (.tmp 53) = .bool true := hp.dep 21 (by kernel_rfl)
    have hc := evalC Ac; have hf := evalF Ac; have hgl := evalG Ac
    obtain ⟨ρ, hρ⟩ : ∃ ρ, Ac.eval = ρ := ⟨_, rfl⟩
    rw [hρ] at a51 a53 hc hf hgl
    exact relPure hρ (.bool true) (by simp [go_sem, hc, hf, hgl, ↓IntWalk.iteOmega, a51, a53, *]) rfl
  intro u w9 hb7 hall
  have e54 : u 22 = .bool true := relAll_at hall (i := 22) (by decide +kernel)
  clear hall
  simp only [List.drop_succ_cons, List.drop_zero, List.take_succ_cons, List.take_zero, putAll, Act.put, List.setIfInBounds_toArray, List.set_cons_zero, List.set_cons_succ, Nat.zero_add, Nat.reduceAdd, e54]
  have HBF := hide (HB5.out.trans ((HB8.out.trans (hb7.mono HB8.out.size)).mono HB5.out.size))
  clear hb7
  go_wp2
  go_ret
  exact ⟨rfl, HBF.out⟩
end Go.Proofs.YtcinjckajnnhmaaGreat
set_option linter.unusedSimpArgs false
set_option linter.unusedVariables false
namespace Go.Proofs.YtcinjckajnnhmaaGreat
open Go.RowKit Go.WideShapes Go.ChangeShapes
attribute [local go_sem] Oper.semAt_some
set_option maxRecDepth 100000 in
set_option maxHeartbeats 8000000 in
theorem few10_any (A1 A2 : Option Addr) (n1 c1 n2 c2 : Nat) (l1 l2 : List (Nat × Int)) (X : AT) (A : Option Addr) (k c : Nat) (B : Option Addr) (m d : Nat) (w : World) (h1 : LstAt 2 pzR w A1 n1 c1 l1) (h2 : LstAt 2 pzR w A2 n2 c2 l2) (hP : LstAt 2 sgR w A k c X.path) (hC : U32s w B m d X.comms) :
    Calls Tryz.prog 42 #[.agg #[.slice A1 n1 c1, .int .i64 X.has, .int .i64 X.org, .slice A k c, .int .u32 X.hop, .int .u32 X.med, .int .u32 X.pref, .int .u32 X.aas, .int .u32 X.aid, .slice B m d, .slice A2 n2 c2]] w fun e w' => ∃ A1 n1 c1 A n c B m d A2 n2 c2, e = .returned (.agg #[.slice A1 n1 c1, .int .i64 (cutA X).has, .int .i64 (cutA X).org, .slice A n c, .int .u32 (cutA X).hop, .int .u32 (cutA X).med, .int .u32 (cutA X).pref, .int .u32 (cutA X).aas, .int .u32 (cutA X).aid, .slice B m d, .slice A2 n2 c2]) ∧ Below w.heap.size w w' := by
  obtain ⟨w1, hw1⟩ : ∃ w1, (w.alloc (.cells #[.slice A1 n1 c1, .int .i64 X.has, .int .i64 X.org, .slice A k c, .int .u32 X.hop, .int .u32 X.med, .int .u32 X.pref, .int .u32 X.aas, .int .u32 X.aid, .slice B m d, .slice A2 n2 c2] 81)).alloc (.cells #[.slice none 0 0, .int .i64 0, .int .i64 0, .slice none 0 0, .int .u32 0, .int .u32 0, .int .u32 0, .int .u32 0, .int .u32 0, .slice none 0 0, .slice none 0 0] 81) = w1 := ⟨_, rfl⟩
  have hb1 : Below w.heap.size w w1 := hw1 ▸ blkBelow2 w _ _
  have HX : Hid (Blk w1 w.heap.size 81 #[.slice A1 n1 c1, .int .i64 X.has, .int .i64 X.org, .slice A k c, .int .u32 X.hop, .int .u32 X.med, .int .u32 X.pref, .int .u32 X.aas, .int .u32 X.aid, .slice B m d, .slice A2 n2 c2]) := hide (hw1 ▸ (Blk.new w _ _).alloc _)
  have HZ : Hid (Blk w1 (w.heap.size + 1) 81 #[.slice none 0 0, .int .i64 0, .int .i64 0, .slice none 0 0, .int .u32 0, .int .u32 0, .int .u32 0, .int .u32 0, .int .u32 0, .slice none 0 0, .slice none 0 0]) := hide (hw1 ▸ blk_new' _ _ (by simp))
  have HF1 := hide (fun W (hb : Below w1.heap.size w1 W) => pxFew_any A1 n1 c1 l1 W ((h1.below pzMono hb1).below pzMono hb))
  have HF3 := hide (fun W (hb : Below w1.heap.size w1 W) => pxFew_any A2 n2 c2 l2 W ((h2.below pzMono hb1).below pzMono hb))
  obtain ⟨Y, hY⟩ : ∃ Y, cutA X = Y := ⟨_, rfl⟩
  have HF2 := hide (fun W (hb : Below w1.heap.size w1 W) => attrsFew_any X (.agg #[.int .i64 X.has, .int .i64 X.org, .slice A k c, .int .u32 X.hop, .int .u32 X.med, .int .u32 X.pref, .int .u32 X.aas, .int .u32 X.aid, .slice B m d]) W ⟨A, k, c, B, m, d, rfl, (hP.below sgMono hb1).below sgMono hb, (hC.below hb1).below hb⟩)
  rw [hY] at HF2
  have HB1 := hide hb1
  have HW1 := hide hw1
  have HY := hide hY
  clear hw1 hb1 h1 h2 hP hC hY
  go_enter Tryz.func42, Tryz.ntmps42
  go_upto_region 1 with fail
  rw [HW1.out]
  have Hmn := hide (show AllMono [(fun v _ => v = .pointer (some ⟨w.heap.size, 0, none⟩)), (fun v _ => v = .slice A1 n1 c1), (fun v _ => ∃ A n c, v = .slice A n c), (fun v _ => v = .pointer (some ⟨w.heap.size, 1, none⟩)), (fun v _ => v = .agg #[.int .i64 X.has, .int .i64 X.org, .slice A k c, .int .u32 X.hop, .int .u32 X.med, .int .u32 X.pref, .int .u32 X.aas, .int .u32 X.aid, .slice B m d]), (fun v _ => ∃ A n c B m d, v = .agg #[.int .i64 Y.has, .int .i64 Y.org, .slice A n c, .int .u32 Y.hop, .int .u32 Y.med, .int .u32 Y.pref, .int .u32 Y.aas, .int .u32 Y.aid, .slice B m d]), (fun v _ => v = .pointer (some ⟨w.heap.size, 10, none⟩)), (fun v _ => v = .slice A2 n2 c2), (fun v _ => ∃ A n c, v = .slice A n c), (fun v _ => ∃ A1 n1 c1 A n c B m d A2 n2 c2, v = .agg #[.slice A1 n1 c1, .int .i64 Y.has, .int .i64 Y.org, .slice A n c, .int .u32 Y.hop, .int .u32 Y.med, .int .u32 Y.pref, .int .u32 Y.aas, .int .u32 Y.aid, .slice B m d, .slice A2 n2 c2])] from ⟨fun _ _ _ _ h => h, fun _ _ _ _ h => h, fun _ _ _ _ h => h, fun _ _ _ _ h => h, fun _ _ _ _ h => h, fun _ _ _ _ h => h, fun _ _ _ _ h => h, fun _ _ _ _ h => h, fun _ _ _ _ h => h, fun _ _ _ _ h => h, trivial⟩)
  refine wp_region_relT 10 _ (by kernel_rfl) (by kernel_rfl) (by kernel_rfl) (by kernel_rfl) (by kernel_rfl) (relMono _ Hmn.out) ⟨?_, ?_, ?_, ?_, ?_, ?_, ?_, ?_, ?_, ?_, trivial⟩ ?_
  · refine relStep_plain rfl ?_
    intro Ac w5 hp
    have hb := hp.bel
    have a1 : Ac.eval (.tmp 1) = .pointer (some ⟨w.heap.size, 0, none⟩) := hp.out 1 (by rfl)
    have hc := evalC Ac; have hf := evalF Ac; have hgl := evalG Ac
    obtain ⟨ρ, hρ⟩ : ∃ ρ, Ac.eval = ρ := ⟨_, rfl⟩
    rw [hρ] at a1 hc hf hgl
    exact relPure hρ (.pointer (some ⟨w.heap.size, 0, none⟩)) (by simp [go_sem, hc, hf, hgl, ↓IntWalk.iteOmega, a1, *]) rfl
  · refine relStep_plain rfl ?_
    intro Ac w5 hp
    have hb := hp.bel
    have a3 : Ac.eval (.tmp 3) = .pointer (some ⟨w.heap.size, 0, none⟩) := hp.dep 0 (by kernel_rfl)
    have hx5 := HX.out.below hb HX.out.lt
    have x0 : w5.cell? ⟨w.heap.size, 0, none⟩ = some (.slice A1 n1 c1) := hx5.cell 0
    have x1 : w5.cell? ⟨w.heap.size, 1, none⟩ = some (.int .i64 X.has) := hx5.cell 1
    have x2 : w5.cell? ⟨w.heap.size, 2, none⟩ = some (.int .i64 X.org) := hx5.cell 2
    have x3 : w5.cell? ⟨w.heap.size, 3, none⟩ = some (.slice A k c) := hx5.cell 3
    have x4 : w5.cell? ⟨w.heap.size, 4, none⟩ = some (.int .u32 X.hop) := hx5.cell 4
    have x5 : w5.cell? ⟨w.heap.size, 5, none⟩ = some (.int .u32 X.med) := hx5.cell 5
    have x6 : w5.cell? ⟨w.heap.size, 6, none⟩ = some (.int .u32 X.pref) := hx5.cell 6
    have x7 : w5.cell? ⟨w.heap.size, 7, none⟩ = some (.int .u32 X.aas) := hx5.cell 7
    have x8 : w5.cell? ⟨w.heap.size, 8, none⟩ = some (.int .u32 X.aid) := hx5.cell 8
    have x9 : w5.cell? ⟨w.heap.size, 9, none⟩ = some (.slice B m d) := hx5.cell 9
    have x10 : w5.cell? ⟨w.heap.size, 10, none⟩ = some (.slice A2 n2 c2) := hx5.cell 10
    have hc := evalC Ac; have hf := evalF Ac; have hgl := evalG Ac
    obtain ⟨ρ, hρ⟩ : ∃ ρ, Ac.eval = ρ := ⟨_, rfl⟩
    rw [hρ] at a3 hc hf hgl
    exact relPure hρ (.slice A1 n1 c1) (by simp [go_sem, hc, hf, hgl, ↓IntWalk.iteOmega, a3, *]) rfl
  · refine relStep_plain rfl ?_
    intro Ac w5 hp
    have hb := hp.bel
    have a4 : Ac.eval (.tmp 4) = .slice A1 n1 c1 := hp.dep 1 (by kernel_rfl)
    have hc := evalC Ac; have hf := evalF Ac; have hgl := evalG Ac
    obtain ⟨ρ, hρ⟩ : ∃ ρ, Ac.eval = ρ := ⟨_, rfl⟩
    rw [hρ] at a4 hc hf hgl
    refine relCall hρ 90 #[.slice A1 n1 c1, .int .i64 30] (by simp [go_sem, hc, hf, hgl, ↓IntWalk.iteOmega, a4, *]) ?_
    refine (HF1.out w5 hb).mono ?_
    rintro e w6 ⟨A6, n6, c6, rfl, _, _, hb6⟩
    exact ⟨_, rfl, ⟨A6, n6, c6, rfl⟩, hb6⟩
  · refine relStep_plain rfl ?_
    intro Ac w5 hp
    have hb := hp.bel
    have a1 : Ac.eval (.tmp 1) = .pointer (some ⟨w.heap.size, 0, none⟩) := hp.out 1 (by rfl)
    have hc := evalC Ac; have hf := evalF Ac; have hgl := evalG Ac
    obtain ⟨ρ, hρ⟩ : ∃ ρ, Ac.eval = ρ := ⟨_, rfl⟩
    rw [hρ] at a1 hc hf hgl
    exact relPure hρ (.pointer (some ⟨w.heap.size, 1, none⟩)) (by simp [go_sem, hc, hf, hgl, ↓IntWalk.iteOmega, a1, *]) rfl
  · refine relStep_plain rfl ?_
    intro Ac w5 hp
    have hb := hp.bel
    have a6 : Ac.eval (.tmp 6) = .pointer (some ⟨w.heap.size, 1, none⟩) := hp.dep 3 (by kernel_rfl)
    have hx5 := HX.out.below hb HX.out.lt
    have x0 : w5.cell? ⟨w.heap.size, 0, none⟩ = some (.slice A1 n1 c1) := hx5.cell 0
    have x1 : w5.cell? ⟨w.heap.size, 1, none⟩ = some (.int .i64 X.has) := hx5.cell 1
    have x2 : w5.cell? ⟨w.heap.size, 2, none⟩ = some (.int .i64 X.org) := hx5.cell 2
    have x3 : w5.cell? ⟨w.heap.size, 3, none⟩ = some (.slice A k c) := hx5.cell 3
    have x4 : w5.cell? ⟨w.heap.size, 4, none⟩ = some (.int .u32 X.hop) := hx5.cell 4
    have x5 : w5.cell? ⟨w.heap.size, 5, none⟩ = some (.int .u32 X.med) := hx5.cell 5
    have x6 : w5.cell? ⟨w.heap.size, 6, none⟩ = some (.int .u32 X.pref) := hx5.cell 6
    have x7 : w5.cell? ⟨w.heap.size, 7, none⟩ = some (.int .u32 X.aas) := hx5.cell 7
    have x8 : w5.cell? ⟨w.heap.size, 8, none⟩ = some (.int .u32 X.aid) := hx5.cell 8
    have x9 : w5.cell? ⟨w.heap.size, 9, none⟩ = some (.slice B m d) := hx5.cell 9
    have x10 : w5.cell? ⟨w.heap.size, 10, none⟩ = some (.slice A2 n2 c2) := hx5.cell 10
    have hc := evalC Ac; have hf := evalF Ac; have hgl := evalG Ac
    obtain ⟨ρ, hρ⟩ : ∃ ρ, Ac.eval = ρ := ⟨_, rfl⟩
    rw [hρ] at a6 hc hf hgl
    exact relPure hρ (.agg #[.int .i64 X.has, .int .i64 X.org, .slice A k c, .int .u32 X.hop, .int .u32 X.med, .int .u32 X.pref, .int .u32 X.aas, .int .u32 X.aid, .slice B m d]) (by simp [go_sem, hc, hf, hgl, ↓IntWalk.iteOmega, a6, *]) rfl
  · refine relStep_plain rfl ?_
    intro Ac w5 hp
    have hb := hp.bel
    have a7 : Ac.eval (.tmp 7) = .agg #[.int .i64 X.has, .int .i64 X.org, .slice A k c, .int .u32 X.hop, .int .u32 X.med, .int .u32 X.pref, .int .u32 X.aas, .int .u32 X.aid, .slice B m d] := hp.dep 4 (by kernel_rfl)
    have hc := evalC Ac; have hf := evalF Ac; have hgl := evalG Ac
    obtain ⟨ρ, hρ⟩ : ∃ ρ, Ac.eval = ρ := ⟨_, rfl⟩
    rw [hρ] at a7 hc hf hgl
    refine relCall hρ 72 #[.agg #[.int .i64 X.has, .int .i64 X.org, .slice A k c, .int .u32 X.hop, .int .u32 X.med, .int .u32 X.pref, .int .u32 X.aas, .int .u32 X.aid, .slice B m d]] (by simp [go_sem, hc, hf, hgl, ↓IntWalk.iteOmega, a7, *]) ?_
    refine (HF2.out w5 hb).mono ?_
    rintro e w6 ⟨v6, rfl, ⟨A6, n6, c6, xs6, B6, m6, d6, rfl, _, _⟩, hb6⟩
    exact ⟨_, rfl, ⟨A6, n6, c6, B6, m6, d6, rfl⟩, hb6⟩
  · refine relStep_plain rfl ?_
    intro Ac w5 hp
    have hb := hp.bel
    have a1 : Ac.eval (.tmp 1) = .pointer (some ⟨w.heap.size, 0, none⟩) := hp.out 1 (by rfl)
    have hc := evalC Ac; have hf := evalF Ac; have hgl := evalG Ac
    obtain ⟨ρ, hρ⟩ : ∃ ρ, Ac.eval = ρ := ⟨_, rfl⟩
    rw [hρ] at a1 hc hf hgl
    exact relPure hρ (.pointer (some ⟨w.heap.size, 10, none⟩)) (by simp [go_sem, hc, hf, hgl, ↓IntWalk.iteOmega, a1, *]) rfl
  · refine relStep_plain rfl ?_
    intro Ac w5 hp
    have hb := hp.bel
    have a9 : Ac.eval (.tmp 9) = .pointer (some ⟨w.heap.size, 10, none⟩) := hp.dep 6 (by kernel_rfl)
    have hx5 := HX.out.below hb HX.out.lt
    have x0 : w5.cell? ⟨w.heap.size, 0, none⟩ = some (.slice A1 n1 c1) := hx5.cell 0
    have x1 : w5.cell? ⟨w.heap.size, 1, none⟩ = some (.int .i64 X.has) := hx5.cell 1
    have x2 : w5.cell? ⟨w.heap.size, 2, none⟩ = some (.int .i64 X.org) := hx5.cell 2
    have x3 : w5.cell? ⟨w.heap.size, 3, none⟩ = some (.slice A k c) := hx5.cell 3
    have x4 : w5.cell? ⟨w.heap.size, 4, none⟩ = some (.int .u32 X.hop) := hx5.cell 4
    have x5 : w5.cell? ⟨w.heap.size, 5, none⟩ = some (.int .u32 X.med) := hx5.cell 5
    have x6 : w5.cell? ⟨w.heap.size, 6, none⟩ = some (.int .u32 X.pref) := hx5.cell 6
    have x7 : w5.cell? ⟨w.heap.size, 7, none⟩ = some (.int .u32 X.aas) := hx5.cell 7
    have x8 : w5.cell? ⟨w.heap.size, 8, none⟩ = some (.int .u32 X.aid) := hx5.cell 8
    have x9 : w5.cell? ⟨w.heap.size, 9, none⟩ = some (.slice B m d) := hx5.cell 9
    have x10 : w5.cell? ⟨w.heap.size, 10, none⟩ = some (.slice A2 n2 c2) := hx5.cell 10
    have hc := evalC Ac; have hf := evalF Ac; have hgl := evalG Ac
    obtain ⟨ρ, hρ⟩ : ∃ ρ, Ac.eval = ρ := ⟨_, rfl⟩
    rw [hρ] at a9 hc hf hgl
    exact relPure hρ (.slice A2 n2 c2) (by simp [go_sem, hc, hf, hgl, ↓IntWalk.iteOmega, a9, *]) rfl
  · refine relStep_plain rfl ?_
    intro Ac w5 hp
    have hb := hp.bel
    have a10 : Ac.eval (.tmp 10) = .slice A2 n2 c2 := hp.dep 7 (by kernel_rfl)
    have hc := evalC Ac; have hf := evalF Ac; have hgl := evalG Ac
    obtain ⟨ρ, hρ⟩ : ∃ ρ, Ac.eval = ρ := ⟨_, rfl⟩
    rw [hρ] at a10 hc hf hgl
    refine relCall hρ 90 #[.slice A2 n2 c2, .int .i64 30] (by simp [go_sem, hc, hf, hgl, ↓IntWalk.iteOmega, a10, *]) ?_
    refine (HF3.out w5 hb).mono ?_
    rintro e w6 ⟨A6, n6, c6, rfl, _, _, hb6⟩
    exact ⟨_, rfl, ⟨A6, n6, c6, rfl⟩, hb6⟩
  · refine relStep_plain rfl ?_
    intro Ac w5 hp
    have hb := hp.bel
    obtain ⟨A5, n5, c5, a5⟩ := hp.dep 2 (by kernel_rfl)
    change Ac.eval (.tmp 5) = _ at a5
    obtain ⟨A8, n8, c8, B8, m8, d8, a8⟩ := hp.dep 5 (by kernel_rfl)
    change Ac.eval (.tmp 8) = _ at a8
    obtain ⟨A11, n11, c11, a11⟩ := hp.dep 8 (by kernel_rfl)
    change Ac.eval (.tmp 11) = _ at a11
    have hc := evalC Ac; have hf := evalF Ac; have hgl := evalG Ac
    obtain ⟨ρ, hρ⟩ : ∃ ρ, Ac.eval = ρ := ⟨_, rfl⟩
    rw [hρ] at a5 a8 a11 hc hf hgl
    exact relPure hρ (.agg #[.slice A5 n5 c5, .int .i64 Y.has, .int .i64 Y.org, .slice A8 n8 c8, .int .u32 Y.hop, .int .u32 Y.med, .int .u32 Y.pref, .int .u32 Y.aas, .int .u32 Y.aid, .slice B8 m8 d8, .slice A11 n11 c11]) (by simp [go_sem, hc, hf, hgl, ↓IntWalk.iteOmega, a5, a8, a11, *]) ⟨A5, n5, c5, A8, n8, c8, B8, m8, d8, A11, n11, c11, rfl⟩
  intro u w2 hb7 hall
  obtain ⟨A12, n12, c12, A13, n13, c13, B13, m13, d13, A14, n14, c14, e12⟩ := relAll_at hall (i := 9) (by decide +kernel)
  change u 9 = _ at e12
  clear hall
  simp only [List.drop_succ_cons, List.drop_zero, List.take_succ_cons, List.take_zero, putAll, Act.put, List.setIfInBounds_toArray, List.set_cons_zero, List.set_cons_succ, Nat.zero_add, Nat.reduceAdd, e12]
  have HB2 := hide (HB1.out.trans (hb7.mono HB1.out.size))
  have HZ2 := hide (HZ.out.below hb7 HZ.out.lt)
  clear hb7
  have z0 : w2.cell? ⟨w.heap.size + 1, 0, none⟩ = some (.slice none 0 0) := HZ2.out.cell 0
  have z1 : w2.cell? ⟨w.heap.size + 1, 1, none⟩ = some (.int .i64 0) := HZ2.out.cell 1
  have z2 : w2.cell? ⟨w.heap.size + 1, 2, none⟩ = some (.int .i64 0) := HZ2.out.cell 2
  have z3 : w2.cell? ⟨w.heap.size + 1, 3, none⟩ = some (.slice none 0 0) := HZ2.out.cell 3
  have z4 : w2.cell? ⟨w.heap.size + 1, 4, none⟩ = some (.int .u32 0) := HZ2.out.cell 4
  have z5 : w2.cell? ⟨w.heap.size + 1, 5, none⟩ = some (.int .u32 0) := HZ2.out.cell 5
  have z6 : w2.cell? ⟨w.heap.size + 1, 6, none⟩ = some (.int .u32 0) := HZ2.out.cell 6
  have z7 : w2.cell? ⟨w.heap.size + 1, 7, none⟩ = some (.int .u32 0) := HZ2.out.cell 7
  have z8 : w2.cell? ⟨w.heap.size + 1, 8, none⟩ = some (.int .u32 0) := HZ2.out.cell 8
  have z9 : w2.cell? ⟨w.heap.size + 1, 9, none⟩ = some (.slice none 0 0) := HZ2.out.cell 9
  have z10 : w2.cell? ⟨w.heap.size + 1, 10, none⟩ = some (.slice none 0 0) := HZ2.out.cell 10
  have zf := fun i => HZ2.out.frozen i
  go_wp2
  change bodyPost _ _ _ _ _ (w2.setCells (w.heap.size + 1) 0 [.slice A12 n12 c12, .int .i64 Y.has, .int .i64 Y.org, .slice A13 n13 c13, .int .u32 Y.hop, .int .u32 Y.med, .int .u32 Y.pref, .int .u32 Y.aas, .int .u32 Y.aid, .slice B13 m13 d13, .slice A14 n14 c14])
  obtain ⟨wF, hwF⟩ : ∃ x, w2.setCells (w.heap.size + 1) 0 [.slice A12 n12 c12, .int .i64 Y.has, .int .i64 Y.org, .slice A13 n13 c13, .int .u32 Y.hop, .int .u32 Y.med, .int .u32 Y.pref, .int .u32 Y.aas, .int .u32 Y.aid, .slice B13 m13 d13, .slice A14 n14 c14] = x := ⟨_, rfl⟩
  have HFk := hide (hwF ▸ blk_sets [.slice A12 n12 c12, .int .i64 Y.has, .int .i64 Y.org, .slice A13 n13 c13, .int .u32 Y.hop, .int .u32 Y.med, .int .u32 Y.pref, .int .u32 Y.aas, .int .u32 Y.aid, .slice B13 m13 d13, .slice A14 n14 c14] [] [.slice none 0 0, .int .i64 0, .int .i64 0, .slice none 0 0, .int .u32 0, .int .u32 0, .int .u32 0, .int .u32 0, .int .u32 0, .slice none 0 0, .slice none 0 0] HZ2.out rfl : Blk wF (w.heap.size + 1) 81 #[.slice A12 n12 c12, .int .i64 Y.has, .int .i64 Y.org, .slice A13 n13 c13, .int .u32 Y.hop, .int .u32 Y.med, .int .u32 Y.pref, .int .u32 Y.aas, .int .u32 Y.aid, .slice B13 m13 d13, .slice A14 n14 c14])
  have HFb : Hid (Below w.heap.size w wF) := hide (hwF ▸ below_clear (Nat.le_succ _) _ _ HB2.out)
  rw [hwF]
  clear hwF zf z0 z1 z2 z3 z4 z5 z6 z7 z8 z9 z10
  have q0 : wF.cell? ⟨w.heap.size + 1, 0, none⟩ = some (.slice A12 n12 c12) := HFk.out.cell 0
  have q1 : wF.cell? ⟨w.heap.size + 1, 1, none⟩ = some (.int .i64 Y.has) := HFk.out.cell 1
  have q2 : wF.cell? ⟨w.heap.size + 1, 2, none⟩ = some (.int .i64 Y.org) := HFk.out.cell 2
  have q3 : wF.cell? ⟨w.heap.size + 1, 3, none⟩ = some (.slice A13 n13 c13) := HFk.out.cell 3
  have q4 : wF.cell? ⟨w.heap.size + 1, 4, none⟩ = some (.int .u32 Y.hop) := HFk.out.cell 4
  have q5 : wF.cell? ⟨w.heap.size + 1, 5, none⟩ = some (.int .u32 Y.med) := HFk.out.cell 5
  have q6 : wF.cell? ⟨w.heap.size + 1, 6, none⟩ = some (.int .u32 Y.pref) := HFk.out.cell 6
  have q7 : wF.cell? ⟨w.heap.size + 1, 7, none⟩ = some (.int .u32 Y.aas) := HFk.out.cell 7
  have q8 : wF.cell? ⟨w.heap.size + 1, 8, none⟩ = some (.int .u32 Y.aid) := HFk.out.cell 8
  have q9 : wF.cell? ⟨w.heap.size + 1, 9, none⟩ = some (.slice B13 m13 d13) := HFk.out.cell 9
  have q10 : wF.cell? ⟨w.heap.size + 1, 10, none⟩ = some (.slice A14 n14 c14) := HFk.out.cell 10
  rw [HY.out]
  refine bodyPost_ret (v := .agg #[.slice A12 n12 c12, .int .i64 Y.has, .int .i64 Y.org, .slice A13 n13 c13, .int .u32 Y.hop, .int .u32 Y.med, .int .u32 Y.pref, .int .u32 Y.aas, .int .u32 Y.aid, .slice B13 m13 d13, .slice A14 n14 c14]) (by simp [results, Tryz.results42, go_sem, q0, q1, q2, q3, q4, q5, q6, q7, q8, q9, q10]) rfl (by first | exact ⟨⟨A12, n12, c12, A13, n13, c13, B13, m13, d13, A14, n14, c14, rfl⟩, HFb.out⟩ | exact ⟨A12, n12, c12, A13, n13, c13, B13, m13, d13, A14, n14, c14, rfl, HFb.out⟩)
set_option maxRecDepth 100000 in
set_option maxHeartbeats 8000000 in
theorem ribinNone_any (A1 A2 : Option Addr) (n1 c1 n2 c2 : Nat) (l1 l2 : List (Nat × Int)) (X : AT) (A : Option Addr) (k c : Nat) (B : Option Addr) (m d : Nat) (a b : Int) (w : World) (h1 : LstAt 2 pzR w A1 n1 c1 l1) (h2 : LstAt 2 pzR w A2 n2 c2 l2) (hP : LstAt 2 sgR w A k c X.path) (hC : U32s w B m d X.comms) :
    Calls Tryz.prog 9 #[.agg #[.slice A1 n1 c1, .int .i64 X.has, .int .i64 X.org, .slice A k c, .int .u32 X.hop, .int .u32 X.med, .int .u32 X.pref, .int .u32 X.aas, .int .u32 X.aid, .slice B m d, .slice A2 n2 c2], .agg #[.int .u32 a, .int .i64 b]] w (GoodP true w) := by
  obtain ⟨w1, hw1⟩ : ∃ w1, (w.alloc (.cells #[.slice A1 n1 c1, .int .i64 X.has, .int .i64 X.org, .slice A k c, .int .u32 X.hop, .int .u32 X.med, .int .u32 X.pref, .int .u32 X.aas, .int .u32 X.aid, .slice B m d, .slice A2 n2 c2] 81)).alloc (.cells #[.int .u32 a, .int .i64 b] 24) = w1 := ⟨_, rfl⟩
  have hb1 : Below w.heap.size w w1 := hw1 ▸ blkBelow2 w _ _
  have HX : Hid (Blk w1 w.heap.size 81 #[.slice A1 n1 c1, .int .i64 X.has, .int .i64 X.org, .slice A k c, .int .u32 X.hop, .int .u32 X.med, .int .u32 X.pref, .int .u32 X.aas, .int .u32 X.aid, .slice B m d, .slice A2 n2 c2]) := hide (hw1 ▸ (Blk.new w _ _).alloc _)
  have HQ : Hid (Blk w1 (w.heap.size + 1) 24 #[.int .u32 a, .int .i64 b]) := hide (hw1 ▸ blk_new' _ _ (by simp))
  have HFw := hide (few10_any A1 A2 n1 c1 n2 c2 l1 l2 X A k c B m d w1 (h1.below pzMono hb1) (h2.below pzMono hb1) (hP.below sgMono hb1) (hC.below hb1))
  have HB1 := hide hb1
  have HW1 := hide hw1
  clear hw1 hb1 h1 h2 hP hC
  have x0 : w1.cell? ⟨w.heap.size, 0, none⟩ = some (.slice A1 n1 c1) := HX.out.cell 0
  have x1 : w1.cell? ⟨w.heap.size, 1, none⟩ = some (.int .i64 X.has) := HX.out.cell 1
  have x2 : w1.cell? ⟨w.heap.size, 2, none⟩ = some (.int .i64 X.org) := HX.out.cell 2
  have x3 : w1.cell? ⟨w.heap.size, 3, none⟩ = some (.slice A k c) := HX.out.cell 3
  have x4 : w1.cell? ⟨w.heap.size, 4, none⟩ = some (.int .u32 X.hop) := HX.out.cell 4
  have x5 : w1.cell? ⟨w.heap.size, 5, none⟩ = some (.int .u32 X.med) := HX.out.cell 5
  have x6 : w1.cell? ⟨w.heap.size, 6, none⟩ = some (.int .u32 X.pref) := HX.out.cell 6
  have x7 : w1.cell? ⟨w.heap.size, 7, none⟩ = some (.int .u32 X.aas) := HX.out.cell 7
  have x8 : w1.cell? ⟨w.heap.size, 8, none⟩ = some (.int .u32 X.aid) := HX.out.cell 8
  have x9 : w1.cell? ⟨w.heap.size, 9, none⟩ = some (.slice B m d) := HX.out.cell 9
  have x10 : w1.cell? ⟨w.heap.size, 10, none⟩ = some (.slice A2 n2 c2) := HX.out.cell 10
  go_enter Tryz.func9, Tryz.ntmps9
  go_wp2_with fail
  rw [HW1.out]
  refine HFw.out.mono ?_
  rintro e w2 ⟨E1, f1, g1, E2, f2, g2, E3, f3, g3, E4, f4, g4, rfl, hb2⟩
  have HB2 := hide (HB1.out.trans (hb2.mono HB1.out.size))
  have HQ2 := hide (HQ.out.below hb2 HQ.out.lt)
  clear hb2 x0 x1 x2 x3 x4 x5 x6 x7 x8 x9 x10
  go_wp2_with fail
  refine (feed_nil E1 E4 E2 E3 f1 g1 f4 g4 f2 g2 f3 g3 (cutA X) w2).mono ?_
  rintro e w3 ⟨rfl, hb3⟩
  have HB3 := hide (HB2.out.trans (hb3.mono HB2.out.size))
  have HQ3 := hide (HQ2.out.below hb3 HQ2.out.lt)
  clear hb3
  have p0 : w3.cell? ⟨w.heap.size + 1, 0, none⟩ = some (.int .u32 a) := HQ3.out.cell 0
  have p1 : w3.cell? ⟨w.heap.size + 1, 1, none⟩ = some (.int .i64 b) := HQ3.out.cell 1
  go_wp2_with fail
  refine (ribGet_nil a b w3).mono ?_
  rintro e w4 ⟨rfl, hb4⟩
  obtain ⟨w5, hw5⟩ : ∃ W, w4.alloc (.cells #[.int .i64 0, .int .i64 0, .slice none 0 0, .int .u32 0, .int .u32 0, .int .u32 0, .int .u32 0, .int .u32 0, .slice none 0 0] 28) = W := ⟨_, rfl⟩
  have hb5 : Below w4.heap.size w4 w5 := hw5 ▸ blkBelow1 w4 _
  have HB5 := hide (HB3.out.trans ((hb4.trans (hb5.mono hb4.size)).mono HB3.out.size))
  have HQ5 := hide ((HQ3.out.below hb4 HQ3.out.lt).below hb5 (HQ3.out.below hb4 HQ3.out.lt).lt)
  have HW5 := hide hw5
  clear hw5 hb4 hb5 p0 p1
  go_upto_region 4 with fail
  rw [HW5.out]
  have p0 : w5.cell? ⟨w.heap.size + 1, 0, none⟩ = some (.int .u32 a) := HQ5.out.cell 0
  have p1 : w5.cell? ⟨w.heap.size + 1, 1, none⟩ = some (.int .i64 b) := HQ5.out.cell 1
  go_wp2_with fail
  refine (ribImp_nil a b w5).mono ?_
  rintro e w6 ⟨rfl, hb6⟩
  obtain ⟨w7, hw7⟩ : ∃ W, w6.alloc (.cells #[.int .i64 0, .int .i64 0, .slice none 0 0, .int .u32 0, .int .u32 0, .int .u32 0, .int .u32 0, .int .u32 0, .slice none 0 0] 28) = W := ⟨_, rfl⟩
  have hb7 : Below w6.heap.size w6 w7 := hw7 ▸ blkBelow1 w6 _
  have HB7 := hide (HB5.out.trans ((hb6.trans (hb7.mono hb6.size)).mono HB5.out.size))
  have HW7 := hide hw7
  clear hw7 hb6 hb7 p0 p1
  go_upto_region 5 with fail
  rw [HW7.out]
  go_wp2_with fail
  refine (ribSet_nil w7).mono ?_
  rintro e w8 ⟨rfl, hb8⟩
  have HB8 := hide (HB7.out.trans (hb8.mono HB7.out.size))
  clear hb8
  go_wp2_with fail
  refine (ribAll_nil w8).mono ?_
  rintro e w9 ⟨rfl, rfl⟩
  go_wp2_with fail
  refine (ribLen_nil w9).mono ?_
  rintro e w10 ⟨rfl, rfl⟩
  go_wp2_with fail
  refine (ribClear_nil w10).mono ?_
  rintro e w11 ⟨rfl, rfl⟩
  go_wp2_with fail
  refine (lives27_any w11).mono ?_
  rintro e w12 ⟨rfl, hb12⟩
  have HB12 := hide (HB8.out.trans (hb12.mono HB8.out.size))
  clear hb12
  go_wp2
  go_ret
  exact ⟨rfl, HB12.out⟩
end Go.Proofs.YtcinjckajnnhmaaGreat
set_option linter.unusedSimpArgs false
set_option linter.unusedVariables false
namespace Go.Proofs.YtcinjckajnnhmaaGreat
open Go.RowKit Go.WideShapes Go.ChangeShapes
attribute [local go_sem] Oper.semAt_some
abbrev atL (h o : Int) (A : Option Addr) (n c : Nat) (hp md pf aa ai : Int) (B : Option Addr) (m d : Nat) : List Value := [.int .i64 h, .int .i64 o, .slice A n c, .int .u32 hp, .int .u32 md, .int .u32 pf, .int .u32 aa, .int .u32 ai, .slice B m d]
end Go.Proofs.YtcinjckajnnhmaaGreat
set_option linter.unusedSimpArgs false
set_option linter.unusedVariables false
namespace Go.Proofs.YtcinjckajnnhmaaGreat
open Go.RowKit Go.WideShapes Go.ChangeShapes
set_option maxRecDepth 100000 in
theorem u32s_opens {H : Type} {enc : TypeId × Value → H} {W : World} {f : Nat} {v : Value} {x : DataW H × List MemPlace} (h : DataW.trod enc Tryz.prog W 0 (fun _ => true) true f 26 [v] = some x) :
    ∃ A n c l, v = .slice A n c ∧ U32s W A n c l := by
  have h1' : ∃ A n c, v = .slice A n c := by
    rcases DataW.trod_slice Tryz.underlying26 h with ⟨e, _⟩ | ⟨a, len, cap, elems, rest, n, _, e, _⟩
    · exact ⟨none, 0, 0, by simpa using e⟩
    · exact ⟨some a, len, cap, by simpa using e⟩
  obtain ⟨A, m, c, rfl⟩ := h1'
  obtain ⟨l, hl⟩ := u32s_open (A := A) (n := m) (c := c) ⟨f, by simpa [Value.cells] using h⟩
  exact ⟨A, m, c, l, rfl, hl⟩
set_option maxRecDepth 100000 in
theorem segs_open {H : Type} {enc : TypeId × Value → H} {W : World} {A : Option Addr} {n c : Nat} {d : DataW H} {p : List MemPlace}
    (h : DataW.Trod enc Tryz.prog W 0 (fun _ => true) true 25 (.slice A n c) d p) : ∃ l : List SG, LstAt 2 sgR W A n c l := by
  obtain ⟨fuel, hf⟩ := h
  obtain ⟨A', n', c', l, e, hl⟩ := lst_open (R := sgR) (sz := 2) Tryz.underlying25 (by kernel_rfl) (by decide) (fun f cs x hx => by
    obtain ⟨z0, z1, n, _, hl, g0, g1⟩ := trod_struct2 Tryz.underlying133 hx
    have c2 : Tryz.prog.cellsOf 133 = 2 := by kernel_rfl
    have ci : Tryz.prog.cellsOf 3 = 1 := by kernel_rfl
    have cs1 : Tryz.prog.cellsOf 26 = 1 := by kernel_rfl
    rw [c2] at hl
    match cs, hl with
    | [v0, v1], _ =>
      simp only [ci, cs1, List.drop_zero, List.drop_succ_cons, List.take_succ_cons, List.take_zero] at g0 g1
      obtain ⟨k, e0, _⟩ := DataW.trod_int Tryz.underlying3 g0
      obtain ⟨A, m, c, l, rfl, hl⟩ := u32s_opens g1
      simp only [List.cons.injEq, and_true] at e0
      subst e0
      exact ⟨⟨k, l⟩, A, m, c, rfl, hl⟩) hf
  obtain ⟨rfl, rfl, rfl⟩ : A = A' ∧ n = n' ∧ c = c' := by simpa [Value.cells] using e
  exact ⟨l, hl⟩
end Go.Proofs.YtcinjckajnnhmaaGreat
set_option linter.unusedSimpArgs false
set_option linter.unusedVariables false
namespace Go.Proofs.YtcinjckajnnhmaaGreat
open Go.RowKit Go.WideShapes Go.ChangeShapes Go.ChangeAt
theorem segs_opens {H : Type} {enc : TypeId × Value → H} {W : World} {f : Nat} {v : Value} {x : DataW H × List MemPlace} (h : DataW.trod enc Tryz.prog W 0 (fun _ => true) true f 25 [v] = some x) :
    ∃ A n c l, v = .slice A n c ∧ LstAt 2 sgR W A n c l := by
  have h1' : ∃ A n c, v = .slice A n c := by
    rcases DataW.trod_slice Tryz.underlying25 h with ⟨e, _⟩ | ⟨a, len, cap, elems, rest, n, _, e, _⟩
    · exact ⟨none, 0, 0, by simpa using e⟩
    · exact ⟨some a, len, cap, by simpa using e⟩
  obtain ⟨A, m, c, rfl⟩ := h1'
  obtain ⟨l, hl⟩ := segs_open (A := A) (n := m) (c := c) ⟨f, by simpa [Value.cells] using h⟩
  exact ⟨A, m, c, l, rfl, hl⟩
set_option maxRecDepth 100000 in
set_option maxHeartbeats 4000000 in
theorem at_opens {H : Type} {enc : TypeId × Value → H} {W : World} {f : Nat} {cs : List Value} {x : DataW H × List MemPlace} (h : DataW.trod enc Tryz.prog W 0 (fun _ => true) true f 28 cs = some x) : ∃ (X : AT) (A : Option Addr) (n c : Nat) (B : Option Addr) (m d : Nat), cs = atL X.has X.org A n c X.hop X.med X.pref X.aas X.aid B m d ∧ LstAt 2 sgR W A n c X.path ∧ U32s W B m d X.comms := by
  obtain ⟨xs, f2, _, rfl, hl, hlen, hf⟩ := DataW.trod_struct Tryz.underlying28 h
  have c9 : Tryz.prog.cellsOf 28 = 9 := by kernel_rfl
  rw [c9] at hl
  match xs, hlen with
  | [y0, y1, y2, y3, y4, y5, y6, y7, y8], _ =>
  match cs, hl with
  | [v0, v1, v2, v3, v4, v5, v6, v7, v8], _ =>
    have h0 : DataW.trod enc Tryz.prog W 0 (fun _ => true) true f2 3 [v0] = some y0 := hf 0 _ rfl
    have h1 : DataW.trod enc Tryz.prog W 0 (fun _ => true) true f2 3 [v1] = some y1 := hf 1 _ rfl
    have h2 : DataW.trod enc Tryz.prog W 0 (fun _ => true) true f2 25 [v2] = some y2 := hf 2 _ rfl
    have h3 : DataW.trod enc Tryz.prog W 0 (fun _ => true) true f2 22 [v3] = some y3 := hf 3 _ rfl
    have h4 : DataW.trod enc Tryz.prog W 0 (fun _ => true) true f2 22 [v4] = some y4 := hf 4 _ rfl
    have h5 : DataW.trod enc Tryz.prog W 0 (fun _ => true) true f2 22 [v5] = some y5 := hf 5 _ rfl
    have h6 : DataW.trod enc Tryz.prog W 0 (fun _ => true) true f2 22 [v6] = some y6 := hf 6 _ rfl
    have h7 : DataW.trod enc Tryz.prog W 0 (fun _ => true) true f2 22 [v7] = some y7 := hf 7 _ rfl
    have h8 : DataW.trod enc Tryz.prog W 0 (fun _ => true) true f2 26 [v8] = some y8 := hf 8 _ rfl
    clear hf
    obtain ⟨q0, e0, _, j0⟩ := DataW.trod_int Tryz.underlying3 h0
    obtain ⟨q1, e1, _, j1⟩ := DataW.trod_int Tryz.underlying3 h1
    obtain ⟨A, n, c, pl, rfl, hP⟩ := segs_opens h2
    obtain ⟨q3, e3, _, j3⟩ := DataW.trod_int Tryz.underlying22 h3
    obtain ⟨q4, e4, _, j4⟩ := DataW.trod_int Tryz.underlying22 h4
    obtain ⟨q5, e5, _, j5⟩ := DataW.trod_int Tryz.underlying22 h5
    obtain ⟨q6, e6, _, j6⟩ := DataW.trod_int Tryz.underlying22 h6
    obtain ⟨q7, e7, _, j7⟩ := DataW.trod_int Tryz.underlying22 h7
    obtain ⟨B, m, d, cl, rfl, hC⟩ := u32s_opens h8
    simp only [List.cons.injEq, and_true] at e0 e1 e3 e4 e5 e6 e7
    subst e0 e1 e3 e4 e5 e6 e7
    exact ⟨⟨q0, q1, pl, q3, q4, q5, q6, q7, cl⟩, A, n, c, B, m, d, rfl, hP, hC⟩
end Go.Proofs.YtcinjckajnnhmaaGreat
set_option linter.unusedSimpArgs false
set_option linter.unusedVariables false
namespace Go.Proofs.YtcinjckajnnhmaaGreat
open Go.RowKit Go.WideShapes Go.ChangeShapes Go.ChangeAt
attribute [local go_sem] Oper.semAt_some
/-- What an Update says: prefixes that are gone, attributes, prefixes that are here. -/
structure UPD where
  A1 : Option Addr
  n1 : Nat
  c1 : Nat
  l1 : List (Nat × Int)
  X : AT
  A : Option Addr
  k : Nat
  c : Nat
  B : Option Addr
  m : Nat
  d : Nat
  A2 : Option Addr
  n2 : Nat
  c2 : Nat
  l2 : List (Nat × Int)
def UPD.cs (u : UPD) : List Value := [.slice u.A1 u.n1 u.c1, .int .i64 u.X.has, .int .i64 u.X.org, .slice u.A u.k u.c, .int .u32 u.X.hop, .int .u32 u.X.med, .int .u32 u.X.pref, .int .u32 u.X.aas, .int .u32 u.X.aid, .slice u.B u.m u.d, .slice u.A2 u.n2 u.c2]
structure UpdR (w : World) (u : UPD) : Prop where
  gone : LstAt 2 pzR w u.A1 u.n1 u.c1 u.l1
  path : LstAt 2 sgR w u.A u.k u.c u.X.path
  comms : U32s w u.B u.m u.d u.X.comms
  here : LstAt 2 pzR w u.A2 u.n2 u.c2 u.l2
set_option maxRecDepth 100000 in
theorem pz_opens {H : Type} {enc : TypeId × Value → H} {W : World} {f : Nat} {cs : List Value} {x : DataW H × List MemPlace} (h : DataW.trod enc Tryz.prog W 0 (fun _ => true) true f 24 cs = some x) : ∃ y, pzR W cs y := by
  obtain ⟨xs, f2, _, rfl, hl, hlen, hf⟩ := DataW.trod_struct Tryz.underlying24 h
  have c9 : Tryz.prog.cellsOf 24 = 2 := by kernel_rfl
  rw [c9] at hl
  match xs, hlen with
  | [y0, y1], _ =>
  match cs, hl with
  | [v0, v1], _ =>
    have h0 : DataW.trod enc Tryz.prog W 0 (fun _ => true) true f2 22 [v0] = some y0 := hf 0 _ rfl
    have h1 : DataW.trod enc Tryz.prog W 0 (fun _ => true) true f2 3 [v1] = some y1 := hf 1 _ rfl
    clear hf
    obtain ⟨q0, e0, _, j0⟩ := DataW.trod_int Tryz.underlying22 h0
    obtain ⟨q1, e1, _, j1⟩ := DataW.trod_int Tryz.underlying3 h1
    simp only [List.cons.injEq, and_true] at e0 e1
    subst e0 e1
    have c0 : 0 ≤ q0 ∧ q0 ≤ 4294967295 := by simpa [Lit.wf, IntKind.min, IntKind.max, IntKind.signed, IntKind.bits] using j0
    have c1 : -9223372036854775808 ≤ q1 ∧ q1 ≤ 9223372036854775807 := by simpa [Lit.wf, IntKind.min, IntKind.max, IntKind.signed, IntKind.bits] using j1
    obtain ⟨a, rfl⟩ := Int.eq_ofNat_of_zero_le c0.1
    exact ⟨(a, q1), rfl, by omega, c1.1, c1.2⟩
theorem pzs_opens {H : Type} {enc : TypeId × Value → H} {W : World} {f : Nat} {cs : List Value} {x : DataW H × List MemPlace} (h : DataW.trod enc Tryz.prog W 0 (fun _ => true) true f 45 cs = some x) : ∃ A n c l, cs = [.slice A n c] ∧ LstAt 2 pzR W A n c l :=
  lst_open (R := pzR) (sz := 2) Tryz.underlying45 (by kernel_rfl) (by decide) (fun f cs x hx => pz_opens hx) h
set_option maxRecDepth 100000 in
set_option maxHeartbeats 4000000 in
theorem upd_opens {H : Type} {enc : TypeId × Value → H} {W : World} {f : Nat} {cs : List Value} {x : DataW H × List MemPlace} (h : DataW.trod enc Tryz.prog W 0 (fun _ => true) true f 81 cs = some x) : ∃ u : UPD, cs = u.cs ∧ UpdR W u := by
  obtain ⟨xs, f2, _, rfl, hl, hlen, hf⟩ := DataW.trod_struct Tryz.underlying81 h
  have c11 : Tryz.prog.cellsOf 81 = 11 := by kernel_rfl
  have cA : Tryz.prog.cellsOf 28 = 9 := by kernel_rfl
  have cS : Tryz.prog.cellsOf 45 = 1 := by kernel_rfl
  rw [c11] at hl
  match xs, hlen with
  | [y0, y1, y2], _ =>
  match cs, hl with
  | [v0, v1, v2, v3, v4, v5, v6, v7, v8, v9, v10], _ =>
    have h0 : DataW.trod enc Tryz.prog W 0 (fun _ => true) true f2 45 [v0] = some y0 := hf 0 _ rfl
    have h1 : DataW.trod enc Tryz.prog W 0 (fun _ => true) true f2 28 [v1, v2, v3, v4, v5, v6, v7, v8, v9] = some y1 := hf 1 _ rfl
    have h2 : DataW.trod enc Tryz.prog W 0 (fun _ => true) true f2 45 [v10] = some y2 := hf 2 _ rfl
    clear hf
    obtain ⟨A1, n1, c1, l1, e0, g1⟩ := pzs_opens h0
    obtain ⟨X, A, k, c, B, m, d, e1, hP, hC⟩ := at_opens h1
    obtain ⟨A2, n2, c2, l2, e2, g2⟩ := pzs_opens h2
    have e1 : [v1, v2, v3, v4, v5, v6, v7, v8, v9] = [.int .i64 X.has, .int .i64 X.org, .slice A k c, .int .u32 X.hop, .int .u32 X.med, .int .u32 X.pref, .int .u32 X.aas, .int .u32 X.aid, .slice B m d] := e1
    simp only [List.cons.injEq, and_true] at e0 e1 e2
    subst e0 e2
    obtain ⟨rfl, rfl, rfl, rfl, rfl, rfl, rfl, rfl, rfl⟩ := e1
    exact ⟨⟨A1, n1, c1, l1, X, A, k, c, B, m, d, A2, n2, c2, l2⟩, rfl, g1, hP, hC, g2⟩
set_option maxRecDepth 100000 in
theorem upd_open {H : Type} {enc : TypeId × Value → H} {W : World} {r0 : Reach} {b0 : Nat} {v : Value} {d0 : DataW H} {p0 : List MemPlace} (hv : Value.okWide Tryz.prog W r0 b0 81 v)
    (h : DataW.Trod enc Tryz.prog W 0 (fun _ => true) true 81 v d0 p0) : ∃ u : UPD, v = .agg u.cs.toArray ∧ UpdR W u := by
  obtain ⟨cs, rfl, hsz⟩ := okWide_struct Tryz.underlying81 hv
  obtain ⟨fuel, hf⟩ := h
  obtain ⟨u, e, hr⟩ := upd_opens hf
  have e3 : cs = u.cs.toArray := by
    have e2 : cs.toList = _ := e
    rw [← e2]
  exact ⟨u, by rw [e3], hr⟩
end Go.Proofs.YtcinjckajnnhmaaGreat
