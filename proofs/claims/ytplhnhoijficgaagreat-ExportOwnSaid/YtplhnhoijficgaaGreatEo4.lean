import Derived.Test.YtplhnhoijficgaaGreatEo3
import Derived.WalkKit
import Derived.ProofKit
import Derived.OpenShut
import Derived.Below
import Derived.Laws.OwnMore
import Derived.Laws.Rows
import Derived.Laws.MakeOwn
import Derived.Deep.AppendLies
import Derived.Deep.Draws
import Derived.Deep.OwnRows
import Derived.Deep.QuietTactic
import Derived.Maps.AppendAt
import Derived.RegionTactic
import Derived.OwnWalk
import Derived.ChangeSame
import Derived.Outline
import Derived.BigQuiet
import Derived.WalkMore
import Derived.ScopeJumps
import Derived.WalkLawsBesides
import Derived.WalkSpells
import Derived.Deep.Slices
import Derived.Laws.BitsLemmas
import Derived.Laws.BitsAllLaws
import Derived.Deep.Quiet
import Derived.WideKeyArgs
import Derived.Deep.DeepHandedRow
import Derived.Deep.DeepWitnessRowRef
import Derived.Lib.LaidTab
import Derived.Lib.AppendIntMem
import Derived.LaidMore
import Derived.MakeChecks
import Derived.Lib.Itoa
import Derived.Lib.ItoaMem
import Derived.BigRegion
import Derived.Orders
import Derived.OrdersIn
import Derived.RangeFuncCalls
import Derived.Shelf.RegionOpen
import Derived.Lib.PathFns
import Derived.Lib.IndexBytes
import Derived.RangeFuncWrites
import Derived.RangeFuncNested
import Derived.RangeFuncBound
import Derived.RangeFuncLeaves
import Derived.RangeFuncBox
import Derived.Shelf.Abstract
import Derived.OwnWalkIn
import Derived.TacticsInMore
import Derived.LoopNIn
import Derived.LoopIn
import Derived.Lib.SmallJoins
import Derived.Lib.ParseIntBCases
import Derived.Lib.IndexMore
import Derived.Shelf.Vars
import Derived.Lib.AtoiAllCases
import Derived.SliceStrings
import Derived.Deep.RegionLaw
import Derived.Sort.LotA
import Derived.StillTailTactics
import Derived.BigRegionIn
import Derived.Deep.RegionHeld3
import Derived.RangeFuncOwn
import Derived.Sort.WalkA6
import Derived.Sort.WalkB3
import Derived.Sort.WalkC4
import Derived.Sort.WalkA14
import Derived.Sort.Walk11
import Derived.Sort.Walk7
import Derived.Sort.Walk13
import Derived.Sort.Row
import Derived.Lib.Walk
import Derived.Lib.Strings
import Derived.BigGuard
import Derived.BigCall
import Derived.CellFam
import Derived.Deep.LoopGhost
import Derived.Sort.LotC
import Derived.Deep.RegionWith
import Derived.RowKit
import Derived.Sort.LotD3
import Derived.Sort.LotD4
import Derived.Sort.Grow
import Derived.Sort.AtCall
import Derived.Sort.LotD5
import Derived.Laws.Bits64
import Derived.Laws.Bits64b
import Derived.Sort.EncStr
import Derived.Sort.LotD1
import Derived.Sort.LotB
import Derived.Deep.Cut
import Derived.Sort.Walk13a
import Derived.Sort.AssemblyPlain
import Derived.Shelf.Spec.SlicesInsertGrow
import Derived.Deep.MidRow
import Derived.Lib.RowBridge
import Derived.Deep.DeepCutAuto
import Derived.Laws.CopyOwn
import Derived.Lib.AppendZerosOnto
import Derived.Lib.Bytealg
import Derived.Shelf.Strings.SplitShaped
import Derived.Shelf.Strings.Prefix
import Derived.Shelf.Small.Strs
set_option linter.unusedSimpArgs false
set_option linter.unusedVariables false
namespace Go.Proofs.YtplhnhoijficgaaGreat
open Go.RowKit Go.WideShapes Go.ChangeShapes
attribute [local go_sem] Oper.semAt_some
theorem blk12 {w : World} {g : Nat} {t : TypeId} {v0 v1 v2 v3 v4 v5 v6 v7 v8 v9 v10 v11 : Value} (h : Blk w g t #[v0, v1, v2, v3, v4, v5, v6, v7, v8, v9, v10, v11]) :
    w.cell? ⟨g, 0, none⟩ = some v0 ∧ w.cell? ⟨g, 1, none⟩ = some v1 ∧ w.cell? ⟨g, 2, none⟩ = some v2 ∧ w.cell? ⟨g, 3, none⟩ = some v3 ∧ w.cell? ⟨g, 4, none⟩ = some v4 ∧ w.cell? ⟨g, 5, none⟩ = some v5 ∧ w.cell? ⟨g, 6, none⟩ = some v6 ∧ w.cell? ⟨g, 7, none⟩ = some v7 ∧ w.cell? ⟨g, 8, none⟩ = some v8 ∧ w.cell? ⟨g, 9, none⟩ = some v9 ∧ w.cell? ⟨g, 10, none⟩ = some v10 ∧ w.cell? ⟨g, 11, none⟩ = some v11 :=
  ⟨h.cell 0, h.cell 1, h.cell 2, h.cell 3, h.cell 4, h.cell 5, h.cell 6, h.cell 7, h.cell 8, h.cell 9, h.cell 10, h.cell 11⟩
theorem blk16 {w : World} {g : Nat} {t : TypeId} {v0 v1 v2 v3 v4 v5 v6 v7 v8 v9 v10 v11 v12 v13 v14 v15 : Value} (h : Blk w g t #[v0, v1, v2, v3, v4, v5, v6, v7, v8, v9, v10, v11, v12, v13, v14, v15]) :
    w.cell? ⟨g, 0, none⟩ = some v0 ∧ w.cell? ⟨g, 1, none⟩ = some v1 ∧ w.cell? ⟨g, 2, none⟩ = some v2 ∧ w.cell? ⟨g, 3, none⟩ = some v3 ∧ w.cell? ⟨g, 4, none⟩ = some v4 ∧ w.cell? ⟨g, 5, none⟩ = some v5 ∧ w.cell? ⟨g, 6, none⟩ = some v6 ∧ w.cell? ⟨g, 7, none⟩ = some v7 ∧ w.cell? ⟨g, 8, none⟩ = some v8 ∧ w.cell? ⟨g, 9, none⟩ = some v9 ∧ w.cell? ⟨g, 10, none⟩ = some v10 ∧ w.cell? ⟨g, 11, none⟩ = some v11 ∧ w.cell? ⟨g, 12, none⟩ = some v12 ∧ w.cell? ⟨g, 13, none⟩ = some v13 ∧ w.cell? ⟨g, 14, none⟩ = some v14 ∧ w.cell? ⟨g, 15, none⟩ = some v15 :=
  ⟨h.cell 0, h.cell 1, h.cell 2, h.cell 3, h.cell 4, h.cell 5, h.cell 6, h.cell 7, h.cell 8, h.cell 9, h.cell 10, h.cell 11, h.cell 12, h.cell 13, h.cell 14, h.cell 15⟩
structure CF where
  asn : Int
  id : Int
  ho : Int
  re : Int
  mr : Int
  P : Option Addr × Nat × Nat
  N : Option Addr × Nat × Nat
  G : Option Addr × Nat × Nat
  L1 : Option Addr × Nat × Nat
  L2 : Option Addr × Nat × Nat
  L3 : Option Addr × Nat × Nat
  L4 : Option Addr × Nat × Nat
structure PE where
  ad : Int
  asn : Int
  mx : Int
  pas : Bool
  im : ByteArray
  ex : ByteArray
  un : ByteArray
  df : Bool
  dm : ByteArray
  av : ByteArray
  cn : ByteArray
  non : Bool
abbrev cfC (x : CF) : Array Value := #[.int .u32 x.asn, .int .u32 x.id, .int .i64 x.ho, .int .i64 x.re, .int .i64 x.mr, .slice x.P.1 x.P.2.1 x.P.2.2, .slice x.N.1 x.N.2.1 x.N.2.2, .slice x.G.1 x.G.2.1 x.G.2.2, .slice x.L1.1 x.L1.2.1 x.L1.2.2, .slice x.L2.1 x.L2.2.1 x.L2.2.2, .slice x.L3.1 x.L3.2.1 x.L3.2.2, .slice x.L4.1 x.L4.2.1 x.L4.2.2]
abbrev peC (x : PE) : Array Value := #[.int .u32 x.ad, .int .u32 x.asn, .int .i64 x.mx, .bool x.pas, .string x.im, .string x.ex, .string x.un, .bool x.df, .string x.dm, .string x.av, .string x.cn, .bool x.non]
abbrev rtC (pa pl h o : Int) (A : Option Addr) (n c : Nat) (hp md pf aa ai : Int) (B : Option Addr) (m d : Nat) (rp ra ri : Int) (inn loc : Bool) : Array Value :=
  #[.int .u32 pa, .int .i64 pl, .int .i64 h, .int .i64 o, .slice A n c, .int .u32 hp, .int .u32 md, .int .u32 pf, .int .u32 aa, .int .u32 ai, .slice B m d, .int .u32 rp, .int .u32 ra, .int .u32 ri, .bool inn, .bool loc]
set_option maxRecDepth 100000 in
set_option maxHeartbeats 4000000 in
theorem exHas_any (k : Nat) (hk : K8 k) (h o : Int) (A : Option Addr) (n c : Nat) (hp md pf aa ai : Int) (B : Option Addr) (m d : Nat) (w : World) :
    Calls Tryz.prog 30 #[atV h o A n c hp md pf aa ai B m d, .int .i64 (k : Int)] w (GoodP (attB h k) w) := by
  have hne := hasB_ne h k hk
  have HB := hide (((Below.refl w.heap.size w).alloc (Nat.le_refl _) (.cells (atC h o A n c hp md pf aa ai B m d) 40)))
  have HK := hide (Blk.new w 40 (atC h o A n c hp md pf aa ai B m d))
  have c0 := HK.out.cell 0
  rcases k8_cases hk with rfl | rfl | rfl | rfl | rfl | rfl | rfl | rfl <;> (
    simp only [Nat.reducePow, Int.reducePow, Int.cast_ofNat_Int] at hne
    go_enter Tryz.func30, Tryz.ntmps30
    go_wp2
    go_region
    go_wp2
    go_ret
    exact ⟨by simp [hne], HB.out.drew⟩)
set_option maxRecDepth 100000 in
set_option maxHeartbeats 4000000 in
theorem exInner_any (x : CF) (y : PE) (w : World) : Calls Tryz.prog 27 #[.agg (cfC x), .agg (peC y)] w (GoodP (y.asn == x.asn) w) := by
  have HB := hide ((((Below.refl w.heap.size w).alloc (Nat.le_refl _) (.cells (cfC x) 35)).alloc (by simp) (.cells (peC y) 48)))
  go_enter Tryz.func27, Tryz.ntmps27
  go_wp2
  go_ret
  exact ⟨rfl, HB.out⟩
set_option maxRecDepth 100000 in
set_option maxHeartbeats 4000000 in
theorem exInnerX_any (x : CF) (y : PE) (w : World) : Calls Tryz.prog 17 #[.agg (cfC x), .agg (peC y)] w (GoodP (y.asn == x.asn) w) := by
  have hb0 : Below w.heap.size w ((w.alloc (.cells (cfC x) 35)).alloc (.cells (peC y) 48)) := ((Below.refl _ w).alloc (Nat.le_refl _) _).alloc (by simp) _
  have HB := hide hb0
  have HI := hide (exInner_any x y ((w.alloc (.cells (cfC x) 35)).alloc (.cells (peC y) 48)))
  clear hb0
  go_enter Tryz.func17, Tryz.ntmps17
  go_wp2_with fail
  refine HI.out.mono ?_
  rintro e w1 ⟨rfl, hb⟩
  have HB1 := hide (HB.out.trans (hb.mono HB.out.size))
  clear hb
  go_wp2
  go_ret
  exact ⟨rfl, HB1.out⟩
set_option maxRecDepth 100000 in
set_option maxHeartbeats 4000000 in
theorem exWith_any (k : Nat) (hk : k = 2 ∨ k = 3 ∨ k = 5) (q : Nat) (hq : q < 512) (o : Int) (A : Option Addr) (n c : Nat) (hp md pf aa ai : Int) (B : Option Addr) (m d : Nat) (w : World) :
    Calls Tryz.prog 29 #[atV q o A n c hp md pf aa ai B m d, .int .i64 (k : Int)] w (fun e w' => e = .returned (atV (setB q k : Nat) o A n c hp md pf aa ai B m d) ∧ Below w.heap.size w w') := by
  have hK : K8 k := by unfold K8; omega
  have hor := setB_or q k hq hK
  have HB := hide ((((Below.refl w.heap.size w).alloc (Nat.le_refl _) (.cells (atC (setB q k : Nat) o A n c hp md pf aa ai B m d) 40))).alloc (by simp) (.cells (atC (setB q k : Nat) o A n c hp md pf aa ai B m d) 40))
  rcases hk with rfl | rfl | rfl <;> (
    simp only [Nat.reducePow, Int.reducePow, Int.cast_ofNat_Int] at hor
    go_enter Tryz.func29, Tryz.ntmps29
    go_wp2
    go_region
    go_wp2
    exact bodyPost_ret (by simp [results, Tryz.results29, go_sem]) rfl ⟨rfl, HB.out.drew⟩)
set_option maxRecDepth 100000 in
set_option maxHeartbeats 4000000 in
theorem exWithout_any (k : Nat) (hk : k = 4 ∨ k = 5) (q : Nat) (hq : q < 512) (o : Int) (A : Option Addr) (n c : Nat) (hp md pf aa ai : Int) (B : Option Addr) (m d : Nat) (w : World) :
    Calls Tryz.prog 32 #[atV q o A n c hp md pf aa ai B m d, .int .i64 (k : Int)] w (fun e w' => e = .returned (atV (clrB q k : Nat) o A n c hp md pf aa ai B m d) ∧ Below w.heap.size w w') := by
  have hK : K8 k := by unfold K8; omega
  have hor := clrB_andNot q k hq hK
  have HB := hide ((((Below.refl w.heap.size w).alloc (Nat.le_refl _) (.cells (atC (clrB q k : Nat) o A n c hp md pf aa ai B m d) 40))).alloc (by simp) (.cells (atC (clrB q k : Nat) o A n c hp md pf aa ai B m d) 40))
  rcases hk with rfl | rfl <;> (
    simp only [Nat.reducePow, Int.reducePow, Int.cast_ofNat_Int] at hor
    go_enter Tryz.func32, Tryz.ntmps32
    go_wp2
    go_region
    go_wp2
    exact bodyPost_ret (by simp [results, Tryz.results32, go_sem]) rfl ⟨rfl, HB.out.drew⟩)
set_option maxRecDepth 100000 in
set_option maxHeartbeats 4000000 in
theorem exKept_any (pa pl h o : Int) (A : Option Addr) (n c : Nat) (hp md pf aa ai : Int) (B : Option Addr) (m d : Nat) (rp ra ri : Int) (inn loc : Bool)
    (h2 o2 : Int) (A2 : Option Addr) (n2 c2 : Nat) (hp2 md2 pf2 aa2 ai2 : Int) (B2 : Option Addr) (m2 d2 : Nat) (w : World) :
    Calls Tryz.prog 33 #[.agg (rtC pa pl h o A n c hp md pf aa ai B m d rp ra ri inn loc), atV h2 o2 A2 n2 c2 hp2 md2 pf2 aa2 ai2 B2 m2 d2] w (GoodP (!loc && attB h2 4 && attB h 4 && (md2 == md)) w) := by
  obtain ⟨w0, hw0⟩ : ∃ w0, ((w.alloc (.cells (rtC pa pl h o A n c hp md pf aa ai B m d rp ra ri inn loc) 42)).alloc (.cells (atC h2 o2 A2 n2 c2 hp2 md2 pf2 aa2 ai2 B2 m2 d2) 40)) = w0 := ⟨_, rfl⟩
  have HB0 := hide (show Below w.heap.size w w0 from hw0 ▸ ((Below.refl _ w).alloc (Nat.le_refl _) _).alloc (by simp) _)
  have HKr : Hid (Blk w0 w.heap.size 42 (rtC pa pl h o A n c hp md pf aa ai B m d rp ra ri inn loc)) := hide (hw0 ▸ (Blk.new w _ _).alloc _)
  have HKa : Hid (Blk w0 (w.heap.size + 1) 40 (atC h2 o2 A2 n2 c2 hp2 md2 pf2 aa2 ai2 B2 m2 d2)) := hide (hw0 ▸ blk_new' _ _ (by simp))
  have HW0 := hide hw0
  have H1 := hide (fun W => exHas_any 4 ⟨by decide, by decide⟩ h2 o2 A2 n2 c2 hp2 md2 pf2 aa2 ai2 B2 m2 d2 W)
  have H2 := hide (fun W => exHas_any 4 ⟨by decide, by decide⟩ h o A n c hp md pf aa ai B m d W)
  obtain ⟨q1, hq1⟩ : ∃ q, attB h2 4 = q := ⟨_, rfl⟩
  obtain ⟨q2, hq2⟩ : ∃ q, attB h 4 = q := ⟨_, rfl⟩
  rw [hq1] at H1 ⊢
  rw [hq2] at H2 ⊢
  clear hw0 hq1 hq2
  go_enter Tryz.func33, Tryz.ntmps33
  cases loc
  · go_wp2_with fail
    rw [HW0.out]
    refine (H1.out _).mono ?_
    rintro e w1 ⟨rfl, hb1⟩
    have HB1 := hide (HB0.out.trans (hb1.mono HB0.out.size))
    have HKr1 := hide (HKr.out.below hb1 HKr.out.lt)
    have HKa1 := hide (HKa.out.below hb1 HKa.out.lt)
    clear hb1
    cases q1
    · go_wp2
      go_ret
      exact ⟨by simp, HB1.out⟩
    · obtain ⟨r0, r1, r2, r3, r4, r5, r6, r7, r8, r9, r10, r11, r12, r13, r14, r15⟩ := blk16 HKr1.out
      go_wp2_with fail
      refine (H2.out _).mono ?_
      rintro e w2 ⟨rfl, hb2⟩
      have HB2 := hide (HB1.out.trans (hb2.mono HB1.out.size))
      have HKr2 := hide (HKr1.out.below hb2 HKr1.out.lt)
      have HKa2 := hide (HKa1.out.below hb2 HKa1.out.lt)
      clear hb2 r0 r1 r2 r3 r4 r5 r6 r7 r8 r9 r10 r11 r12 r13 r14 r15
      cases q2
      · go_wp2
        go_ret
        exact ⟨by simp, HB2.out⟩
      · have r6 := HKr2.out.cell 6
        have a4 := HKa2.out.cell 4
        go_wp2
        go_ret
        exact ⟨by simp, HB2.out⟩
  · go_wp2
    go_ret
    exact ⟨by simp, by have h := HB0.out; rw [← HW0.out] at h; exact h⟩
end Go.Proofs.YtplhnhoijficgaaGreat
set_option linter.unusedSimpArgs false
set_option linter.unusedVariables false
namespace Go.Proofs.YtplhnhoijficgaaGreat
open Go.RowKit Go.WideShapes Go.ChangeShapes
attribute [local go_sem] Oper.semAt_some
/-- A route, its attributes wherever they lie. -/
structure RT where
  pa : Int
  pl : Int
  at_ : AT
  A : Option Addr
  n : Nat
  c : Nat
  B : Option Addr
  m : Nat
  d : Nat
  rp : Int
  ra : Int
  ri : Int
  inn : Bool
  loc : Bool
abbrev rtV (r : RT) : Array Value := rtC r.pa r.pl r.at_.has r.at_.org r.A r.n r.c r.at_.hop r.at_.med r.at_.pref r.at_.aas r.at_.aid r.B r.m r.d r.rp r.ra r.ri r.inn r.loc
def wireA (cas : Nat) (cid pas : Int) (loc : Bool) (rh rmd : Int) (x : AT) : AT :=
  let n := normA x
  let t := loc || !(pas == (cas : Int))
  let q1 := if t then setB (nmH x.has) 3 else nmH x.has
  let h1 := if t then cid else n.hop
  if pas == (cas : Int) then normA ⟨(setB q1 5 : Nat), n.org, n.path, h1, n.med, if attB (q1 : Int) 5 then n.pref else 100, n.aas, n.aid, n.comms⟩
  else
    let q2 := clrB (setB q1 2) 5
    normA ⟨((if !loc && attB (q2 : Int) 4 && attB rh 4 && (n.med == rmd) then clrB q2 4 else q2 : Nat) : Int), n.org, normS (⟨2, [cas]⟩ :: n.path), h1, n.med, n.pref, n.aas, n.aid, n.comms⟩
/-- export.wire under way: the boxes of what it is handed, and the result's. -/
structure WS (w : World) (x : CF) (y : PE) (r : RT) (cells : Array Value) (wc : World) : Prop where
  bel : Below w.heap.size w wc
  kc : Blk wc w.heap.size 35 (cfC x)
  kp : Blk wc (w.heap.size + 1) 48 (peC y)
  kr : Blk wc (w.heap.size + 1 + 1) 42 (rtV r)
  ka : Blk wc (w.heap.size + 1 + 1 + 1) 40 cells
  kz : Blk wc (w.heap.size + 1 + 1 + 1 + 1) 40 zeroC
theorem WS.call {w wc w2 : World} {x : CF} {y : PE} {r : RT} {cells : Array Value} (h : WS w x y r cells wc) (hb : Below wc.heap.size wc w2) : WS w x y r cells w2 :=
  ⟨h.bel.trans (hb.mono h.bel.size), h.kc.below hb h.kc.lt, h.kp.below hb h.kp.lt, h.kr.below hb h.kr.lt, h.ka.below hb h.ka.lt, h.kz.below hb h.kz.lt⟩
theorem WS.set_ {w wc : World} {x : CF} {y : PE} {r : RT} {cells : Array Value} (h : WS w x y r cells wc) (i : Nat) (v : Value) : WS w x y r (cells.setIfInBounds i v) (wc.setCell ⟨w.heap.size + 1 + 1 + 1, i, none⟩ v) :=
  ⟨h.bel.setCell (by show w.heap.size ≤ w.heap.size + 1 + 1 + 1; omega) v, h.kc.far (by show w.heap.size ≠ w.heap.size + 1 + 1 + 1; omega) v, h.kp.far (by show w.heap.size + 1 ≠ w.heap.size + 1 + 1 + 1; omega) v, h.kr.far (by show w.heap.size + 1 + 1 ≠ w.heap.size + 1 + 1 + 1; omega) v, h.ka.set_ i v, h.kz.far (by show w.heap.size + 1 + 1 + 1 + 1 ≠ w.heap.size + 1 + 1 + 1; omega) v⟩
theorem blk_sets_far {g H : Nat} {t : TypeId} {cs : Array Value} (hne : g ≠ H) : ∀ (vs : List Value) (i : Nat) {w : World}, Blk w g t cs → Blk (w.setCells H i vs) g t cs
  | [], _, _, h => h
  | v :: vs, i, _, h => blk_sets_far hne vs (i + 1) (h.far (p := ⟨H, i, none⟩) hne v)
theorem WS.sets {w wc : World} {x : CF} {y : PE} {r : RT} {u0 u1 u2 u3 u4 u5 u6 u7 u8 v0 v1 v2 v3 v4 v5 v6 v7 v8 : Value} (h : WS w x y r #[u0, u1, u2, u3, u4, u5, u6, u7, u8] wc) :
    WS w x y r #[v0, v1, v2, v3, v4, v5, v6, v7, v8] (wc.setCells (w.heap.size + 1 + 1 + 1) 0 [v0, v1, v2, v3, v4, v5, v6, v7, v8]) :=
  ⟨below_sets _ 0 h.bel (by omega), blk_sets_far (by omega) _ 0 h.kc, blk_sets_far (by omega) _ 0 h.kp, blk_sets_far (by omega) _ 0 h.kr, blk9_set h.ka, blk_sets_far (by omega) _ 0 h.kz⟩
theorem WS.start (w : World) (x : CF) (y : PE) (r : RT) (cells : Array Value) : WS w x y r cells (((((w.alloc (.cells (cfC x) 35)).alloc (.cells (peC y) 48)).alloc (.cells (rtV r) 42)).alloc (.cells cells 40)).alloc (.cells zeroC 40)) :=
  ⟨((((((Below.refl _ w).alloc (Nat.le_refl _) _).alloc (by simp) _).alloc (by simp; omega) _).alloc (by simp; omega) _).alloc (by simp; omega) _), ((((Blk.new w _ _).alloc _).alloc _).alloc _).alloc _, (((blk_new' _ _ (by simp)).alloc _).alloc _).alloc _, ((blk_new' _ _ (by simp)).alloc _).alloc _, (blk_new' _ _ (by simp)).alloc _, blk_new' _ _ (by simp)⟩
/-- What lies behind attributes at these addresses, from b on. -/
def PU (b : Nat) (w : World) (A : Option Addr) (n c : Nat) (B : Option Addr) (m d : Nat) (P : List SG) (C : List Nat) : Prop := (∃ xs, LOw 2 59 sgR w b b A n c P xs) ∧ FrB b none (fun w => U32s w B m d C) w
section
variable {b H : Nat} {w w' : World} {A : Option Addr} {n c : Nat} {B : Option Addr} {m d : Nat} {P : List SG} {C : List Nat}
theorem PU.below (h : PU b w A n c B m d P C) (hb : Below w.heap.size w w') : PU b w' A n c B m d P C := by
  obtain ⟨⟨xs, h1⟩, h2⟩ := h
  exact ⟨⟨xs, h1.below hb⟩, h2.below hb⟩
theorem PU.set_ {i : Nat} (h : PU b w A n c B m d P C) (hH : H < b) (v : Value) : PU b (w.setCell ⟨H, i, none⟩ v) A n c B m d P C := by
  obtain ⟨⟨xs, h1⟩, h2⟩ := h
  exact ⟨⟨xs, h1.set hH hH v⟩, h2.set (p := ⟨H, i, none⟩) hH v⟩
theorem PU.less {b' : Nat} (h : PU b w A n c B m d P C) (hl : b' ≤ b) : PU b' w A n c B m d P C := by
  obtain ⟨⟨xs, h1⟩, h2⟩ := h
  exact ⟨⟨xs, h1.less hl hl⟩, h2.less hl⟩
theorem PU.lst (h : PU b w A n c B m d P C) : LstAt 2 sgR w A n c P := by obtain ⟨⟨xs, h1⟩, h2⟩ := h; exact h1.lst (by decide)
theorem PU.u32 (h : PU b w A n c B m d P C) : U32s w B m d C := h.2.here
end
theorem PU.sets {b H : Nat} {A : Option Addr} {n c : Nat} {B : Option Addr} {m d : Nat} {P : List SG} {C : List Nat} : ∀ (vs : List Value) (i : Nat) {w : World}, PU b w A n c B m d P C → H < b → PU b (w.setCells H i vs) A n c B m d P C
  | [], _, _, h, _ => h
  | v :: vs, i, _, h, h1 => PU.sets vs (i + 1) (h.set_ h1 v) h1
set_option maxRecDepth 100000 in
set_option maxHeartbeats 16000000 in
theorem exWire_any (cas : Nat) (hcas : cas < 4294967296) (x : CF) (hx : x.asn = (cas : Int)) (y : PE) (r : RT) (X : AT) (v : Value) (w : World) (hv : AtR w X v) (hn : numS X.path ≤ 8000) (hm : X.comms.length ≤ 10000) :
    Calls Tryz.prog 22 #[.agg (cfC x), .agg (peC y), .agg (rtV r), v] w (AtP (wireA cas x.id y.asn r.loc r.at_.has r.at_.med X) w) := by
  obtain ⟨A, n, c, B, m, d, rfl, hP, hC⟩ := hv
  obtain ⟨w0, hw0⟩ : ∃ w0, ((((w.alloc (.cells (cfC x) 35)).alloc (.cells (peC y) 48)).alloc (.cells (rtV r) 42)).alloc (.cells (atC X.has X.org A n c X.hop X.med X.pref X.aas X.aid B m d) 40)).alloc (.cells zeroC 40) = w0 := ⟨_, rfl⟩
  have HS : Hid (WS w x y r (atC X.has X.org A n c X.hop X.med X.pref X.aas X.aid B m d) w0) := hide (hw0 ▸ WS.start w x y r _)
  have HNm := hide (attrNormX_any X (atV X.has X.org A n c X.hop X.med X.pref X.aas X.aid B m d) w0 ⟨A, n, c, B, m, d, rfl, hP.below sgMono HS.out.bel, hC.below HS.out.bel⟩ (by omega) hm)
  have HNum : Hid (numS (normA X).path ≤ 8000) := hide (by
    show numS (if attB X.has 2 then normS X.path else []) ≤ 8000
    split
    · have := numS_norm X.path; omega
    · simp [numS])
  have HNl : Hid ((normA X).path.length ≤ 10000) := hide (by
    show (if attB X.has 2 then normS X.path else []).length ≤ 10000
    split
    · have := normS_len X.path; omega
    · simp)
  have HCl : Hid ((normA X).comms.length ≤ 10000) := hide (by
    show (if attB X.has 8 then setOf X.comms else []).length ≤ 10000
    split
    · have := setOf_len X.comms; omega
    · simp)
  obtain ⟨q, hq⟩ : ∃ q, nmH X.has = q := ⟨_, rfl⟩
  have Hq8 : Hid (Own8 q) := hide (hq ▸ own8_nm X.has)
  obtain ⟨XN, hXN⟩ : ∃ Y, normA X = Y := ⟨_, rfl⟩
  have hXh : XN.has = (q : Int) := by rw [← hXN, ← hq]; rfl
  have HRes : Hid (wireA cas x.id y.asn r.loc r.at_.has r.at_.med X = if (y.asn == x.asn) = true then normA ⟨(setB (if (r.loc || !(y.asn == x.asn)) = true then setB q 3 else q) 5 : Nat), XN.org, XN.path, if (r.loc || !(y.asn == x.asn)) = true then x.id else XN.hop, XN.med, if attB ((if (r.loc || !(y.asn == x.asn)) = true then setB q 3 else q : Nat) : Int) 5 = true then XN.pref else 100, XN.aas, XN.aid, XN.comms⟩ else
    normA ⟨((if (!r.loc && attB ((clrB (setB (if (r.loc || !(y.asn == x.asn)) = true then setB q 3 else q) 2) 5 : Nat) : Int) 4 && attB r.at_.has 4 && (XN.med == r.at_.med)) = true then clrB (clrB (setB (if (r.loc || !(y.asn == x.asn)) = true then setB q 3 else q) 2) 5) 4 else clrB (setB (if (r.loc || !(y.asn == x.asn)) = true then setB q 3 else q) 2) 5 : Nat) : Int), XN.org, normS (⟨2, [cas]⟩ :: XN.path), if (r.loc || !(y.asn == x.asn)) = true then x.id else XN.hop, XN.med, XN.pref, XN.aas, XN.aid, XN.comms⟩) := hide (by rw [hx, ← hXN, ← hq]; rfl)
  obtain ⟨RES, hRES⟩ : ∃ R, wireA cas x.id y.asn r.loc r.at_.has r.at_.med X = R := ⟨_, rfl⟩
  rw [hRES] at HRes ⊢
  rw [hXN] at HNm HNum HNl HCl
  have HW0 := hide hw0
  obtain ⟨hh, o1, P, H0, M, F, AA, AI, C⟩ := XN
  simp only at hXh HNum HNl HCl HRes
  subst hXh
  obtain ⟨ib, hib⟩ : ∃ ib, (y.asn == x.asn) = ib := ⟨_, rfl⟩
  have HIn := hide (fun W => exInner_any x y W)
  rw [hib] at HIn HRes
  have Hcas := hide hcas
  have Hx := hide hx
  clear hw0 hP hC hn hm hq hXN hib hcas hx hRES
  go_enter Tryz.func22, Tryz.ntmps22
  go_wp2_with fail
  rw [HW0.out]
  refine HNm.out.mono ?_
  rintro e w1 ⟨v1, rfl, ho, hb⟩
  obtain ⟨A1, n1, c1, xs1, B1, m1, d1, rfl, hl, hu⟩ := ho
  have hs : (w.heap.size + 1 + 1 + 1 + 1 + 1) ≤ w0.heap.size := HS.out.kz.lt
  have HPU : Hid (PU (w.heap.size + 1 + 1 + 1 + 1 + 1) w1 A1 n1 c1 B1 m1 d1 P C) := hide ⟨⟨xs1, hl.less hs hs⟩, hu.less hs⟩
  have HS := hide (HS.out.call hb)
  clear hl hu hb hs
  obtain ⟨a0, a1, a2, a3, a4, a5, a6, a7, a8⟩ := blk9 HS.out.ka
  have af := fun i => HS.out.ka.frozen i
  go_upto_region 2 with fail
  change Code.wp _ _ _ _ (w1.setCells (w.heap.size + 1 + 1 + 1) 0 [.int .i64 q, .int .i64 o1, .slice A1 n1 c1, .int .u32 H0, .int .u32 M, .int .u32 F, .int .u32 AA, .int .u32 AI, .slice B1 m1 d1])
  obtain ⟨w2, hw2⟩ : ∃ W, w1.setCells (w.heap.size + 1 + 1 + 1) 0 [.int .i64 q, .int .i64 o1, .slice A1 n1 c1, .int .u32 H0, .int .u32 M, .int .u32 F, .int .u32 AA, .int .u32 AI, .slice B1 m1 d1] = W := ⟨_, rfl⟩
  have HS2 : Hid (WS w x y r (atC q o1 A1 n1 c1 H0 M F AA AI B1 m1 d1) w2) := hide (hw2 ▸ WS.sets HS.out)
  have HPU2 : Hid (PU (w.heap.size + 1 + 1 + 1 + 1 + 1) w2 A1 n1 c1 B1 m1 d1 P C) := hide (hw2 ▸ PU.sets _ 0 HPU.out (by omega))
  rw [hw2]
  clear hw2 a0 a1 a2 a3 a4 a5 a6 a7 a8 af HS HPU
  obtain ⟨t, ht⟩ : ∃ t, (r.loc || !ib) = t := ⟨_, rfl⟩
  rw [ht] at HRes
  have HT := hide ht
  go_cut [18] (fun s18 wc => s18 = .bool t ∧ WS w x y r (atC q o1 A1 n1 c1 H0 M F AA AI B1 m1 d1) wc ∧ PU (w.heap.size + 1 + 1 + 1 + 1 + 1) wc A1 n1 c1 B1 m1 d1 P C)
  case first =>
    have r15 : w2.cell? ⟨w.heap.size + 1 + 1, 15, none⟩ = some (.bool r.loc) := HS2.out.kr.cell 15
    obtain ⟨lc, hlc⟩ : ∃ b, r.loc = b := ⟨_, rfl⟩
    rw [hlc] at r15 ht
    clear hlc
    cases lc
    · obtain ⟨c0, c1_, c2, c3, c4, c5, c6, c7, c8, c9, c10, c11⟩ := blk12 HS2.out.kc
      obtain ⟨p0, p1, p2, p3, p4, p5, p6, p7, p8, p9, p10, p11⟩ := blk12 HS2.out.kp
      go_wp2_with fail
      refine (HIn.out w2).mono ?_
      rintro e w3 ⟨rfl, hb⟩
      have HS3 := hide (HS2.out.call hb)
      have HPU3 := hide (HPU2.out.below hb)
      clear hb c0 c1_ c2 c3 c4 c5 c6 c7 c8 c9 c10 c11 p0 p1 p2 p3 p4 p5 p6 p7 p8 p9 p10 p11
      go_wp2
      go_meet
      exact ⟨by rw [← ht]; try simp, HS3.out, HPU3.out⟩
    · go_wp2
      go_meet
      exact ⟨by rw [← ht]; try simp, HS2.out, HPU2.out⟩
  case rest =>
    obtain ⟨rfl, hs, hpu⟩ := hcut
    have HS := hide hs
    have HPU := hide hpu
    clear hs hpu HS2 HPU2 ht
    obtain ⟨q1, hq1⟩ : ∃ v, (if t = true then setB q 3 else q) = v := ⟨_, rfl⟩
    obtain ⟨h1, hh1⟩ : ∃ v, (if t = true then x.id else H0) = v := ⟨_, rfl⟩
    rw [hq1, hh1] at HRes
    have HQ1 := hide hq1
    have HH1 := hide hh1
    have HO1 : Hid (Own8 q1) := hide (by rw [← hq1]; split; exact own8_set Hq8.out ⟨by decide, by decide⟩; exact Hq8.out)
    clear hq1 hh1
    go_upto_if 18 with fail
    go_cut [] (fun wc => WS w x y r (atC q1 o1 A1 n1 c1 h1 M F AA AI B1 m1 d1) wc ∧ PU (w.heap.size + 1 + 1 + 1 + 1 + 1) wc A1 n1 c1 B1 m1 d1 P C)
    case first =>
      have hlt : w.heap.size + 1 + 1 + 1 < (w.heap.size + 1 + 1 + 1 + 1 + 1) := by omega
      cases t
      · have e1 := HQ1.out
        have e2 := HH1.out
        simp only [Bool.false_eq_true, if_false] at e1 e2
        subst e1 e2
        clear HQ1 HH1
        go_wp2
        go_meet
        exact ⟨HS.out, HPU.out⟩
      · have e1 := HQ1.out
        have e2 := HH1.out
        simp only [if_true] at e1 e2
        have c1_ : wc.cell? ⟨w.heap.size, 1, none⟩ = some (.int .u32 x.id) := HS.out.kc.cell 1
        obtain ⟨a0, a1, a2, a3, a4, a5, a6, a7, a8⟩ := blk9 HS.out.ka
        have af := fun i => HS.out.ka.frozen i
        have HS4 := hide (HS.out.set_ 3 (.int .u32 x.id))
        have HPU4 := hide (HPU.out.set_ (i := 3) hlt (.int .u32 x.id))
        have HW := hide (fun W => exWith_any 3 (by omega) q Hq8.out.1 o1 A1 n1 c1 x.id M F AA AI B1 m1 d1 W)
        have HE1 := hide e1
        have HE2 := hide e2
        clear e1 e2 hlt
        go_wp2_with fail
        refine (HW.out _).mono ?_
        rintro e w5 ⟨rfl, hb⟩
        have HS5 := hide (HS4.out.call hb)
        have HPU5 := hide (HPU4.out.below hb)
        clear hb a0 a1 a2 a3 a4 a5 a6 a7 a8 af c1_
        rw [HE1.out]
        obtain ⟨a0, a1, a2, a3, a4, a5, a6, a7, a8⟩ := blk9 HS5.out.ka
        have af := fun i => HS5.out.ka.frozen i
        go_wp2
        go_meet
        rw [← HE2.out]
        have hg1 : WS w x y r (atC q1 o1 A1 n1 c1 x.id M F AA AI B1 m1 d1) (w5.setCells (w.heap.size + 1 + 1 + 1) 0 [.int .i64 q1, .int .i64 o1, .slice A1 n1 c1, .int .u32 x.id, .int .u32 M, .int .u32 F, .int .u32 AA, .int .u32 AI, .slice B1 m1 d1]) := WS.sets HS5.out
        have hg2 : PU (w.heap.size + 1 + 1 + 1 + 1 + 1) (w5.setCells (w.heap.size + 1 + 1 + 1) 0 [.int .i64 q1, .int .i64 o1, .slice A1 n1 c1, .int .u32 x.id, .int .u32 M, .int .u32 F, .int .u32 AA, .int .u32 AI, .slice B1 m1 d1]) A1 n1 c1 B1 m1 d1 P C := PU.sets _ 0 HPU5.out (by omega)
        exact ⟨hg1, hg2⟩
    case rest =>
      obtain ⟨hs, hpu⟩ := hcut
      clear HS HPU
      have HS := hide hs
      have HPU := hide hpu
      clear hs hpu HQ1 HH1
      obtain ⟨w6, hw6⟩ : ∃ W, W = wc := ⟨_, rfl⟩
      subst hw6
      obtain ⟨c0, c1_, c2, c3, c4, c5, c6, c7, c8, c9, c10, c11⟩ := blk12 HS.out.kc
      obtain ⟨p0, p1, p2, p3, p4, p5, p6, p7, p8, p9, p10, p11⟩ := blk12 HS.out.kp
      go_wp2_with fail
      refine (HIn.out w6).mono ?_
      rintro e w7 ⟨rfl, hb⟩
      have HS := hide (HS.out.call hb)
      have HPU := hide (HPU.out.below hb)
      clear hb c0 c1_ c2 c3 c4 c5 c6 c7 c8 c9 c10 c11 p0 p1 p2 p3 p4 p5 p6 p7 p8 p9 p10 p11
      cases ib
      · obtain ⟨q2, hq2⟩ : ∃ v, clrB (setB q1 2) 5 = v := ⟨_, rfl⟩
        have hr := HRes.out.trans (if_neg (by decide))
        rw [hq2] at hr
        have HO2 : Hid (Own8 q2) := hide (by rw [← hq2]; exact own8_clr (own8_set HO1.out ⟨by decide, by decide⟩) ⟨by decide, by decide⟩)
        have HQ2 := hide hq2
        obtain ⟨kp, hkp⟩ : ∃ v, (!r.loc && attB (q2 : Int) 4 && attB r.at_.has 4 && (M == r.at_.med)) = v := ⟨_, rfl⟩
        rw [hkp] at hr
        have HKp := hide hkp
        obtain ⟨q3, hq3⟩ : ∃ v, (if kp = true then clrB q2 4 else q2) = v := ⟨_, rfl⟩
        rw [hq3] at hr
        have HQ3 := hide hq3
        have HO3 : Hid (Own8 q3) := hide (by rw [← hq3]; split; exact own8_clr HO2.out ⟨by decide, by decide⟩; exact HO2.out)
        obtain ⟨PN, hPN⟩ : ∃ v, normS (⟨2, [cas]⟩ :: P) = v := ⟨_, rfl⟩
        rw [hPN] at hr
        have HPN : Hid (normS (⟨2, List.replicate (timesN 1) cas⟩ :: P) = PN) := hide hPN
        have HPs : Hid (numS PN ≤ 10000) := hide (by have h1 := numS_norm (⟨2, [cas]⟩ :: P); rw [hPN, numS_cons] at h1; simp only [List.length_cons, List.length_nil] at h1; have := HNum.out; omega)
        have HRes := hide hr
        have hn1 : n1 ≤ 10000 := by rw [← HPU.out.lst.1]; exact HNl.out
        have HPr := hide (prepend_any A1 n1 c1 cas 1 P w7 HPU.out.lst Hcas.out (by have := HNum.out; omega) hn1)
        clear hq2 hkp hq3 hPN hr hn1
        have c0 : w7.cell? ⟨w.heap.size, 0, none⟩ = some (.int .u32 (cas : Int)) := by rw [← Hx.out]; exact HS.out.kc.cell 0
        have a2 := HS.out.ka.cell 2
        go_wp2_with fail
        refine HPr.out.mono ?_
        intro e w8 hmv
        unfold SegP at hmv
        obtain ⟨A2, n2, c2, xs2, rfl, hl, hb⟩ := hmv
        rw [HPN.out] at hl
        have hs : (w.heap.size + 1 + 1 + 1 + 1 + 1) ≤ w7.heap.size := HS.out.kz.lt
        have HPU : Hid (PU (w.heap.size + 1 + 1 + 1 + 1 + 1) w8 A2 n2 c2 B1 m1 d1 PN C) := hide ⟨⟨xs2, hl.less hs hs⟩, HPU.out.2.below hb⟩
        have HS := hide (HS.out.call hb)
        clear hl hb hs c0 a2
        have HSn := hide (HS.out.set_ 2 (.slice A2 n2 c2))
        have HPUn := hide (HPU.out.set_ (i := 2) (H := w.heap.size + 1 + 1 + 1) (by omega) (.slice A2 n2 c2))
        obtain ⟨a0, a1, a2, a3, a4, a5, a6, a7, a8⟩ := blk9 HS.out.ka
        have af := fun i => HS.out.ka.frozen i
        have HWi := hide (fun W => exWith_any 2 (by omega) q1 HO1.out.1 o1 A2 n2 c2 h1 M F AA AI B1 m1 d1 W)
        have HWo := hide (fun W => exWithout_any 5 (by omega) (setB q1 2) (setB_lt HO1.out.1 ⟨by decide, by decide⟩) o1 A2 n2 c2 h1 M F AA AI B1 m1 d1 W)
        rw [HQ2.out] at HWo
        go_wp2_with fail
        refine (HWi.out _).mono ?_
        rintro e w9 ⟨rfl, hb⟩
        have HS9 := hide (HSn.out.call hb)
        have HPU9 := hide (HPUn.out.below hb)
        clear hb a0 a1 a2 a3 a4 a5 a6 a7 a8 af HWi
        go_wp2_with fail
        refine (HWo.out _).mono ?_
        rintro e w10 ⟨rfl, hb⟩
        have HS10 := hide (HS9.out.call hb)
        have HPU10 := hide (HPU9.out.below hb)
        clear hb HWo
        obtain ⟨a0, a1, a2, a3, a4, a5, a6, a7, a8⟩ := blk9 HS10.out.ka
        have af := fun i => HS10.out.ka.frozen i
        go_upto_region 11 with fail
        change Code.wp _ _ _ _ (w10.setCells (w.heap.size + 1 + 1 + 1) 0 [.int .i64 q2, .int .i64 o1, .slice A2 n2 c2, .int .u32 h1, .int .u32 M, .int .u32 F, .int .u32 AA, .int .u32 AI, .slice B1 m1 d1])
        obtain ⟨w11, hw11⟩ : ∃ W, w10.setCells (w.heap.size + 1 + 1 + 1) 0 [.int .i64 q2, .int .i64 o1, .slice A2 n2 c2, .int .u32 h1, .int .u32 M, .int .u32 F, .int .u32 AA, .int .u32 AI, .slice B1 m1 d1] = W := ⟨_, rfl⟩
        have HS11 : Hid (WS w x y r (atC q2 o1 A2 n2 c2 h1 M F AA AI B1 m1 d1) w11) := hide (hw11 ▸ WS.sets HS10.out)
        have HPU11 : Hid (PU (w.heap.size + 1 + 1 + 1 + 1 + 1) w11 A2 n2 c2 B1 m1 d1 PN C) := hide (hw11 ▸ PU.sets _ 0 HPU10.out (by omega))
        rw [hw11]
        clear hw11 a0 a1 a2 a3 a4 a5 a6 a7 a8 af HS HPU HSn HPUn HS9 HPU9 HS10 HPU10
        have HKe := hide (exKept_any r.pa r.pl r.at_.has r.at_.org r.A r.n r.c r.at_.hop r.at_.med r.at_.pref r.at_.aas r.at_.aid r.B r.m r.d r.rp r.ra r.ri r.inn r.loc q2 o1 A2 n2 c2 h1 M F AA AI B1 m1 d1 w11)
        rw [HKp.out] at HKe
        obtain ⟨a0, a1, a2, a3, a4, a5, a6, a7, a8⟩ := blk9 HS11.out.ka
        obtain ⟨r0, r1, r2, r3, r4, r5, r6, r7, r8, r9, r10, r11, r12, r13, r14, r15⟩ := blk16 HS11.out.kr
        go_wp2_with fail
        refine HKe.out.mono ?_
        rintro e w12 ⟨rfl, hb⟩
        have HS := hide (HS11.out.call hb)
        have HPU := hide (HPU11.out.below hb)
        clear hb a0 a1 a2 a3 a4 a5 a6 a7 a8 r0 r1 r2 r3 r4 r5 r6 r7 r8 r9 r10 r11 r12 r13 r14 r15 HS11 HPU11 HKe HKp
        go_upto_if 45 with fail
        go_cut [] (fun wc => WS w x y r (atC q3 o1 A2 n2 c2 h1 M F AA AI B1 m1 d1) wc ∧ PU (w.heap.size + 1 + 1 + 1 + 1 + 1) wc A2 n2 c2 B1 m1 d1 PN C)
        case first =>
          have hf := HQ3.out
          cases kp
          · simp only [Bool.false_eq_true, if_false] at hf
            subst hf
            clear HQ3
            go_wp2
            go_meet
            exact ⟨HS.out, HPU.out⟩
          · simp only [if_true] at hf
            subst hf
            clear HQ3
            have HWp := hide (exWithout_any 4 (by omega) q2 HO2.out.1 o1 A2 n2 c2 h1 M F AA AI B1 m1 d1 w12)
            obtain ⟨a0, a1, a2, a3, a4, a5, a6, a7, a8⟩ := blk9 HS.out.ka
            go_wp2_with fail
            refine HWp.out.mono ?_
            rintro e w13 ⟨rfl, hb⟩
            have HS13 := hide (HS.out.call hb)
            have HPU13 := hide (HPU.out.below hb)
            clear hb a0 a1 a2 a3 a4 a5 a6 a7 a8
            obtain ⟨a0, a1, a2, a3, a4, a5, a6, a7, a8⟩ := blk9 HS13.out.ka
            have af := fun i => HS13.out.ka.frozen i
            go_wp2
            go_meet
            have hg1 : WS w x y r (atC (clrB q2 4 : Nat) o1 A2 n2 c2 h1 M F AA AI B1 m1 d1) (w13.setCells (w.heap.size + 1 + 1 + 1) 0 [.int .i64 (clrB q2 4 : Nat), .int .i64 o1, .slice A2 n2 c2, .int .u32 h1, .int .u32 M, .int .u32 F, .int .u32 AA, .int .u32 AI, .slice B1 m1 d1]) := WS.sets HS13.out
            have hg2 : PU (w.heap.size + 1 + 1 + 1 + 1 + 1) (w13.setCells (w.heap.size + 1 + 1 + 1) 0 [.int .i64 (clrB q2 4 : Nat), .int .i64 o1, .slice A2 n2 c2, .int .u32 h1, .int .u32 M, .int .u32 F, .int .u32 AA, .int .u32 AI, .slice B1 m1 d1]) A2 n2 c2 B1 m1 d1 PN C := PU.sets _ 0 HPU13.out (by omega)
            exact ⟨hg1, hg2⟩
        case rest =>
          obtain ⟨hs, hpu⟩ := hcut
          clear HS HPU
          have HS := hide hs
          have HPU := hide hpu
          clear hs hpu HQ3
          obtain ⟨w13, hw13⟩ : ∃ W, W = wc := ⟨_, rfl⟩
          subst hw13
          obtain ⟨a0, a1, a2, a3, a4, a5, a6, a7, a8⟩ := blk9 HS.out.ka
          have HNm2 := hide (attrNormX_any ⟨(q3 : Nat), o1, PN, h1, M, F, AA, AI, C⟩ (atV q3 o1 A2 n2 c2 h1 M F AA AI B1 m1 d1) w13 ⟨A2, n2, c2, B1, m1, d1, rfl, HPU.out.lst, HPU.out.u32⟩ HPs.out HCl.out)
          rw [← HRes.out] at HNm2
          have HSL : Hid (w.heap.size + 1 + 1 + 1 + 1 < w13.heap.size) := hide HS.out.kz.lt
          go_wp2_with fail
          refine HNm2.out.mono ?_
          clear a0 a1 a2 a3 a4 a5 a6 a7 a8
          rintro e w14 ⟨v, rfl, ho, hb⟩
          obtain ⟨A3, n3, c3, xs3, B3, m3, d3, rfl, hl, hu⟩ := ho
          have HS := hide (HS.out.call hb)
          have hlt : w.heap.size + 1 + 1 + 1 + 1 < w13.heap.size := Nat.lt_of_lt_of_le HSL.out (Nat.le_refl _)
          have HO := hide (show AtO w13.heap.size w14 RES (atV RES.has RES.org A3 n3 c3 RES.hop RES.med RES.pref RES.aas RES.aid B3 m3 d3) from ⟨A3, n3, c3, xs3, B3, m3, d3, rfl, hl, hu⟩)
          clear hl hu hb
          obtain ⟨z0, z1, z2, z3, z4, z5, z6, z7, z8⟩ := blk9 HS.out.kz
          have zf := fun i => HS.out.kz.frozen i
          go_wp2
          change bodyPost _ _ _ _ _ (w14.setCells (w.heap.size + 1 + 1 + 1 + 1) 0 [.int .i64 RES.has, .int .i64 RES.org, .slice A3 n3 c3, .int .u32 RES.hop, .int .u32 RES.med, .int .u32 RES.pref, .int .u32 RES.aas, .int .u32 RES.aid, .slice B3 m3 d3])
          obtain ⟨wF, hwF⟩ : ∃ x, w14.setCells (w.heap.size + 1 + 1 + 1 + 1) 0 [.int .i64 RES.has, .int .i64 RES.org, .slice A3 n3 c3, .int .u32 RES.hop, .int .u32 RES.med, .int .u32 RES.pref, .int .u32 RES.aas, .int .u32 RES.aid, .slice B3 m3 d3] = x := ⟨_, rfl⟩
          have HFk := hide (hwF ▸ blk9_set HS.out.kz : Blk wF (w.heap.size + 1 + 1 + 1 + 1) 40 (atC RES.has RES.org A3 n3 c3 RES.hop RES.med RES.pref RES.aas RES.aid B3 m3 d3))
          have HFo := hide (hwF ▸ AtO.sets _ 0 HO.out hlt : AtO w13.heap.size wF RES (atV RES.has RES.org A3 n3 c3 RES.hop RES.med RES.pref RES.aas RES.aid B3 m3 d3))
          have HFb := hide (hwF ▸ below_sets _ 0 HS.out.bel (by omega) : Below w.heap.size w wF)
          rw [hwF]
          clear hwF z0 z1 z2 z3 z4 z5 z6 z7 z8 zf
          obtain ⟨z0, z1, z2, z3, z4, z5, z6, z7, z8⟩ := blk9 HFk.out
          exact bodyPost_ret (v := atV RES.has RES.org A3 n3 c3 RES.hop RES.med RES.pref RES.aas RES.aid B3 m3 d3) (by simp [results, Tryz.results22, go_sem, z0, z1, z2, z3, z4, z5, z6, z7, z8]) rfl ⟨_, rfl, HFo.out.less (b' := w.heap.size) (by omega), HFb.out⟩
      · have hr := HRes.out
        rw [if_pos (show ((true : Bool) = true) from rfl)] at hr
        obtain ⟨F1, hF1⟩ : ∃ v, (if attB (q1 : Int) 5 = true then F else 100) = v := ⟨_, rfl⟩
        rw [hF1] at hr
        have HF1 := hide hF1
        have HResI := hide hr
        clear HRes
        obtain ⟨g, hg⟩ : ∃ g, attB (q1 : Int) 5 = g := ⟨_, rfl⟩
        have HHs := hide (fun W => exHas_any 5 ⟨by decide, by decide⟩ q1 o1 A1 n1 c1 h1 M F AA AI B1 m1 d1 W)
        rw [hg] at HHs HF1
        clear hr hF1 hg
        obtain ⟨a0, a1, a2, a3, a4, a5, a6, a7, a8⟩ := blk9 HS.out.ka
        go_wp2_with fail
        refine (HHs.out w7).mono ?_
        rintro e w8 ⟨rfl, hb⟩
        have HS := hide (HS.out.call hb)
        have HPU := hide (HPU.out.below hb)
        clear hb a0 a1 a2 a3 a4 a5 a6 a7 a8
        go_upto_if 29 with fail
        go_cut [] (fun wc => WS w x y r (atC q1 o1 A1 n1 c1 h1 M F1 AA AI B1 m1 d1) wc ∧ PU (w.heap.size + 1 + 1 + 1 + 1 + 1) wc A1 n1 c1 B1 m1 d1 P C)
        case first =>
          have hf := HF1.out
          cases g
          · simp only [Bool.false_eq_true, if_false] at hf
            subst hf
            clear HF1
            have a5 := HS.out.ka.cell 5
            have af := fun i => HS.out.ka.frozen i
            go_wp2
            go_meet
            exact ⟨HS.out.set_ 5 _, HPU.out.set_ (by omega) _⟩
          · simp only [if_true] at hf
            subst hf
            clear HF1
            go_wp2
            go_meet
            exact ⟨HS.out, HPU.out⟩
        case rest =>
          obtain ⟨hs, hpu⟩ := hcut
          clear HS HPU
          have HS := hide hs
          have HPU := hide hpu
          clear hs hpu HF1
          obtain ⟨w9, hw9⟩ : ∃ W, W = wc := ⟨_, rfl⟩
          subst hw9
          obtain ⟨a0, a1, a2, a3, a4, a5, a6, a7, a8⟩ := blk9 HS.out.ka
          have HW := hide (exWith_any 5 (by omega) q1 HO1.out.1 o1 A1 n1 c1 h1 M F1 AA AI B1 m1 d1 w9)
          go_wp2_with fail
          refine HW.out.mono ?_
          rintro e w10 ⟨rfl, hb⟩
          have HS := hide (HS.out.call hb)
          have HPU := hide (HPU.out.below hb)
          have HNm2 := hide (attrNormX_any ⟨(setB q1 5 : Nat), o1, P, h1, M, F1, AA, AI, C⟩ (atV (setB q1 5 : Nat) o1 A1 n1 c1 h1 M F1 AA AI B1 m1 d1) w10 ⟨A1, n1, c1, B1, m1, d1, rfl, HPU.out.lst, HPU.out.u32⟩ (by have := HNum.out; simp only; omega) HCl.out)
          rw [← HResI.out] at HNm2
          have HSL : Hid (w.heap.size + 1 + 1 + 1 + 1 < w10.heap.size) := hide HS.out.kz.lt
          clear hb a0 a1 a2 a3 a4 a5 a6 a7 a8 HW
          go_wp2_with fail
          refine HNm2.out.mono ?_
          rintro e w11 ⟨v, rfl, ho, hb⟩
          obtain ⟨A2, n2, c2, xs2, B2, m2, d2, rfl, hl, hu⟩ := ho
          have HS := hide (HS.out.call hb)
          have hlt : w.heap.size + 1 + 1 + 1 + 1 < w10.heap.size := Nat.lt_of_lt_of_le HSL.out (Nat.le_refl _)
          have HO := hide (show AtO w10.heap.size w11 RES (atV RES.has RES.org A2 n2 c2 RES.hop RES.med RES.pref RES.aas RES.aid B2 m2 d2) from ⟨A2, n2, c2, xs2, B2, m2, d2, rfl, hl, hu⟩)
          clear hl hu hb
          obtain ⟨z0, z1, z2, z3, z4, z5, z6, z7, z8⟩ := blk9 HS.out.kz
          have zf := fun i => HS.out.kz.frozen i
          go_wp2
          change bodyPost _ _ _ _ _ (w11.setCells (w.heap.size + 1 + 1 + 1 + 1) 0 [.int .i64 RES.has, .int .i64 RES.org, .slice A2 n2 c2, .int .u32 RES.hop, .int .u32 RES.med, .int .u32 RES.pref, .int .u32 RES.aas, .int .u32 RES.aid, .slice B2 m2 d2])
          obtain ⟨wF, hwF⟩ : ∃ x, w11.setCells (w.heap.size + 1 + 1 + 1 + 1) 0 [.int .i64 RES.has, .int .i64 RES.org, .slice A2 n2 c2, .int .u32 RES.hop, .int .u32 RES.med, .int .u32 RES.pref, .int .u32 RES.aas, .int .u32 RES.aid, .slice B2 m2 d2] = x := ⟨_, rfl⟩
          have HFk := hide (hwF ▸ blk9_set HS.out.kz : Blk wF (w.heap.size + 1 + 1 + 1 + 1) 40 (atC RES.has RES.org A2 n2 c2 RES.hop RES.med RES.pref RES.aas RES.aid B2 m2 d2))
          have HFo := hide (hwF ▸ AtO.sets _ 0 HO.out hlt : AtO w10.heap.size wF RES (atV RES.has RES.org A2 n2 c2 RES.hop RES.med RES.pref RES.aas RES.aid B2 m2 d2))
          have HFb := hide (hwF ▸ below_sets _ 0 HS.out.bel (by omega) : Below w.heap.size w wF)
          rw [hwF]
          clear hwF z0 z1 z2 z3 z4 z5 z6 z7 z8 zf
          obtain ⟨z0, z1, z2, z3, z4, z5, z6, z7, z8⟩ := blk9 HFk.out
          exact bodyPost_ret (v := atV RES.has RES.org A2 n2 c2 RES.hop RES.med RES.pref RES.aas RES.aid B2 m2 d2) (by simp [results, Tryz.results22, go_sem, z0, z1, z2, z3, z4, z5, z6, z7, z8]) rfl ⟨_, rfl, HFo.out.less (b' := w.heap.size) (by omega), HFb.out⟩
end Go.Proofs.YtplhnhoijficgaaGreat
set_option linter.unusedSimpArgs false
set_option linter.unusedVariables false
namespace Go.Proofs.YtplhnhoijficgaaGreat
open Go.RowKit Go.WideShapes Go.ChangeShapes
attribute [local go_sem] Oper.semAt_some
set_option maxRecDepth 100000 in
set_option maxHeartbeats 8000000 in
theorem psame_eq (A B : Option Addr) (n c m d : Nat) (l : List SG) (w : World) (h : LstAt 2 sgR w A n c l) (h' : LstAt 2 sgR w B m d l) (hn2 : n ≤ 100000) :
    Calls Tryz.prog 20 #[.slice A n c, .slice B m d] w (fun e w' => e = .returned (.bool true) ∧ Below w.heap.size w w') := by
  obtain rfl : n = m := h.1.symm.trans h'.1
  have hnc := h.2.1
  have hmx := h.2.2.1
  have hnd := h'.2.1
  have hmx2 := h'.2.2.1
  unfold maxLen at hmx hmx2
  have HL1 := hide h
  have HL2 := hide h'
  clear h h'
  go_enter Tryz.func20, Tryz.ntmps20
  go_wp2
  go_loopw [5] (fun iv wr => ∃ i : Nat, i ≤ n ∧ iv = .int .i64 (i : Nat) ∧ Below w.heap.size w wr) (fun iv _ => n - (intOf iv).toNat)
  case atStart => exact ⟨0, Nat.zero_le _, rfl, Below.refl _ _⟩
  case round =>
    obtain ⟨i, hi, rfl, hbel⟩ := hrel
    have HBe := hide hbel
    by_cases hlt : i < n
    · obtain ⟨g, o, b, B1, m1, d1, r, rfl, hg, hx, hr1, hz0, hz1⟩ := SGat (HL1.out.below sgMono hbel) hlt
      obtain ⟨g2, o2, b2, B2, m2, d2, r2, rfl, hg2, hx2, hr2, hy0, hy1⟩ := SGat (HL2.out.below sgMono hbel) hlt
      rw [hx] at hx2
      simp only [Option.some.injEq, SG.mk.injEq] at hx2
      obtain ⟨rfl, rfl⟩ := hx2
      have HZ0 := hide hz0
      have HZ1 := hide hz1
      have HY0 := hide hy0
      have HY1 := hide hy1
      have HR1 := hide hr1
      have HR2 := hide hr2
      have i1 : (i : Int) < (n : Int) := by omega
      have i0 : (0 : Int) ≤ (i : Int) := by omega
      have hwi : IntKind.i64.wrap ((i : Int) + 1) = (i : Int) + 1 := by rw [IntKind.wrap_i64]; omega
      clear hbel hx hr1 hr2 hz0 hz1 hy0 hy1
      go_wp2
      have Hmn := hide (show AllMono [(fun v _ => v = .slice (some ⟨g, o, none⟩) n c), (fun v _ => v = .int .i64 (i : Int)), (fun v _ => v = .pointer (some ⟨g, o + i * 2, none⟩)), (fun v _ => v = .pointer (some ⟨g, o + i * 2, none⟩)), (fun v _ => v = .int .i64 b), (fun v _ => v = .slice (some ⟨g2, o2, none⟩) n d), (fun v _ => v = .int .i64 (i : Int)), (fun v _ => v = .pointer (some ⟨g2, o2 + i * 2, none⟩)), (fun v _ => v = .pointer (some ⟨g2, o2 + i * 2, none⟩)), (fun v _ => v = .int .i64 b), (fun v _ => v = .bool false), (fun v _ => v = .bool false), (fun v _ => v = .slice (some ⟨g, o, none⟩) n c), (fun v _ => v = .int .i64 (i : Int)), (fun v _ => v = .pointer (some ⟨g, o + i * 2, none⟩)), (fun v _ => v = .pointer (some ⟨g, o + i * 2 + 1, none⟩)), (fun v _ => v = .slice B1 m1 d1), (fun v _ => v = .slice (some ⟨g2, o2, none⟩) n d), (fun v _ => v = .int .i64 (i : Int)), (fun v _ => v = .pointer (some ⟨g2, o2 + i * 2, none⟩)), (fun v _ => v = .pointer (some ⟨g2, o2 + i * 2 + 1, none⟩)), (fun v _ => v = .slice B2 m2 d2), (fun v _ => v = .bool true), (fun v _ => v = .bool false), (fun v _ => v = .bool false)] from ⟨fun _ _ _ _ h => h, fun _ _ _ _ h => h, fun _ _ _ _ h => h, fun _ _ _ _ h => h, fun _ _ _ _ h => h, fun _ _ _ _ h => h, fun _ _ _ _ h => h, fun _ _ _ _ h => h, fun _ _ _ _ h => h, fun _ _ _ _ h => h, fun _ _ _ _ h => h, fun _ _ _ _ h => h, fun _ _ _ _ h => h, fun _ _ _ _ h => h, fun _ _ _ _ h => h, fun _ _ _ _ h => h, fun _ _ _ _ h => h, fun _ _ _ _ h => h, fun _ _ _ _ h => h, fun _ _ _ _ h => h, fun _ _ _ _ h => h, fun _ _ _ _ h => h, fun _ _ _ _ h => h, fun _ _ _ _ h => h, fun _ _ _ _ h => h, trivial⟩)
      refine wp_region_rel _ (by kernel_rfl) (by kernel_rfl) (relMono _ Hmn.out) ⟨?_, ?_, ?_, ?_, ?_, ?_, ?_, ?_, ?_, ?_, ?_, ?_, ?_, ?_, ?_, ?_, ?_, ?_, ?_, ?_, ?_, ?_, ?_, ?_, ?_, trivial⟩ ?_
      · refine relStep_plain rfl ?_
        intro Ac w5 hp
        have hb := hp.bel
        have a0 : Ac.eval (.tmp 0) = .slice (some ⟨g, o, none⟩) n c := hp.out 0 (by rfl)
        have hc := evalC Ac; have hf := evalF Ac; have hgl := evalG Ac
        obtain ⟨ρ, hρ⟩ : ∃ ρ, Ac.eval = ρ := ⟨_, rfl⟩
        rw [hρ] at a0 hc hf hgl
        exact relPure hρ (.slice (some ⟨g, o, none⟩) n c) (by simp [go_sem, hc, hf, hgl, ↓IntWalk.iteOmega, a0, *]) rfl
      · refine relStep_plain rfl ?_
        intro Ac w5 hp
        have hb := hp.bel
        have a5 : Ac.eval (.tmp 5) = .int .i64 (i : Int) := hp.out 5 (by rfl)
        have hc := evalC Ac; have hf := evalF Ac; have hgl := evalG Ac
        obtain ⟨ρ, hρ⟩ : ∃ ρ, Ac.eval = ρ := ⟨_, rfl⟩
        rw [hρ] at a5 hc hf hgl
        exact relPure hρ (.int .i64 (i : Int)) (by simp [go_sem, hc, hf, hgl, ↓IntWalk.iteOmega, a5, *]) rfl
      · refine relStep_plain rfl ?_
        intro Ac w5 hp
        have hb := hp.bel
        have a17 : Ac.eval (.tmp 17) = .slice (some ⟨g, o, none⟩) n c := hp.dep 0 (by kernel_rfl)
        have a18 : Ac.eval (.tmp 18) = .int .i64 (i : Int) := hp.dep 1 (by kernel_rfl)
        have hc := evalC Ac; have hf := evalF Ac; have hgl := evalG Ac
        obtain ⟨ρ, hρ⟩ : ∃ ρ, Ac.eval = ρ := ⟨_, rfl⟩
        rw [hρ] at a17 a18 hc hf hgl
        exact relPure hρ (.pointer (some ⟨g, o + i * 2, none⟩)) (by simp [go_sem, hc, hf, hgl, ↓IntWalk.iteOmega, a17, a18, *]) rfl
      · refine relStep_plain rfl ?_
        intro Ac w5 hp
        have hb := hp.bel
        have a19 : Ac.eval (.tmp 19) = .pointer (some ⟨g, o + i * 2, none⟩) := hp.dep 2 (by kernel_rfl)
        have hc := evalC Ac; have hf := evalF Ac; have hgl := evalG Ac
        obtain ⟨ρ, hρ⟩ : ∃ ρ, Ac.eval = ρ := ⟨_, rfl⟩
        rw [hρ] at a19 hc hf hgl
        exact relPure hρ (.pointer (some ⟨g, o + i * 2, none⟩)) (by simp [go_sem, hc, hf, hgl, ↓IntWalk.iteOmega, a19, *]) rfl
      · refine relStep_plain rfl ?_
        intro Ac w5 hp
        have hb := hp.bel
        have a20 : Ac.eval (.tmp 20) = .pointer (some ⟨g, o + i * 2, none⟩) := hp.dep 3 (by kernel_rfl)
        have z0 : w5.cell? ⟨g, o + i * 2, none⟩ = some (.int .i64 b) := (hb.cell hg).trans HZ0.out
        have z1 : w5.cell? ⟨g, o + i * 2 + 1, none⟩ = some (.slice B1 m1 d1) := (hb.cell hg).trans HZ1.out
        have hc := evalC Ac; have hf := evalF Ac; have hgl := evalG Ac
        obtain ⟨ρ, hρ⟩ : ∃ ρ, Ac.eval = ρ := ⟨_, rfl⟩
        rw [hρ] at a20 hc hf hgl
        exact relPure hρ (.int .i64 b) (by simp [go_sem, hc, hf, hgl, ↓IntWalk.iteOmega, a20, *]) rfl
      · refine relStep_plain rfl ?_
        intro Ac w5 hp
        have hb := hp.bel
        have a1 : Ac.eval (.tmp 1) = .slice (some ⟨g2, o2, none⟩) n d := hp.out 1 (by rfl)
        have hc := evalC Ac; have hf := evalF Ac; have hgl := evalG Ac
        obtain ⟨ρ, hρ⟩ : ∃ ρ, Ac.eval = ρ := ⟨_, rfl⟩
        rw [hρ] at a1 hc hf hgl
        exact relPure hρ (.slice (some ⟨g2, o2, none⟩) n d) (by simp [go_sem, hc, hf, hgl, ↓IntWalk.iteOmega, a1, *]) rfl
      · refine relStep_plain rfl ?_
        intro Ac w5 hp
        have hb := hp.bel
        have a5 : Ac.eval (.tmp 5) = .int .i64 (i : Int) := hp.out 5 (by rfl)
        have hc := evalC Ac; have hf := evalF Ac; have hgl := evalG Ac
        obtain ⟨ρ, hρ⟩ : ∃ ρ, Ac.eval = ρ := ⟨_, rfl⟩
        rw [hρ] at a5 hc hf hgl
        exact relPure hρ (.int .i64 (i : Int)) (by simp [go_sem, hc, hf, hgl, ↓IntWalk.iteOmega, a5, *]) rfl
      · refine relStep_plain rfl ?_
        intro Ac w5 hp
        have hb := hp.bel
        have a22 : Ac.eval (.tmp 22) = .slice (some ⟨g2, o2, none⟩) n d := hp.dep 5 (by kernel_rfl)
        have a23 : Ac.eval (.tmp 23) = .int .i64 (i : Int) := hp.dep 6 (by kernel_rfl)
        have hc := evalC Ac; have hf := evalF Ac; have hgl := evalG Ac
        obtain ⟨ρ, hρ⟩ : ∃ ρ, Ac.eval = ρ := ⟨_, rfl⟩
        rw [hρ] at a22 a23 hc hf hgl
        exact relPure hρ (.pointer (some ⟨g2, o2 + i * 2, none⟩)) (by simp [go_sem, hc, hf, hgl, ↓IntWalk.iteOmega, a22, a23, *]) rfl
      · refine relStep_plain rfl ?_
        intro Ac w5 hp
        have hb := hp.bel
        have a24 : Ac.eval (.tmp 24) = .pointer (some ⟨g2, o2 + i * 2, none⟩) := hp.dep 7 (by kernel_rfl)
        have hc := evalC Ac; have hf := evalF Ac; have hgl := evalG Ac
        obtain ⟨ρ, hρ⟩ : ∃ ρ, Ac.eval = ρ := ⟨_, rfl⟩
        rw [hρ] at a24 hc hf hgl
        exact relPure hρ (.pointer (some ⟨g2, o2 + i * 2, none⟩)) (by simp [go_sem, hc, hf, hgl, ↓IntWalk.iteOmega, a24, *]) rfl
      · refine relStep_plain rfl ?_
        intro Ac w5 hp
        have hb := hp.bel
        have a25 : Ac.eval (.tmp 25) = .pointer (some ⟨g2, o2 + i * 2, none⟩) := hp.dep 8 (by kernel_rfl)
        have y0 : w5.cell? ⟨g2, o2 + i * 2, none⟩ = some (.int .i64 b) := (hb.cell hg2).trans HY0.out
        have y1 : w5.cell? ⟨g2, o2 + i * 2 + 1, none⟩ = some (.slice B2 m2 d2) := (hb.cell hg2).trans HY1.out
        have hc := evalC Ac; have hf := evalF Ac; have hgl := evalG Ac
        obtain ⟨ρ, hρ⟩ : ∃ ρ, Ac.eval = ρ := ⟨_, rfl⟩
        rw [hρ] at a25 hc hf hgl
        exact relPure hρ (.int .i64 b) (by simp [go_sem, hc, hf, hgl, ↓IntWalk.iteOmega, a25, *]) rfl
      · refine relStep_plain rfl ?_
        intro Ac w5 hp
        have hb := hp.bel
        have a21 : Ac.eval (.tmp 21) = .int .i64 b := hp.dep 4 (by kernel_rfl)
        have a26 : Ac.eval (.tmp 26) = .int .i64 b := hp.dep 9 (by kernel_rfl)
        have hc := evalC Ac; have hf := evalF Ac; have hgl := evalG Ac
        obtain ⟨ρ, hρ⟩ : ∃ ρ, Ac.eval = ρ := ⟨_, rfl⟩
        rw [hρ] at a21 a26 hc hf hgl
        exact relPure hρ (.bool false) (by simp [go_sem, hc, hf, hgl, ↓IntWalk.iteOmega, a21, a26, *]) rfl
      · refine relStep_plain rfl ?_
        intro Ac w5 hp
        have hb := hp.bel
        have a27 : Ac.eval (.tmp 27) = .bool false := hp.dep 10 (by kernel_rfl)
        have hc := evalC Ac; have hf := evalF Ac; have hgl := evalG Ac
        obtain ⟨ρ, hρ⟩ : ∃ ρ, Ac.eval = ρ := ⟨_, rfl⟩
        rw [hρ] at a27 hc hf hgl
        exact relPure hρ (.bool false) (by simp [go_sem, hc, hf, hgl, ↓IntWalk.iteOmega, a27, *]) rfl
      · refine relStep_guard (g := 11) (b := false) (x := false) rfl (by kernel_rfl) rfl (by kernel_rfl) rfl (fun _ _ h => h) ?_
        intro Ac w5 hp
        have hb := hp.bel
        have a0 : Ac.eval (.tmp 0) = .slice (some ⟨g, o, none⟩) n c := hp.out 0 (by rfl)
        have hc := evalC Ac; have hf := evalF Ac; have hgl := evalG Ac
        obtain ⟨ρ, hρ⟩ : ∃ ρ, Ac.eval = ρ := ⟨_, rfl⟩
        rw [hρ] at a0 hc hf hgl
        exact relPure hρ (.slice (some ⟨g, o, none⟩) n c) (by simp [go_sem, hc, hf, hgl, ↓IntWalk.iteOmega, a0, *]) rfl
      · refine relStep_guard (g := 11) (b := false) (x := false) rfl (by kernel_rfl) rfl (by kernel_rfl) rfl (fun _ _ h => h) ?_
        intro Ac w5 hp
        have hb := hp.bel
        have a5 : Ac.eval (.tmp 5) = .int .i64 (i : Int) := hp.out 5 (by rfl)
        have hc := evalC Ac; have hf := evalF Ac; have hgl := evalG Ac
        obtain ⟨ρ, hρ⟩ : ∃ ρ, Ac.eval = ρ := ⟨_, rfl⟩
        rw [hρ] at a5 hc hf hgl
        exact relPure hρ (.int .i64 (i : Int)) (by simp [go_sem, hc, hf, hgl, ↓IntWalk.iteOmega, a5, *]) rfl
      · refine relStep_guard (g := 11) (b := false) (x := false) rfl (by kernel_rfl) rfl (by kernel_rfl) rfl (fun _ _ h => h) ?_
        intro Ac w5 hp
        have hb := hp.bel
        have a29 : Ac.eval (.tmp 29) = .slice (some ⟨g, o, none⟩) n c := hp.dep 12 (by kernel_rfl)
        have a30 : Ac.eval (.tmp 30) = .int .i64 (i : Int) := hp.dep 13 (by kernel_rfl)
        have hc := evalC Ac; have hf := evalF Ac; have hgl := evalG Ac
        obtain ⟨ρ, hρ⟩ : ∃ ρ, Ac.eval = ρ := ⟨_, rfl⟩
        rw [hρ] at a29 a30 hc hf hgl
        exact relPure hρ (.pointer (some ⟨g, o + i * 2, none⟩)) (by simp [go_sem, hc, hf, hgl, ↓IntWalk.iteOmega, a29, a30, *]) rfl
      · refine relStep_guard (g := 11) (b := false) (x := false) rfl (by kernel_rfl) rfl (by kernel_rfl) rfl (fun _ _ h => h) ?_
        intro Ac w5 hp
        have hb := hp.bel
        have a31 : Ac.eval (.tmp 31) = .pointer (some ⟨g, o + i * 2, none⟩) := hp.dep 14 (by kernel_rfl)
        have hc := evalC Ac; have hf := evalF Ac; have hgl := evalG Ac
        obtain ⟨ρ, hρ⟩ : ∃ ρ, Ac.eval = ρ := ⟨_, rfl⟩
        rw [hρ] at a31 hc hf hgl
        exact relPure hρ (.pointer (some ⟨g, o + i * 2 + 1, none⟩)) (by simp [go_sem, hc, hf, hgl, ↓IntWalk.iteOmega, a31, *]) rfl
      · refine relStep_guard (g := 11) (b := false) (x := false) rfl (by kernel_rfl) rfl (by kernel_rfl) rfl (fun _ _ h => h) ?_
        intro Ac w5 hp
        have hb := hp.bel
        have a32 : Ac.eval (.tmp 32) = .pointer (some ⟨g, o + i * 2 + 1, none⟩) := hp.dep 15 (by kernel_rfl)
        have z0 : w5.cell? ⟨g, o + i * 2, none⟩ = some (.int .i64 b) := (hb.cell hg).trans HZ0.out
        have z1 : w5.cell? ⟨g, o + i * 2 + 1, none⟩ = some (.slice B1 m1 d1) := (hb.cell hg).trans HZ1.out
        have hc := evalC Ac; have hf := evalF Ac; have hgl := evalG Ac
        obtain ⟨ρ, hρ⟩ : ∃ ρ, Ac.eval = ρ := ⟨_, rfl⟩
        rw [hρ] at a32 hc hf hgl
        exact relPure hρ (.slice B1 m1 d1) (by simp [go_sem, hc, hf, hgl, ↓IntWalk.iteOmega, a32, *]) rfl
      · refine relStep_guard (g := 11) (b := false) (x := false) rfl (by kernel_rfl) rfl (by kernel_rfl) rfl (fun _ _ h => h) ?_
        intro Ac w5 hp
        have hb := hp.bel
        have a1 : Ac.eval (.tmp 1) = .slice (some ⟨g2, o2, none⟩) n d := hp.out 1 (by rfl)
        have hc := evalC Ac; have hf := evalF Ac; have hgl := evalG Ac
        obtain ⟨ρ, hρ⟩ : ∃ ρ, Ac.eval = ρ := ⟨_, rfl⟩
        rw [hρ] at a1 hc hf hgl
        exact relPure hρ (.slice (some ⟨g2, o2, none⟩) n d) (by simp [go_sem, hc, hf, hgl, ↓IntWalk.iteOmega, a1, *]) rfl
      · refine relStep_guard (g := 11) (b := false) (x := false) rfl (by kernel_rfl) rfl (by kernel_rfl) rfl (fun _ _ h => h) ?_
        intro Ac w5 hp
        have hb := hp.bel
        have a5 : Ac.eval (.tmp 5) = .int .i64 (i : Int) := hp.out 5 (by rfl)
        have hc := evalC Ac; have hf := evalF Ac; have hgl := evalG Ac
        obtain ⟨ρ, hρ⟩ : ∃ ρ, Ac.eval = ρ := ⟨_, rfl⟩
        rw [hρ] at a5 hc hf hgl
        exact relPure hρ (.int .i64 (i : Int)) (by simp [go_sem, hc, hf, hgl, ↓IntWalk.iteOmega, a5, *]) rfl
      · refine relStep_guard (g := 11) (b := false) (x := false) rfl (by kernel_rfl) rfl (by kernel_rfl) rfl (fun _ _ h => h) ?_
        intro Ac w5 hp
        have hb := hp.bel
        have a34 : Ac.eval (.tmp 34) = .slice (some ⟨g2, o2, none⟩) n d := hp.dep 17 (by kernel_rfl)
        have a35 : Ac.eval (.tmp 35) = .int .i64 (i : Int) := hp.dep 18 (by kernel_rfl)
        have hc := evalC Ac; have hf := evalF Ac; have hgl := evalG Ac
        obtain ⟨ρ, hρ⟩ : ∃ ρ, Ac.eval = ρ := ⟨_, rfl⟩
        rw [hρ] at a34 a35 hc hf hgl
        exact relPure hρ (.pointer (some ⟨g2, o2 + i * 2, none⟩)) (by simp [go_sem, hc, hf, hgl, ↓IntWalk.iteOmega, a34, a35, *]) rfl
      · refine relStep_guard (g := 11) (b := false) (x := false) rfl (by kernel_rfl) rfl (by kernel_rfl) rfl (fun _ _ h => h) ?_
        intro Ac w5 hp
        have hb := hp.bel
        have a36 : Ac.eval (.tmp 36) = .pointer (some ⟨g2, o2 + i * 2, none⟩) := hp.dep 19 (by kernel_rfl)
        have hc := evalC Ac; have hf := evalF Ac; have hgl := evalG Ac
        obtain ⟨ρ, hρ⟩ : ∃ ρ, Ac.eval = ρ := ⟨_, rfl⟩
        rw [hρ] at a36 hc hf hgl
        exact relPure hρ (.pointer (some ⟨g2, o2 + i * 2 + 1, none⟩)) (by simp [go_sem, hc, hf, hgl, ↓IntWalk.iteOmega, a36, *]) rfl
      · refine relStep_guard (g := 11) (b := false) (x := false) rfl (by kernel_rfl) rfl (by kernel_rfl) rfl (fun _ _ h => h) ?_
        intro Ac w5 hp
        have hb := hp.bel
        have a37 : Ac.eval (.tmp 37) = .pointer (some ⟨g2, o2 + i * 2 + 1, none⟩) := hp.dep 20 (by kernel_rfl)
        have y0 : w5.cell? ⟨g2, o2 + i * 2, none⟩ = some (.int .i64 b) := (hb.cell hg2).trans HY0.out
        have y1 : w5.cell? ⟨g2, o2 + i * 2 + 1, none⟩ = some (.slice B2 m2 d2) := (hb.cell hg2).trans HY1.out
        have hc := evalC Ac; have hf := evalF Ac; have hgl := evalG Ac
        obtain ⟨ρ, hρ⟩ : ∃ ρ, Ac.eval = ρ := ⟨_, rfl⟩
        rw [hρ] at a37 hc hf hgl
        exact relPure hρ (.slice B2 m2 d2) (by simp [go_sem, hc, hf, hgl, ↓IntWalk.iteOmega, a37, *]) rfl
      · refine relStep_guard (g := 11) (b := false) (x := false) rfl (by kernel_rfl) rfl (by kernel_rfl) rfl (fun _ _ h => h) ?_
        intro Ac w5 hp
        have hb := hp.bel
        have a33 : Ac.eval (.tmp 33) = .slice B1 m1 d1 := hp.dep 16 (by kernel_rfl)
        have a38 : Ac.eval (.tmp 38) = .slice B2 m2 d2 := hp.dep 21 (by kernel_rfl)
        have hc := evalC Ac; have hf := evalF Ac; have hgl := evalG Ac
        obtain ⟨ρ, hρ⟩ : ∃ ρ, Ac.eval = ρ := ⟨_, rfl⟩
        rw [hρ] at a33 a38 hc hf hgl
        refine relCall hρ 21 #[.slice B1 m1 d1, .slice B2 m2 d2] (by simp [go_sem, hc, hf, hgl, ↓IntWalk.iteOmega, a33, a38, *]) ?_
        refine (refSame_any B1 m1 d1 r B2 m2 d2 r w5 (HR1.out.below hb) (HR2.out.below hb)).mono ?_
        rintro e w6 ⟨rfl, hb6⟩
        exact ⟨_, rfl, by rw [decide_eq_true rfl]; rfl, hb6⟩
      · refine relStep_guard (g := 11) (b := false) (x := false) rfl (by kernel_rfl) rfl (by kernel_rfl) rfl (fun _ _ h => h) ?_
        intro Ac w5 hp
        have hb := hp.bel
        have a39 : Ac.eval (.tmp 39) = .bool true := hp.dep 22 (by kernel_rfl)
        have hc := evalC Ac; have hf := evalF Ac; have hgl := evalG Ac
        obtain ⟨ρ, hρ⟩ : ∃ ρ, Ac.eval = ρ := ⟨_, rfl⟩
        rw [hρ] at a39 hc hf hgl
        exact relPure hρ (.bool false) (by simp [go_sem, hc, hf, hgl, ↓IntWalk.iteOmega, a39, *]) rfl
      · refine relStep_plain rfl ?_
        intro Ac w5 hp
        have hb := hp.bel
        have a28 : Ac.eval (.tmp 28) = .bool false := hp.dep 11 (by kernel_rfl)
        have a40 : Ac.eval (.tmp 40) = .bool false := hp.dep 23 (by kernel_rfl)
        have hc := evalC Ac; have hf := evalF Ac; have hgl := evalG Ac
        obtain ⟨ρ, hρ⟩ : ∃ ρ, Ac.eval = ρ := ⟨_, rfl⟩
        rw [hρ] at a28 a40 hc hf hgl
        exact relPure hρ (.bool false) (by simp [go_sem, hc, hf, hgl, ↓IntWalk.iteOmega, a28, a40, *]) rfl
      intro u w8 hb7 hall
      have e41 : u 24 = .bool false := relAll_at hall (i := 24) (by decide +kernel)
      clear hall
      simp only [List.drop_succ_cons, List.drop_zero, List.take_succ_cons, List.take_zero, putAll, Act.put, List.setIfInBounds_toArray, List.set_cons_zero, List.set_cons_succ, Nat.zero_add, Nat.reduceAdd, e41]
      have HB8 := hide (HBe.out.trans (hb7.mono HBe.out.size))
      clear hb7
      go_wp2
      go_roundw
      case rel => exact ⟨i + 1, by omega, by go_num, HB8.out⟩
      case measure => simp [intOf]; omega
    · obtain rfl : i = n := by omega
      have e1 : decide ((i : Int) < (i : Int)) = false := by simp
      clear hbel hlt
      go_wp2
      go_ret
      exact ⟨rfl, HBe.out⟩
end Go.Proofs.YtplhnhoijficgaaGreat
set_option linter.unusedSimpArgs false
set_option linter.unusedVariables false
namespace Go.Proofs.YtplhnhoijficgaaGreat
open Go.RowKit Go.WideShapes Go.ChangeShapes
attribute [local go_sem] Oper.semAt_some
theorem exec_store {P : Program} {ρ : Operand → Value} {o : Oper} {t : TypeId} {a v : Operand} (ho : o.op = .store t a v) {x y : Value} (ha : ρ a = x) (hv : ρ v = y) {w w' : World} (h : (Instr.storeAt t x y).run P w = .ok () w') : (execOp ρ o).run P w = .ok .skip w' := by
  unfold execOp
  rw [ho]
  simp only [ha, hv, Sem.run_bind, h, Result.andThen_ok]
  rfl
end Go.Proofs.YtplhnhoijficgaaGreat
set_option linter.unusedSimpArgs false
set_option linter.unusedVariables false
namespace Go.Proofs.YtplhnhoijficgaaGreat
open Go.RowKit Go.WideShapes Go.ChangeShapes
attribute [local go_sem] Oper.semAt_some
abbrev bxC (X : AT) (x2 x8 : Value) : Array Value := #[.int .i64 X.has, .int .i64 X.org, x2, .int .u32 X.hop, .int .u32 X.med, .int .u32 X.pref, .int .u32 X.aas, .int .u32 X.aid, x8]
def SlA (b : Nat) (P : List SG) (v : Value) (W : World) : Prop := ∃ A n c xs, v = .slice A n c ∧ LOw 2 59 sgR W b b A n c P xs
def SlB (b : Nat) (C : List Nat) (v : Value) (W : World) : Prop := ∃ B m d, v = .slice B m d ∧ FrB b none (fun w => U32s w B m d C) W
def BxA (H : Nat) (X : AT) (W : World) : Prop := ∃ x2 x8, Blk W H 40 (bxC X x2 x8) ∧ Blk W (H + 1) 40 zeroC
def StA (H b : Nat) (X : AT) (P : List SG) (W : World) : Prop := ∃ x2 x8, Blk W H 40 (bxC X x2 x8) ∧ Blk W (H + 1) 40 zeroC ∧ SlA b P x2 W
def StB (H b : Nat) (X : AT) (C : List Nat) (W : World) : Prop := ∃ x2 x8, Blk W H 40 (bxC X x2 x8) ∧ Blk W (H + 1) 40 zeroC ∧ SlB b C x8 W
section
variable {H b i : Nat} {X : AT} {P : List SG} {C : List Nat} {v u : Value} {W W' : World}
theorem SlA.below (h : SlA b P v W) (hb : Below W.heap.size W W') : SlA b P v W' := by
  obtain ⟨A, n, c, xs, e, hl⟩ := h
  exact ⟨A, n, c, xs, e, hl.below hb⟩
theorem SlB.below (h : SlB b C v W) (hb : Below W.heap.size W W') : SlB b C v W' := by
  obtain ⟨A, n, c, e, hl⟩ := h
  exact ⟨A, n, c, e, hl.below hb⟩
theorem SlA.setv (h : SlA b P v W) (hH : H < b) : SlA b P v (W.setCell ⟨H, i, none⟩ u) := by
  obtain ⟨A, n, c, xs, e, hl⟩ := h
  exact ⟨A, n, c, xs, e, hl.set hH hH u⟩
theorem SlB.setv (h : SlB b C v W) (hH : H < b) : SlB b C v (W.setCell ⟨H, i, none⟩ u) := by
  obtain ⟨A, n, c, e, hl⟩ := h
  exact ⟨A, n, c, e, hl.set (p := ⟨H, i, none⟩) hH u⟩
theorem BxA.lt_ (h : BxA H X W) : H < W.heap.size := by
  obtain ⟨x2, x8, h, _⟩ := h
  exact h.lt
theorem blk_up {t : TypeId} {cs : Array Value} (h : Blk W (H + 1) t cs) : Blk (W.setCell ⟨H, i, none⟩ u) (H + 1) t cs := h.far (p := ⟨H, i, none⟩) (by show H + 1 ≠ H; omega) u
theorem BxA.below (h : BxA H X W) (hb : Below W.heap.size W W') : BxA H X W' := by
  obtain ⟨x2, x8, h, hz⟩ := h
  exact ⟨x2, x8, h.below hb h.lt, hz.below hb hz.lt⟩
theorem BxA.set2 (h : BxA H X W) (u : Value) : BxA H X (W.setCell ⟨H, 2, none⟩ u) := by
  obtain ⟨x2, x8, h, hz⟩ := h
  exact ⟨u, x8, h.set_ 2 u, blk_up hz⟩
theorem BxA.set8 (h : BxA H X W) (u : Value) : BxA H X (W.setCell ⟨H, 8, none⟩ u) := by
  obtain ⟨x2, x8, h, hz⟩ := h
  exact ⟨x2, u, h.set_ 8 u, blk_up hz⟩
theorem StA.below (h : StA H b X P W) (hb : Below W.heap.size W W') : StA H b X P W' := by
  obtain ⟨x2, x8, h, hz, hs⟩ := h
  exact ⟨x2, x8, h.below hb h.lt, hz.below hb hz.lt, hs.below hb⟩
theorem StB.below (h : StB H b X C W) (hb : Below W.heap.size W W') : StB H b X C W' := by
  obtain ⟨x2, x8, h, hz, hs⟩ := h
  exact ⟨x2, x8, h.below hb h.lt, hz.below hb hz.lt, hs.below hb⟩
theorem StA.set8 (h : StA H b X P W) (hH : H < b) : StA H b X P (W.setCell ⟨H, 8, none⟩ u) := by
  obtain ⟨x2, x8, h, hz, hs⟩ := h
  exact ⟨x2, u, h.set_ 8 u, blk_up hz, hs.setv hH⟩
theorem StB.set2 (h : StB H b X C W) (hH : H < b) : StB H b X C (W.setCell ⟨H, 2, none⟩ u) := by
  obtain ⟨x2, x8, h, hz, hs⟩ := h
  exact ⟨u, x8, h.set_ 2 u, blk_up hz, hs.setv hH⟩
theorem st_both (h : StA H b X P W) (h' : StB H b X C W) : ∃ A n c xs B m d, Blk W H 40 (bxC X (.slice A n c) (.slice B m d)) ∧ Blk W (H + 1) 40 zeroC ∧ LOw 2 59 sgR W b b A n c P xs ∧ FrB b none (fun w => U32s w B m d C) W := by
  obtain ⟨x2, x8, h1, hz, A, n, c, xs, rfl, hl⟩ := h
  obtain ⟨y2, y8, h2, _, B, m, d, rfl, hu⟩ := h'
  have e := (h1.cell 8).symm.trans (h2.cell 8)
  simp only [List.getElem?_toArray, List.getElem?_cons_succ, List.getElem?_cons_zero, Option.some.injEq] at e
  subst e
  exact ⟨A, n, c, xs, B, m, d, h1, hz, hl, hu⟩
theorem cell_set_ne {j : Nat} (hne : i ≠ j) : (W.setCell ⟨H, i, none⟩ u).cell? ⟨H, j, none⟩ = W.cell? ⟨H, j, none⟩ := by
  refine World.cell?_setCell_other _ _ _ _ ?_
  intro e
  cases e
  exact hne rfl
/-- One cell of a box stored. -/
theorem st1A {tc : TypeId} {f n c : Nat} {A : Option Addr} {cs : Array Value} (h : Blk W H tc cs) (hf : cs[f]?.isSome = true) :
    (Instr.storeAt 37 (.pointer (some ⟨H, f, none⟩)) (.slice A n c)).run Tryz.prog W = .ok () (W.setCell ⟨H, f, none⟩ (.slice A n c)) := by
  have hc := h.cell f
  have hz := h.frozen f
  obtain ⟨x, hx⟩ := Option.isSome_iff_exists.1 hf
  rw [hx] at hc
  simp [go_sem, hc, hz]
theorem st1B {tc : TypeId} {f n c : Nat} {A : Option Addr} {cs : Array Value} (h : Blk W H tc cs) (hf : cs[f]?.isSome = true) :
    (Instr.storeAt 38 (.pointer (some ⟨H, f, none⟩)) (.slice A n c)).run Tryz.prog W = .ok () (W.setCell ⟨H, f, none⟩ (.slice A n c)) := by
  have hc := h.cell f
  have hz := h.frozen f
  obtain ⟨x, hx⟩ := Option.isSome_iff_exists.1 hf
  rw [hx] at hc
  simp [go_sem, hc, hz]
end
end Go.Proofs.YtplhnhoijficgaaGreat
set_option linter.unusedSimpArgs false
set_option linter.unusedVariables false
namespace Go.Proofs.YtplhnhoijficgaaGreat
open Go.RowKit Go.WideShapes Go.ChangeShapes
attribute [local go_sem] Oper.semAt_some
theorem low_litF (Bq : Nat) (w : World) : LOw 2 59 sgR (w.alloc (.cells #[] 59)) w.heap.size Bq (some ⟨w.heap.size, 0, none⟩) 0 0 [] [] :=
  ⟨w.ownsRow_lit #[] 0 (Nat.le_refl _) (by unfold maxLen; omega) rfl, by simp, fun k x hk => by simp at hk⟩
/-- What is told of blocks that lie says nothing of one that does not lie yet. -/
theorem fr_new {Bq : Nat} {R : World → Prop} {w wr : World} {ob : Option Nat} (h : FrB Bq none R w) (hb : Below w.heap.size w wr) (hob : ∀ k, ob = some k → w.heap.size ≤ k) : FrB Bq ob R wr := by
  intro w' ha
  refine h w' ⟨Nat.le_trans hb.size ha.1, fun k o hk ho hc _ => ?_⟩
  have hl := heap_lt ho
  exact ha.2 k o hk ((hb.block k hl).trans ho) hc (fun e => by have := hob k e.symm; omega)
end Go.Proofs.YtplhnhoijficgaaGreat
set_option linter.unusedSimpArgs false
set_option linter.unusedVariables false
namespace Go.Proofs.YtplhnhoijficgaaGreat
open Go.RowKit Go.WideShapes Go.ChangeShapes
attribute [local go_sem] Oper.semAt_some
set_option maxRecDepth 100000 in
theorem cloneE_seg (A : Option Addr) (c : Nat) (w : World) : Calls Tryz.prog 63 #[.slice A 0 c] w (SegP [] w) := by
  have hnil := fun w => Lib.run_eql_slice_nil (P := Tryz.prog) w
  cases A with
  | none =>
    go_enter Tryz.func63, Tryz.ntmps63
    go_wp2
    go_ret
    exact ⟨none, 0, 0, [], rfl, LOw.nil, Below.refl _ _⟩
  | some a =>
    have HB := hide ((Below.refl w.heap.size w).alloc (Nat.le_refl _) (.cells #[] 59))
    have HL := hide (low_litF w.heap.size w)
    go_enter Tryz.func63, Tryz.ntmps63
    go_wp2
    go_ret
    exact ⟨_, 0, 0, [], rfl, HL.out, HB.out⟩
abbrev clZ : Array Value := #[.int .i64 0, .bool false, .string ⟨#[]⟩, .string ⟨#[]⟩, .string ⟨#[]⟩, .bool false, .int .u32 0, .int .i64 0, .int .u32 0, .int .u32 0, .int .i64 0, .slice none 0 0, .int .u32 0, .int .i64 0]
theorem blk14 {w : World} {g : Nat} {t : TypeId} {v0 v1 v2 v3 v4 v5 v6 v7 v8 v9 v10 v11 v12 v13 : Value} (h : Blk w g t #[v0, v1, v2, v3, v4, v5, v6, v7, v8, v9, v10, v11, v12, v13]) :
    w.cell? ⟨g, 0, none⟩ = some v0 ∧ w.cell? ⟨g, 1, none⟩ = some v1 ∧ w.cell? ⟨g, 2, none⟩ = some v2 ∧ w.cell? ⟨g, 3, none⟩ = some v3 ∧ w.cell? ⟨g, 4, none⟩ = some v4 ∧ w.cell? ⟨g, 5, none⟩ = some v5 ∧ w.cell? ⟨g, 6, none⟩ = some v6 ∧ w.cell? ⟨g, 7, none⟩ = some v7 ∧ w.cell? ⟨g, 8, none⟩ = some v8 ∧ w.cell? ⟨g, 9, none⟩ = some v9 ∧ w.cell? ⟨g, 10, none⟩ = some v10 ∧ w.cell? ⟨g, 11, none⟩ = some v11 ∧ w.cell? ⟨g, 12, none⟩ = some v12 ∧ w.cell? ⟨g, 13, none⟩ = some v13 :=
  ⟨h.cell 0, h.cell 1, h.cell 2, h.cell 3, h.cell 4, h.cell 5, h.cell 6, h.cell 7, h.cell 8, h.cell 9, h.cell 10, h.cell 11, h.cell 12, h.cell 13⟩
set_option maxRecDepth 100000 in
set_option maxHeartbeats 8000000 in
theorem setZn_any (X : AT) (hp0 : X.path = []) (hc0 : X.comms = []) (v : Value) (w : World) (hv : AtR w X v) : Calls Tryz.prog 53 #[.agg clZ, v] w (AtP X w) := by
  obtain ⟨A, n, c, Bb, m, d, rfl, hP, hC⟩ := hv
  obtain rfl : n = 0 := by rw [← hP.1, hp0]; rfl
  obtain rfl : m = 0 := by rw [← hC.1, hc0]; rfl
  rw [hc0] at hC
  obtain ⟨w1, hw1⟩ : ∃ w1, (((w.alloc (.cells clZ 87)).alloc (.cells (bxC X (.slice A 0 c) (.slice Bb 0 d)) 40)).alloc (.cells zeroC 40)) = w1 := ⟨_, rfl⟩
  have hb1 : Below w.heap.size w w1 := hw1 ▸ (((Below.refl _ w).alloc (Nat.le_refl _) _).alloc (by simp) _).alloc (by simp; omega) _
  have HCl : Hid (Blk w1 w.heap.size 87 clZ) := hide (hw1 ▸ ((Blk.new w _ _).alloc _).alloc _)
  have HKb : Hid (Blk w1 (w.heap.size + 1) 40 (bxC X (.slice A 0 c) (.slice Bb 0 d))) := hide (hw1 ▸ (blk_new' _ _ (by simp)).alloc _)
  have HKz : Hid (Blk w1 ((w.heap.size + 1) + 1) 40 zeroC) := hide (hw1 ▸ blk_new' _ _ (by simp))
  have HLt : Hid (w.heap.size + 1 < w1.heap.size) := hide HKb.out.lt
  have HC := hide hC
  have HB1 := hide hb1
  have HW1 := hide hw1
  have HCNb : Hid (∀ y ∈ ([] : List Nat), y < 4294967296) := hide (by simp)
  have HX : Hid (X = ⟨X.has, X.org, [], X.hop, X.med, X.pref, X.aas, X.aid, []⟩) := hide (by obtain ⟨h, o, pl, hp, md, pf, aa, ai, cl⟩ := X; simp only at hp0 hc0; subst hp0 hc0; rfl)
  clear hw1 hb1 hP hC hp0 hc0
  go_enter Tryz.func53, Tryz.ntmps53
  go_upto_region 1 with fail
  rw [HW1.out]
  refine wp_region_relH 10 (w.heap.size + 1) (Nat.le_of_lt HLt.out) [(fun v _ => v = .pointer (some ⟨w.heap.size + 1, 2, none⟩)), (fun v _ => v = .slice A 0 c), (SlA w1.heap.size []), (fun v _ => v = .pointer (some ⟨w.heap.size + 1, 8, none⟩)), (fun v _ => v = .slice Bb 0 d), (SlB w1.heap.size []), (fun v _ => v = .pointer (some ⟨w.heap.size + 1, 2, none⟩)), (fun _ W => StA (w.heap.size + 1) w1.heap.size X [] W ), (fun v _ => v = .pointer (some ⟨w.heap.size + 1, 8, none⟩)), (fun _ W => StB (w.heap.size + 1) w1.heap.size X [] W )] (fun i W => BxA (w.heap.size + 1) X W ∧ (i = 1 → W.cell? ⟨w.heap.size + 1, 2, none⟩ = some (.slice A 0 c)) ∧ (i = 4 → W.cell? ⟨w.heap.size + 1, 8, none⟩ = some (.slice Bb 0 d))) (fun i Wa Wb => if i = 7 then ∃ v, Wb = Wa.setCell ⟨w.heap.size + 1, 2, none⟩ v else if i = 9 then ∃ v, Wb = Wa.setCell ⟨w.heap.size + 1, 8, none⟩ v else Below Wa.heap.size Wa Wb) (by kernel_rfl) (by kernel_rfl) (by kernel_rfl) (by kernel_rfl) (by kernel_rfl) ?hE ?hR ?hP ?h0 ⟨?_, ?_, ?_, ?_, ?_, ?_, ?_, ?_, ?_, ?_, trivial⟩ ?_
  case hE =>
    intro i2 wa wb hB he
    split at he
    · obtain ⟨u, rfl⟩ := he
      exact (Below.refl (w.heap.size + 1) wa).setCell (p := ⟨w.heap.size + 1, 2, none⟩) (Nat.le_refl _) u
    · split at he
      · obtain ⟨u, rfl⟩ := he
        exact (Below.refl (w.heap.size + 1) wa).setCell (p := ⟨w.heap.size + 1, 8, none⟩) (Nat.le_refl _) u
      · exact he.mono hB
  case hR =>
    intro i2 j2 v2 wa wb hij hB he h
    split at he
    · rename_i hj2
      subst hj2
      refine keepAll_at (E := fun wa wb => ∃ v, wb = wa.setCell ⟨w.heap.size + 1, 2, none⟩ v) (x := 7) (k := 0) ?_ (by omega) he h
      exact ⟨fun _ v wa wb he h => h, fun _ v wa wb he h => h, fun _ v wa wb he h => by obtain ⟨u, rfl⟩ := he; exact SlA.setv h HLt.out, fun _ v wa wb he h => h, fun _ v wa wb he h => h, fun _ v wa wb he h => by obtain ⟨u, rfl⟩ := he; exact SlB.setv h HLt.out, fun _ v wa wb he h => h, fun hn => absurd rfl hn, fun _ v wa wb he h => h, fun _ v wa wb he h => by obtain ⟨u, rfl⟩ := he; exact StB.set2 h HLt.out, trivial⟩
    · split at he
      · rename_i hj2
        subst hj2
        refine keepAll_at (E := fun wa wb => ∃ v, wb = wa.setCell ⟨w.heap.size + 1, 8, none⟩ v) (x := 9) (k := 0) ?_ (by omega) he h
        exact ⟨fun _ v wa wb he h => h, fun _ v wa wb he h => h, fun _ v wa wb he h => by obtain ⟨u, rfl⟩ := he; exact SlA.setv h HLt.out, fun _ v wa wb he h => h, fun _ v wa wb he h => h, fun _ v wa wb he h => by obtain ⟨u, rfl⟩ := he; exact SlB.setv h HLt.out, fun _ v wa wb he h => h, fun _ v wa wb he h => by obtain ⟨u, rfl⟩ := he; exact StA.set8 h HLt.out, fun _ v wa wb he h => h, fun hn => absurd rfl hn, trivial⟩
      · refine relMono _ ?_ i2 v2 wa wb he h
        exact ⟨fun _ _ _ _ h => h, fun _ _ _ _ h => h, fun v w2 w3 hb h => SlA.below h hb, fun _ _ _ _ h => h, fun _ _ _ _ h => h, fun v w2 w3 hb h => SlB.below h hb, fun _ _ _ _ h => h, fun v w1 w2 hb h => StA.below h hb, fun _ _ _ _ h => h, fun v w1 w2 hb h => StB.below h hb, trivial⟩
  case hP =>
    intro i2 j2 wa wb hij hnb hB he h
    split at he
    · rename_i hj2
      subst hj2
      obtain ⟨u, rfl⟩ := he
      refine ⟨h.1.set2 u, fun e => ?_, fun e => (cell_set_ne (by decide)).trans (h.2.2 e)⟩
      subst e
      exact absurd hnb (by decide +kernel)
    · split at he
      · rename_i hj2
        subst hj2
        obtain ⟨u, rfl⟩ := he
        refine ⟨h.1.set8 u, fun e => (cell_set_ne (by decide)).trans (h.2.1 e), fun e => ?_⟩
        subst e
        exact absurd hnb (by decide +kernel)
      · exact ⟨h.1.below he, fun e => (he.cell h.1.lt_).trans (h.2.1 e), fun e => (he.cell h.1.lt_).trans (h.2.2 e)⟩
  case h0 =>
    intro j2 hj2
    exact ⟨⟨_, _, HKb.out.drew, HKz.out.drew⟩, fun _ => HKb.out.cell 2, fun _ => HKb.out.cell 8⟩
  · refine relG_plain rfl rfl (fun _ _ h => h) ?_
    intro Ac w5 hp
    have hb := hp.bel
    have a3 : Ac.eval (.tmp 3) = .pointer (some ⟨w.heap.size + 1, 0, none⟩) := hp.out 3 (by rfl)
    have hc := evalC Ac; have hf := evalF Ac; have hgl := evalG Ac
    obtain ⟨ρ, hρ⟩ : ∃ ρ, Ac.eval = ρ := ⟨_, rfl⟩
    rw [hρ] at a3 hc hf hgl
    exact relPure hρ (.pointer (some ⟨w.heap.size + 1, 2, none⟩)) (by simp [go_sem, hc, hf, hgl, ↓IntWalk.iteOmega, a3, *]) rfl
  · refine relG_plain rfl rfl (fun _ _ h => h) ?_
    intro Ac w5 hp
    have hb := hp.bel
    have a6 : Ac.eval (.tmp 6) = .pointer (some ⟨w.heap.size + 1, 2, none⟩) := hp.dep 0 (by kernel_rfl)
    have z2 := hp.pre.2.1 rfl
    have hc := evalC Ac; have hf := evalF Ac; have hgl := evalG Ac
    obtain ⟨ρ, hρ⟩ : ∃ ρ, Ac.eval = ρ := ⟨_, rfl⟩
    rw [hρ] at a6 hc hf hgl
    exact relPure hρ (.slice A 0 c) (by simp [go_sem, hc, hf, hgl, ↓IntWalk.iteOmega, a6, *]) rfl
  · refine relG_plain rfl rfl (fun _ _ h => h) ?_
    intro Ac w5 hp
    have hb := hp.bel
    have a7 : Ac.eval (.tmp 7) = .slice A 0 c := hp.dep 1 (by kernel_rfl)
    have hc := evalC Ac; have hf := evalF Ac; have hgl := evalG Ac
    obtain ⟨ρ, hρ⟩ : ∃ ρ, Ac.eval = ρ := ⟨_, rfl⟩
    rw [hρ] at a7 hc hf hgl
    refine relCall hρ 63 #[.slice A 0 c] (by simp [go_sem, hc, hf, hgl, ↓IntWalk.iteOmega, a7, *]) ?_
    refine (cloneE_seg A c w5).mono ?_
    intro e w6 hmv
    unfold SegP at hmv
    obtain ⟨A6, n6, c6, xs6, rfl, hl6, hb6⟩ := hmv
    exact ⟨_, rfl, ⟨A6, n6, c6, xs6, rfl, hl6.less hp.bel.size hp.bel.size⟩, hb6⟩
  · refine relG_plain rfl rfl (fun _ _ h => h) ?_
    intro Ac w5 hp
    have hb := hp.bel
    have a3 : Ac.eval (.tmp 3) = .pointer (some ⟨w.heap.size + 1, 0, none⟩) := hp.out 3 (by rfl)
    have hc := evalC Ac; have hf := evalF Ac; have hgl := evalG Ac
    obtain ⟨ρ, hρ⟩ : ∃ ρ, Ac.eval = ρ := ⟨_, rfl⟩
    rw [hρ] at a3 hc hf hgl
    exact relPure hρ (.pointer (some ⟨w.heap.size + 1, 8, none⟩)) (by simp [go_sem, hc, hf, hgl, ↓IntWalk.iteOmega, a3, *]) rfl
  · refine relG_plain rfl rfl (fun _ _ h => h) ?_
    intro Ac w5 hp
    have hb := hp.bel
    have a9 : Ac.eval (.tmp 9) = .pointer (some ⟨w.heap.size + 1, 8, none⟩) := hp.dep 3 (by kernel_rfl)
    have z8 := hp.pre.2.2 rfl
    have hc := evalC Ac; have hf := evalF Ac; have hgl := evalG Ac
    obtain ⟨ρ, hρ⟩ : ∃ ρ, Ac.eval = ρ := ⟨_, rfl⟩
    rw [hρ] at a9 hc hf hgl
    exact relPure hρ (.slice Bb 0 d) (by simp [go_sem, hc, hf, hgl, ↓IntWalk.iteOmega, a9, *]) rfl
  · refine relG_plain rfl rfl (fun _ _ h => h) ?_
    intro Ac w5 hp
    have hb := hp.bel
    have a10 : Ac.eval (.tmp 10) = .slice Bb 0 d := hp.dep 4 (by kernel_rfl)
    have hc := evalC Ac; have hf := evalF Ac; have hgl := evalG Ac
    obtain ⟨ρ, hρ⟩ : ∃ ρ, Ac.eval = ρ := ⟨_, rfl⟩
    rw [hρ] at a10 hc hf hgl
    refine relCall hρ 57 #[.slice Bb 0 d] (by simp [go_sem, hc, hf, hgl, ↓IntWalk.iteOmega, a10, *]) ?_
    refine (cloneAll_any Bb 0 d [] w5 (HC.out.below (HB1.out.trans (hp.bel.mono (Nat.le_succ _)))) (by omega)).mono ?_
    rintro e w6 ⟨v6, rfl, ho6, hb6⟩
    obtain ⟨A6, c6, rfl⟩ := own_slice ho6
    exact ⟨_, rfl, ⟨A6, _, c6, rfl, own_u32_fr ho6 HCNb.out hp.bel.size (fun k hk => by cases hk)⟩, hb6⟩
  · refine relG_plain rfl rfl (fun _ _ h => h) ?_
    intro Ac w5 hp
    have hb := hp.bel
    have a3 : Ac.eval (.tmp 3) = .pointer (some ⟨w.heap.size + 1, 0, none⟩) := hp.out 3 (by rfl)
    have hc := evalC Ac; have hf := evalF Ac; have hgl := evalG Ac
    obtain ⟨ρ, hρ⟩ : ∃ ρ, Ac.eval = ρ := ⟨_, rfl⟩
    rw [hρ] at a3 hc hf hgl
    exact relPure hρ (.pointer (some ⟨w.heap.size + 1, 2, none⟩)) (by simp [go_sem, hc, hf, hgl, ↓IntWalk.iteOmega, a3, *]) rfl
  · refine relG_store rfl ?_
    intro Ac w5 hp
    have hb := hp.bel
    have a12 : Ac.eval (.tmp 12) = .pointer (some ⟨w.heap.size + 1, 2, none⟩) := hp.dep 6 (by kernel_rfl)
    obtain ⟨A5, n5, c5, xs5, a8, hl5⟩ := hp.dep 2 (by kernel_rfl)
    change Ac.eval (.tmp 8) = _ at a8
    have a12 : Ac.eval (.tmp 12) = .pointer (some ⟨w.heap.size + 1, 2, none⟩) := hp.dep 6 (by kernel_rfl)
    obtain ⟨A5, n5, c5, xs5, ec, hl5⟩ := hp.dep 2 (by kernel_rfl)
    change Ac.eval (.tmp 8) = _ at ec
    obtain ⟨x2, x8, hk, hz⟩ := hp.pre.1
    have HK := hide hk
    have HZ := hide (hz.far (p := ⟨w.heap.size + 1, 2, none⟩) (by show (w.heap.size + 1) + 1 ≠ w.heap.size + 1; omega) (.slice A5 n5 c5))
    have HL := hide hl5
    clear hp
    refine ⟨w5.setCell ⟨w.heap.size + 1, 2, none⟩ (.slice A5 n5 c5), .inl (exec_store rfl a12 ec (st1A HK.out rfl)), ?_, ⟨_, rfl⟩⟩
    exact ⟨_, x8, HK.out.set_ 2 _, HZ.out, ⟨A5, n5, c5, xs5, rfl, HL.out.set HLt.out HLt.out _⟩⟩
  · refine relG_plain rfl rfl (fun _ _ h => h) ?_
    intro Ac w5 hp
    have hb := hp.bel
    have a3 : Ac.eval (.tmp 3) = .pointer (some ⟨w.heap.size + 1, 0, none⟩) := hp.out 3 (by rfl)
    have hc := evalC Ac; have hf := evalF Ac; have hgl := evalG Ac
    obtain ⟨ρ, hρ⟩ : ∃ ρ, Ac.eval = ρ := ⟨_, rfl⟩
    rw [hρ] at a3 hc hf hgl
    exact relPure hρ (.pointer (some ⟨w.heap.size + 1, 8, none⟩)) (by simp [go_sem, hc, hf, hgl, ↓IntWalk.iteOmega, a3, *]) rfl
  · refine relG_store rfl ?_
    intro Ac w5 hp
    have hb := hp.bel
    have a13 : Ac.eval (.tmp 13) = .pointer (some ⟨w.heap.size + 1, 8, none⟩) := hp.dep 8 (by kernel_rfl)
    obtain ⟨A8, n8, c8, a11, hu8⟩ := hp.dep 5 (by kernel_rfl)
    change Ac.eval (.tmp 11) = _ at a11
    have a13 : Ac.eval (.tmp 13) = .pointer (some ⟨w.heap.size + 1, 8, none⟩) := hp.dep 8 (by kernel_rfl)
    obtain ⟨A8, n8, c8, ec, hu8⟩ := hp.dep 5 (by kernel_rfl)
    change Ac.eval (.tmp 11) = _ at ec
    obtain ⟨x2, x8, hk, hz⟩ := hp.pre.1
    have HK := hide hk
    have HZ := hide (hz.far (p := ⟨w.heap.size + 1, 8, none⟩) (by show (w.heap.size + 1) + 1 ≠ w.heap.size + 1; omega) (.slice A8 n8 c8))
    have HL := hide hu8
    clear hp
    refine ⟨w5.setCell ⟨w.heap.size + 1, 8, none⟩ (.slice A8 n8 c8), .inl (exec_store rfl a13 ec (st1B HK.out rfl)), ?_, ⟨_, rfl⟩⟩
    exact ⟨x2, _, HK.out.set_ 8 _, HZ.out, ⟨A8, n8, c8, rfl, HL.out.set (p := ⟨w.heap.size + 1, 8, none⟩) HLt.out _⟩⟩
  intro u w7 hb7 hall
  have efin : StA (w.heap.size + 1) w1.heap.size X [] w7  := relAll_at hall (i := 7) (by decide +kernel)
  have efin1 : StB (w.heap.size + 1) w1.heap.size X [] w7  := relAll_at hall (i := 9) (by decide +kernel)
  clear hall
  simp only [List.drop_succ_cons, List.drop_zero, List.take_succ_cons, List.take_zero, putAll, Act.put, List.setIfInBounds_toArray, List.set_cons_zero, List.set_cons_succ, Nat.zero_add, Nat.reduceAdd, ]
  obtain ⟨A8, n8, c8, xs8, B8, m8, d8, hk, hz, hl, hu⟩ := st_both efin efin1
  obtain rfl : n8 = 0 := by rw [← (hl.lst (by decide)).1]; rfl
  have HK := hide hk
  have HZ := hide hz
  have HCl := hide (HCl.out.below hb7 (Nat.lt_succ_self _))
  have HB7 := hide (HB1.out.trans (hb7.mono (Nat.le_succ _)))
  have HO := hide (show AtO w1.heap.size w7 ⟨X.has, X.org, [], X.hop, X.med, X.pref, X.aas, X.aid, []⟩ (atV X.has X.org A8 0 c8 X.hop X.med X.pref X.aas X.aid B8 m8 d8) from ⟨A8, 0, c8, xs8, B8, m8, d8, rfl, hl, hu⟩)
  rw [← HX.out] at HO
  clear efin efin1 hk hz hl hu hb7
  have a2 := HK.out.cell 2
  go_wp2
  clear a2
  go_loopw [17] (fun iv wr => iv = .int .i64 0 ∧ wr = w7) (fun _ _ => 0)
  case atStart => exact ⟨rfl, rfl⟩
  case round =>
    obtain ⟨rfl, rfl⟩ := hrel
    obtain ⟨c0, c1, c2, c3, c4, c5, c6, c7, c8_, c9, c10, c11, c12, c13⟩ := blk14 HCl.out
    go_wp2_with fail
    refine (doesZ1 _).mono ?_
    rintro e x0 ⟨rfl, hb⟩
    have HCl := hide (HCl.out.below hb HCl.out.lt)
    have HK := hide (HK.out.below hb HK.out.lt)
    have HZ := hide (HZ.out.below hb HZ.out.lt)
    have HO := hide (HO.out.below hb)
    have HB7 := hide (HB7.out.trans (hb.mono HB7.out.size))
    clear hb c0 c1 c2 c3 c4 c5 c6 c7 c8_ c9 c10 c11 c12 c13
    obtain ⟨c0, c1, c2, c3, c4, c5, c6, c7, c8_, c9, c10, c11, c12, c13⟩ := blk14 HCl.out
    go_wp2_with fail
    refine (doesZ2 _).mono ?_
    rintro e x1 ⟨rfl, hb⟩
    have HCl := hide (HCl.out.below hb HCl.out.lt)
    have HK := hide (HK.out.below hb HK.out.lt)
    have HZ := hide (HZ.out.below hb HZ.out.lt)
    have HO := hide (HO.out.below hb)
    have HB7 := hide (HB7.out.trans (hb.mono HB7.out.size))
    clear hb c0 c1 c2 c3 c4 c5 c6 c7 c8_ c9 c10 c11 c12 c13
    obtain ⟨c0, c1, c2, c3, c4, c5, c6, c7, c8_, c9, c10, c11, c12, c13⟩ := blk14 HCl.out
    go_wp2_with fail
    refine (doesZ4 _).mono ?_
    rintro e x2 ⟨rfl, hb⟩
    have HCl := hide (HCl.out.below hb HCl.out.lt)
    have HK := hide (HK.out.below hb HK.out.lt)
    have HZ := hide (HZ.out.below hb HZ.out.lt)
    have HO := hide (HO.out.below hb)
    have HB7 := hide (HB7.out.trans (hb.mono HB7.out.size))
    clear hb c0 c1 c2 c3 c4 c5 c6 c7 c8_ c9 c10 c11 c12 c13
    obtain ⟨c0, c1, c2, c3, c4, c5, c6, c7, c8_, c9, c10, c11, c12, c13⟩ := blk14 HCl.out
    go_wp2_with fail
    refine (doesZ56 _).mono ?_
    rintro e x3 ⟨rfl, hb⟩
    have HCl := hide (HCl.out.below hb HCl.out.lt)
    have HK := hide (HK.out.below hb HK.out.lt)
    have HZ := hide (HZ.out.below hb HZ.out.lt)
    have HO := hide (HO.out.below hb)
    have HB7 := hide (HB7.out.trans (hb.mono HB7.out.size))
    clear hb c0 c1 c2 c3 c4 c5 c6 c7 c8_ c9 c10 c11 c12 c13
    obtain ⟨c0, c1, c2, c3, c4, c5, c6, c7, c8_, c9, c10, c11, c12, c13⟩ := blk14 HCl.out
    go_wp2_with fail
    refine (doesZ64 _).mono ?_
    rintro e x4 ⟨rfl, hb⟩
    have HCl := hide (HCl.out.below hb HCl.out.lt)
    have HK := hide (HK.out.below hb HK.out.lt)
    have HZ := hide (HZ.out.below hb HZ.out.lt)
    have HO := hide (HO.out.below hb)
    have HB7 := hide (HB7.out.trans (hb.mono HB7.out.size))
    clear hb c0 c1 c2 c3 c4 c5 c6 c7 c8_ c9 c10 c11 c12 c13
    obtain ⟨a0, a1, a2, a3, a4, a5, a6, a7, a8⟩ := blk9 HK.out
    obtain ⟨z0, z1, z2, z3, z4, z5, z6, z7, z8⟩ := blk9 HZ.out
    have zf := fun i => HZ.out.frozen i
    have hlt : w.heap.size + 1 + 1 < w1.heap.size := HKz.out.lt
    go_wp2
    change bodyPost _ _ _ _ _ (x4.setCells (w.heap.size + 1 + 1) 0 [.int .i64 X.has, .int .i64 X.org, .slice A8 0 c8, .int .u32 X.hop, .int .u32 X.med, .int .u32 X.pref, .int .u32 X.aas, .int .u32 X.aid, .slice B8 m8 d8])
    obtain ⟨wF, hwF⟩ : ∃ x, x4.setCells (w.heap.size + 1 + 1) 0 [.int .i64 X.has, .int .i64 X.org, .slice A8 0 c8, .int .u32 X.hop, .int .u32 X.med, .int .u32 X.pref, .int .u32 X.aas, .int .u32 X.aid, .slice B8 m8 d8] = x := ⟨_, rfl⟩
    have HFk := hide (hwF ▸ blk9_set HZ.out : Blk wF (w.heap.size + 1 + 1) 40 (atC X.has X.org A8 0 c8 X.hop X.med X.pref X.aas X.aid B8 m8 d8))
    have HFo := hide (hwF ▸ AtO.sets _ 0 HO.out hlt : AtO w1.heap.size wF X (atV X.has X.org A8 0 c8 X.hop X.med X.pref X.aas X.aid B8 m8 d8))
    have HFb := hide (hwF ▸ below_sets _ 0 HB7.out (by omega) : Below w.heap.size w wF)
    rw [hwF]
    clear hwF z0 z1 z2 z3 z4 z5 z6 z7 z8 zf a0 a1 a2 a3 a4 a5 a6 a7 a8
    obtain ⟨z0, z1, z2, z3, z4, z5, z6, z7, z8⟩ := blk9 HFk.out
    exact bodyPost_ret (v := atV X.has X.org A8 0 c8 X.hop X.med X.pref X.aas X.aid B8 m8 d8) (by simp [results, Tryz.results53, go_sem, z0, z1, z2, z3, z4, z5, z6, z7, z8]) rfl ⟨_, rfl, HFo.out.less (b' := w.heap.size) (by omega), HFb.out⟩
end Go.Proofs.YtplhnhoijficgaaGreat
set_option linter.unusedSimpArgs false
set_option linter.unusedVariables false
namespace Go.Proofs.YtplhnhoijficgaaGreat
open Go.RowKit Go.WideShapes Go.ChangeShapes
attribute [local go_sem] Oper.semAt_some
def EvP (X : AT) (b : Bool) (w : World) (e : Ending) (w' : World) : Prop := ∃ v, e = .returned (.tuple #[v, .bool b]) ∧ AtO w.heap.size w' X v ∧ Below w.heap.size w w'
abbrev liC (L1 L2 L3 L4 : Option Addr × Nat × Nat) : Array Value := #[.slice L1.1 L1.2.1 L1.2.2, .slice L2.1 L2.2.1 L2.2.2, .slice L3.1 L3.2.1 L3.2.2, .slice L4.1 L4.2.1 L4.2.2]
set_option maxRecDepth 100000 in
set_option maxHeartbeats 8000000 in
theorem evalE0_any (L1 L2 L3 L4 : Option Addr × Nat × Nat) (pa pl : Int) (X : AT) (hp0 : X.path = []) (hc0 : X.comms = []) (v : Value) (w : World) (hv : AtR w X v) :
    Calls Tryz.prog 45 #[.agg (liC L1 L2 L3 L4), .string ⟨#[]⟩, .agg #[.int .u32 pa, .int .i64 pl], v] w (EvP X true w) := by
  obtain ⟨A, n, c, B, m, d, rfl, hP, hC⟩ := hv
  obtain ⟨w0, hw0⟩ : ∃ w0, ((((w.alloc (.cells (liC L1 L2 L3 L4) 33)).alloc (.cells #[.int .u32 pa, .int .i64 pl] 24)).alloc (.cells (atC X.has X.org A n c X.hop X.med X.pref X.aas X.aid B m d) 40)).alloc (.cells zeroC 40)) = w0 := ⟨_, rfl⟩
  have hb0 : Below w.heap.size w w0 := hw0 ▸ ((((Below.refl _ w).alloc (Nat.le_refl _) _).alloc (by simp) _).alloc (by simp; omega) _).alloc (by simp; omega) _
  have HK : Hid (Blk w0 (w.heap.size + 1 + 1 + 1) 40 zeroC) := hide (hw0 ▸ blk_new' _ _ (by simp))
  have HN := hide (setZn_any X hp0 hc0 (atV X.has X.org A n c X.hop X.med X.pref X.aas X.aid B m d) w0 ⟨A, n, c, B, m, d, rfl, hP.below sgMono hb0, hC.below hb0⟩)
  have HB0 := hide hb0
  have HW0 := hide hw0
  clear hw0 hb0 hP hC hp0 hc0
  go_enter Tryz.func45, Tryz.ntmps45
  go_wp2_with fail
  rw [HW0.out]
  refine HN.out.mono ?_
  rintro e w1 ⟨v, rfl, ho, hb⟩
  obtain ⟨A1, n1, c1, xs1, B1, m1, d1, rfl, hl, hu⟩ := ho
  have hlt : w.heap.size + 1 + 1 + 1 < w0.heap.size := HK.out.lt
  have HK1 := hide (HK.out.below hb hlt)
  have HB1 := hide (HB0.out.trans (hb.mono HB0.out.size))
  have HO := hide (show AtO w0.heap.size w1 X (atV X.has X.org A1 n1 c1 X.hop X.med X.pref X.aas X.aid B1 m1 d1) from ⟨A1, n1, c1, xs1, B1, m1, d1, rfl, hl, hu⟩)
  obtain ⟨z0, z1, z2, z3, z4, z5, z6, z7, z8⟩ := blk9 HK1.out
  have zf := fun i => HK1.out.frozen i
  clear hl hu hb
  go_wp2
  change bodyPost _ _ _ _ _ (w1.setCells (w.heap.size + 1 + 1 + 1) 0 [.int .i64 X.has, .int .i64 X.org, .slice A1 n1 c1, .int .u32 X.hop, .int .u32 X.med, .int .u32 X.pref, .int .u32 X.aas, .int .u32 X.aid, .slice B1 m1 d1])
  obtain ⟨wF, hwF⟩ : ∃ x, w1.setCells (w.heap.size + 1 + 1 + 1) 0 [.int .i64 X.has, .int .i64 X.org, .slice A1 n1 c1, .int .u32 X.hop, .int .u32 X.med, .int .u32 X.pref, .int .u32 X.aas, .int .u32 X.aid, .slice B1 m1 d1] = x := ⟨_, rfl⟩
  have HFk := hide (hwF ▸ blk9_set HK1.out : Blk wF (w.heap.size + 1 + 1 + 1) 40 (atC X.has X.org A1 n1 c1 X.hop X.med X.pref X.aas X.aid B1 m1 d1))
  have HFo := hide (hwF ▸ AtO.sets _ 0 HO.out hlt : AtO w0.heap.size wF X (atV X.has X.org A1 n1 c1 X.hop X.med X.pref X.aas X.aid B1 m1 d1))
  have HFb := hide (hwF ▸ below_sets _ 0 HB1.out (by omega) : Below w.heap.size w wF)
  rw [hwF]
  clear hwF z0 z1 z2 z3 z4 z5 z6 z7 z8 zf
  obtain ⟨z0, z1, z2, z3, z4, z5, z6, z7, z8⟩ := blk9 HFk.out
  exact bodyPost_ret (v := .tuple #[atV X.has X.org A1 n1 c1 X.hop X.med X.pref X.aas X.aid B1 m1 d1, .bool true]) (by simp [results, Tryz.results45, go_sem, z0, z1, z2, z3, z4, z5, z6, z7, z8]) rfl ⟨_, rfl, HFo.out.less (b' := w.heap.size) (by omega), HFb.out⟩
set_option maxRecDepth 100000 in
set_option maxHeartbeats 8000000 in
theorem EvalE0_any (L1 L2 L3 L4 : Option Addr × Nat × Nat) (pa pl : Int) (X : AT) (hp0 : X.path = []) (hc0 : X.comms = []) (v : Value) (w : World) (hv : AtR w X v) :
    Calls Tryz.prog 38 #[.agg (liC L1 L2 L3 L4), .string ⟨#[]⟩, .agg #[.int .u32 pa, .int .i64 pl], v] w (EvP X true w) := by
  obtain ⟨A, n, c, B, m, d, rfl, hP, hC⟩ := hv
  obtain ⟨w0, hw0⟩ : ∃ w0, ((((w.alloc (.cells (liC L1 L2 L3 L4) 33)).alloc (.cells #[.int .u32 pa, .int .i64 pl] 24)).alloc (.cells (atC X.has X.org A n c X.hop X.med X.pref X.aas X.aid B m d) 40)).alloc (.cells zeroC 40)) = w0 := ⟨_, rfl⟩
  have hb0 : Below w.heap.size w w0 := hw0 ▸ ((((Below.refl _ w).alloc (Nat.le_refl _) _).alloc (by simp) _).alloc (by simp; omega) _).alloc (by simp; omega) _
  have HK : Hid (Blk w0 (w.heap.size + 1 + 1 + 1) 40 zeroC) := hide (hw0 ▸ blk_new' _ _ (by simp))
  have HN := hide (evalE0_any L1 L2 L3 L4 pa pl X hp0 hc0 (atV X.has X.org A n c X.hop X.med X.pref X.aas X.aid B m d) w0 ⟨A, n, c, B, m, d, rfl, hP.below sgMono hb0, hC.below hb0⟩)
  have HB0 := hide hb0
  have HW0 := hide hw0
  clear hw0 hb0 hP hC hp0 hc0
  go_enter Tryz.func38, Tryz.ntmps38
  go_wp2_with fail
  rw [HW0.out]
  refine HN.out.mono ?_
  rintro e w1 ⟨v, rfl, ho, hb⟩
  obtain ⟨A1, n1, c1, xs1, B1, m1, d1, rfl, hl, hu⟩ := ho
  have hlt : w.heap.size + 1 + 1 + 1 < w0.heap.size := HK.out.lt
  have HK1 := hide (HK.out.below hb hlt)
  have HB1 := hide (HB0.out.trans (hb.mono HB0.out.size))
  have HO := hide (show AtO w0.heap.size w1 X (atV X.has X.org A1 n1 c1 X.hop X.med X.pref X.aas X.aid B1 m1 d1) from ⟨A1, n1, c1, xs1, B1, m1, d1, rfl, hl, hu⟩)
  obtain ⟨z0, z1, z2, z3, z4, z5, z6, z7, z8⟩ := blk9 HK1.out
  have zf := fun i => HK1.out.frozen i
  clear hl hu hb
  go_wp2
  change bodyPost _ _ _ _ _ (w1.setCells (w.heap.size + 1 + 1 + 1) 0 [.int .i64 X.has, .int .i64 X.org, .slice A1 n1 c1, .int .u32 X.hop, .int .u32 X.med, .int .u32 X.pref, .int .u32 X.aas, .int .u32 X.aid, .slice B1 m1 d1])
  obtain ⟨wF, hwF⟩ : ∃ x, w1.setCells (w.heap.size + 1 + 1 + 1) 0 [.int .i64 X.has, .int .i64 X.org, .slice A1 n1 c1, .int .u32 X.hop, .int .u32 X.med, .int .u32 X.pref, .int .u32 X.aas, .int .u32 X.aid, .slice B1 m1 d1] = x := ⟨_, rfl⟩
  have HFk := hide (hwF ▸ blk9_set HK1.out : Blk wF (w.heap.size + 1 + 1 + 1) 40 (atC X.has X.org A1 n1 c1 X.hop X.med X.pref X.aas X.aid B1 m1 d1))
  have HFo := hide (hwF ▸ AtO.sets _ 0 HO.out hlt : AtO w0.heap.size wF X (atV X.has X.org A1 n1 c1 X.hop X.med X.pref X.aas X.aid B1 m1 d1))
  have HFb := hide (hwF ▸ below_sets _ 0 HB1.out (by omega) : Below w.heap.size w wF)
  rw [hwF]
  clear hwF z0 z1 z2 z3 z4 z5 z6 z7 z8 zf
  obtain ⟨z0, z1, z2, z3, z4, z5, z6, z7, z8⟩ := blk9 HFk.out
  exact bodyPost_ret (v := .tuple #[atV X.has X.org A1 n1 c1 X.hop X.med X.pref X.aas X.aid B1 m1 d1, .bool true]) (by simp [results, Tryz.results38, go_sem, z0, z1, z2, z3, z4, z5, z6, z7, z8]) rfl ⟨_, rfl, HFo.out.less (b' := w.heap.size) (by omega), HFb.out⟩
theorem keeps_nil (B : Option Addr) (d : Nat) (w : World) : Calls Tryz.prog 44 #[.slice B 0 d] w fun e w' => e = .returned (.tuple #[.bool false, .bool false]) ∧ w' = w := by
  go_enter Tryz.func44, Tryz.ntmps44
  go_wp2
  go_loopw [2, 3, 8] (fun av bv iv wr => av = .bool false ∧ bv = .bool false ∧ iv = .int .i64 0 ∧ wr = w) (fun _ _ _ _ => 0)
  case atStart => exact ⟨rfl, rfl, rfl, rfl⟩
  case round =>
    obtain ⟨rfl, rfl, rfl, rfl⟩ := hrel
    go_wp2
    exact bodyPost_ret (v := .tuple #[.bool false, .bool false]) (by simp [results, Tryz.results44, go_sem]) rfl ⟨rfl, rfl⟩
set_option maxRecDepth 100000 in
set_option maxHeartbeats 4000000 in
theorem barredOwn_any (x : CF) (y : PE) (r : RT) (hl : r.loc = true) (hm : r.m = 0) (hh : attB r.at_.has 8 = false) (w : World) :
    Calls Tryz.prog 37 #[.agg (cfC x), .agg (peC y), .agg (rtV r)] w (GoodP false w) := by
  obtain ⟨pa, pl, X, A, n, c, B, m, d, rp, ra, ri, inn, loc⟩ := r
  simp only at hl hm hh
  subst hl hm
  have h8 : bits .and .i64 X.has 256 = 0 := by
    have e := hb_and X.has 8 ⟨by decide, by decide⟩
    rw [hh] at e
    simpa using e
  have HB := hide ((((Below.refl w.heap.size w).alloc (Nat.le_refl _) (.cells (cfC x) 35)).alloc (by simp) (.cells (peC y) 48)).alloc (by simp; omega) (.cells (rtV ⟨pa, pl, X, A, n, c, B, 0, d, rp, ra, ri, inn, true⟩) 42))
  have HKp := hide (keeps_nil B d)
  clear hh
  go_enter Tryz.func37, Tryz.ntmps37
  go_wp2_with fail
  refine (HKp.out _).mono ?_
  rintro e w1 ⟨rfl, rfl⟩
  go_wp2
  go_ret
  exact ⟨rfl, HB.out⟩
end Go.Proofs.YtplhnhoijficgaaGreat
set_option linter.unusedSimpArgs false
set_option linter.unusedVariables false
namespace Go.Proofs.YtplhnhoijficgaaGreat
open Go.RowKit Go.WideShapes Go.ChangeShapes
attribute [local go_sem] Oper.semAt_some
def ownA (id : Int) : AT := ⟨14, 0, [], id, 0, 0, 0, 0, []⟩
abbrev ownR (asn id pa pl : Int) : Array Value := rtC pa pl 14 0 none 0 0 id 0 0 0 0 none 0 0 id asn id false true
abbrev zeroR : Array Value := rtC 0 0 0 0 none 0 0 0 0 0 0 0 none 0 0 0 0 0 false false
theorem blk16_set {w : World} {g : Nat} {t : TypeId} {u0 u1 u2 u3 u4 u5 u6 u7 u8 u9 u10 u11 u12 u13 u14 u15 v0 v1 v2 v3 v4 v5 v6 v7 v8 v9 v10 v11 v12 v13 v14 v15 : Value} (h : Blk w g t #[u0, u1, u2, u3, u4, u5, u6, u7, u8, u9, u10, u11, u12, u13, u14, u15]) :
    Blk (w.setCells g 0 [v0, v1, v2, v3, v4, v5, v6, v7, v8, v9, v10, v11, v12, v13, v14, v15]) g t #[v0, v1, v2, v3, v4, v5, v6, v7, v8, v9, v10, v11, v12, v13, v14, v15] :=
  blk_sets [v0, v1, v2, v3, v4, v5, v6, v7, v8, v9, v10, v11, v12, v13, v14, v15] [] [u0, u1, u2, u3, u4, u5, u6, u7, u8, u9, u10, u11, u12, u13, u14, u15] h rfl
theorem blkBelow2 (w : World) (a b : Obj) : Below w.heap.size w ((w.alloc a).alloc b) := ((Below.refl _ w).alloc (Nat.le_refl _) _).alloc (by simp) _
theorem blkBelow3 (w : World) (a b c : Obj) : Below w.heap.size w (((w.alloc a).alloc b).alloc c) := (blkBelow2 w a b).alloc (by simp; omega) _
set_option maxRecDepth 100000 in
set_option maxHeartbeats 4000000 in
theorem exLocal_any (x : CF) (pa pl : Int) (w : World) : Calls Tryz.prog 15 #[.agg (cfC x), .agg #[.int .u32 pa, .int .i64 pl]] w fun e w' => e = .returned (.agg (ownR x.asn x.id pa pl)) ∧ Below w.heap.size w w' := by
  have HB := hide (blkBelow3 w (.cells (cfC x) 35) (.cells #[.int .u32 pa, .int .i64 pl] 24) (.cells (ownR x.asn x.id pa pl) 42))
  go_enter Tryz.func15, Tryz.ntmps15
  go_wp2
  exact bodyPost_ret (v := .agg (ownR x.asn x.id pa pl)) (by simp [results, Tryz.results15, go_sem]) rfl ⟨rfl, HB.out⟩
set_option maxRecDepth 100000 in
set_option maxHeartbeats 4000000 in
theorem exLocalX_any (x : CF) (pa pl : Int) (w : World) : Calls Tryz.prog 6 #[.agg (cfC x), .agg #[.int .u32 pa, .int .i64 pl]] w fun e w' => e = .returned (.agg (ownR x.asn x.id pa pl)) ∧ Below w.heap.size w w' := by
  obtain ⟨w0, hw0⟩ : ∃ w0, (((w.alloc (.cells (cfC x) 35)).alloc (.cells #[.int .u32 pa, .int .i64 pl] 24)).alloc (.cells zeroR 42)) = w0 := ⟨_, rfl⟩
  have HB0 : Hid (Below w.heap.size w w0) := hide (hw0 ▸ blkBelow3 w _ _ _)
  have HK : Hid (Blk w0 (w.heap.size + 1 + 1) 42 zeroR) := hide (hw0 ▸ blk_new' _ _ (by simp))
  have HW0 := hide hw0
  clear hw0
  go_enter Tryz.func6, Tryz.ntmps6
  go_wp2_with fail
  rw [HW0.out]
  refine (exLocal_any x pa pl w0).mono ?_
  rintro e w1 ⟨rfl, hb⟩
  have HK1 := hide (HK.out.below hb HK.out.lt)
  have HB1 := hide (HB0.out.trans (hb.mono HB0.out.size))
  clear hb
  obtain ⟨z0, z1, z2, z3, z4, z5, z6, z7, z8, z9, z10, z11, z12, z13, z14, z15⟩ := blk16 HK1.out
  have zf := fun i => HK1.out.frozen i
  go_wp2
  change bodyPost _ _ _ _ _ (w1.setCells (w.heap.size + 1 + 1) 0 [.int .u32 pa, .int .i64 pl, .int .i64 14, .int .i64 0, .slice none 0 0, .int .u32 x.id, .int .u32 0, .int .u32 0, .int .u32 0, .int .u32 0, .slice none 0 0, .int .u32 x.id, .int .u32 x.asn, .int .u32 x.id, .bool false, .bool true])
  obtain ⟨wF, hwF⟩ : ∃ W, w1.setCells (w.heap.size + 1 + 1) 0 [.int .u32 pa, .int .i64 pl, .int .i64 14, .int .i64 0, .slice none 0 0, .int .u32 x.id, .int .u32 0, .int .u32 0, .int .u32 0, .int .u32 0, .slice none 0 0, .int .u32 x.id, .int .u32 x.asn, .int .u32 x.id, .bool false, .bool true] = W := ⟨_, rfl⟩
  have HFk := hide (hwF ▸ blk16_set HK1.out : Blk wF (w.heap.size + 1 + 1) 42 (ownR x.asn x.id pa pl))
  have HFb := hide (hwF ▸ below_sets _ 0 HB1.out (by omega) : Below w.heap.size w wF)
  rw [hwF]
  clear hwF z0 z1 z2 z3 z4 z5 z6 z7 z8 z9 z10 z11 z12 z13 z14 z15 zf
  obtain ⟨z0, z1, z2, z3, z4, z5, z6, z7, z8, z9, z10, z11, z12, z13, z14, z15⟩ := blk16 HFk.out
  exact bodyPost_ret (v := .agg (ownR x.asn x.id pa pl)) (by simp [results, Tryz.results6, go_sem, z0, z1, z2, z3, z4, z5, z6, z7, z8, z9, z10, z11, z12, z13, z14, z15]) rfl ⟨rfl, HFb.out⟩
set_option maxRecDepth 100000 in
set_option maxHeartbeats 4000000 in
theorem exDefault_any (x : CF) (w : World) : Calls Tryz.prog 8 #[.agg (cfC x)] w fun e w' => e = .returned (.agg (ownR x.asn x.id 0 0)) ∧ Below w.heap.size w w' := by
  obtain ⟨w0, hw0⟩ : ∃ w0, (w.alloc (.cells (cfC x) 35)).alloc (.cells zeroR 42) = w0 := ⟨_, rfl⟩
  have HB0 : Hid (Below w.heap.size w w0) := hide (hw0 ▸ blkBelow2 w _ _)
  have HK : Hid (Blk w0 (w.heap.size + 1) 42 zeroR) := hide (hw0 ▸ blk_new' _ _ (by simp))
  have HW0 := hide hw0
  clear hw0
  go_enter Tryz.func8, Tryz.ntmps8
  go_wp2_with fail
  rw [HW0.out]
  refine (exLocal_any x 0 0 w0).mono ?_
  rintro e w1 ⟨rfl, hb⟩
  have HK1 := hide (HK.out.below hb HK.out.lt)
  have HB1 := hide (HB0.out.trans (hb.mono HB0.out.size))
  clear hb
  obtain ⟨z0, z1, z2, z3, z4, z5, z6, z7, z8, z9, z10, z11, z12, z13, z14, z15⟩ := blk16 HK1.out
  have zf := fun i => HK1.out.frozen i
  go_wp2
  change bodyPost _ _ _ _ _ (w1.setCells (w.heap.size + 1) 0 [.int .u32 0, .int .i64 0, .int .i64 14, .int .i64 0, .slice none 0 0, .int .u32 x.id, .int .u32 0, .int .u32 0, .int .u32 0, .int .u32 0, .slice none 0 0, .int .u32 x.id, .int .u32 x.asn, .int .u32 x.id, .bool false, .bool true])
  obtain ⟨wF, hwF⟩ : ∃ W, w1.setCells (w.heap.size + 1) 0 [.int .u32 0, .int .i64 0, .int .i64 14, .int .i64 0, .slice none 0 0, .int .u32 x.id, .int .u32 0, .int .u32 0, .int .u32 0, .int .u32 0, .slice none 0 0, .int .u32 x.id, .int .u32 x.asn, .int .u32 x.id, .bool false, .bool true] = W := ⟨_, rfl⟩
  have HFk := hide (hwF ▸ blk16_set HK1.out : Blk wF (w.heap.size + 1) 42 (ownR x.asn x.id 0 0))
  have HFb := hide (hwF ▸ below_sets _ 0 HB1.out (by omega) : Below w.heap.size w wF)
  rw [hwF]
  clear hwF z0 z1 z2 z3 z4 z5 z6 z7 z8 z9 z10 z11 z12 z13 z14 z15 zf
  obtain ⟨z0, z1, z2, z3, z4, z5, z6, z7, z8, z9, z10, z11, z12, z13, z14, z15⟩ := blk16 HFk.out
  exact bodyPost_ret (v := .agg (ownR x.asn x.id 0 0)) (by simp [results, Tryz.results8, go_sem, z0, z1, z2, z3, z4, z5, z6, z7, z8, z9, z10, z11, z12, z13, z14, z15]) rfl ⟨rfl, HFb.out⟩
end Go.Proofs.YtplhnhoijficgaaGreat
set_option linter.unusedSimpArgs false
set_option linter.unusedVariables false
namespace Go.Proofs.YtplhnhoijficgaaGreat
open Go.RowKit Go.WideShapes Go.ChangeShapes
/-- Attributes handed back with a word, told apart from a block: what lies behind them says nothing of it. -/
def OkM (X : AT) (b : Bool) (v : Value) (ob : Option Nat) (w : World) : Prop := ∃ A n c xs B m d, v = .tuple #[atV X.has X.org A n c X.hop X.med X.pref X.aas X.aid B m d, .bool b] ∧
  w.ownsRow 0 59 2 (.slice A n c) n xs ∧ Chunks 2 (fun w vs x => FrB 0 ob (fun w => sgR w vs x) w) w xs X.path ∧ FrB 0 ob (fun w => U32s w B m d X.comms) w
theorem grownBy_set (w : World) (R i : Nat) (v : Value) : w.grownBy (w.setCell ⟨R, i, none⟩ v) (some R) :=
  ⟨rfl, rfl, rfl, Nat.le_of_eq (by simp), fun k _ hk => Below.heap_setCell _ _ _ k (fun e => hk (by rw [e]))⟩
section
variable {X : AT} {b : Bool} {v : Value} {ob : Option Nat} {w w' : World} {R B0 : Nat}
theorem OkM.below (h : OkM X b v ob w) (hb : Below w.heap.size w w') : OkM X b v ob w' := by
  obtain ⟨A, n, c, xs, B, m, d, e, h1, h2, h3⟩ := h
  exact ⟨A, n, c, xs, B, m, d, e, own_kept h1 hb, chunks_fr_below h2 hb, h3.below hb⟩
theorem fr_any {S : World → Prop} (h : FrB B0 none S w) (hob : ∀ k, ob = some k → k < B0) : FrB 0 ob S w := by
  intro w' ha
  exact h w' ⟨ha.1, fun k o hk ho hc _ => ha.2 k o (Nat.zero_le _) ho hc (fun e => by have := hob k e.symm; omega)⟩
/-- Of what lies from B0 on: apart from a block below. -/
theorem OkM.of_low (h : AtO B0 w X v) (hob : ∀ k, ob = some k → k < B0) : OkM X b (.tuple #[v, .bool b]) ob w := by
  obtain ⟨A, n, c, xs, B, m, d, rfl, h1, h2⟩ := h
  exact ⟨A, n, c, xs, B, m, d, rfl, own_baseLe h1.1 (Nat.zero_le _), ⟨h1.2.1, fun k x hx => fr_any (FrB.none_ (h1.2.2 k x hx)) hob⟩, fr_any h2 hob⟩
theorem fr_newer {S : World → Prop} (h : FrB 0 none S w) (hb : Below w.heap.size w w') (hob : w.heap.size ≤ R) : FrB 0 (some R) S w' := fr_new h hb (fun k e => by cases e; exact hob)
/-- A block comes to memory behind: apart from that. -/
theorem OkM.new (h : OkM X b v none w) (hb : Below w.heap.size w w') (hR : w.heap.size ≤ R) : OkM X b v (some R) w' := by
  obtain ⟨A, n, c, xs, B, m, d, e, h1, h2, h3⟩ := h
  exact ⟨A, n, c, xs, B, m, d, e, own_kept h1 hb, ⟨h2.1, fun k x hx => fr_newer (h2.2 k x hx) hb hR⟩, fr_newer h3 hb hR⟩
theorem own_setsT {base e size n H : Nat} {u : Value} {xs : List Value} {t : TypeId} {cs : Array Value} (hne : e ≠ t) : ∀ (vs : List Value) (i : Nat) {w : World} {cs : Array Value}, w.ownsRow base e size u n xs → Blk w H t cs → (w.setCells H i vs).ownsRow base e size u n xs
  | [], _, _, _, h, _ => h
  | v :: vs, i, _, _, h, hk => own_setsT hne vs (i + 1) (own_set h (own_blk_ne h hk hne) v) (hk.set_ i v) (cs := cs)
theorem fr_sets {S : World → Prop} : ∀ (vs : List Value) (i : Nat) {w : World}, FrB 0 (some R) S w → FrB 0 (some R) S (w.setCells R i vs)
  | [], _, _, h => h
  | v :: vs, i, w, h => fr_sets vs (i + 1) (h.ag (AgB.grown (grownBy_set w R i v)))
theorem OkM.sets {vs : List Value} {cs : Array Value} (h : OkM X b v (some R) w) (hk : Blk w R 40 cs) : OkM X b v (some R) (w.setCells R 0 vs) := by
  obtain ⟨A, n, c, xs, B, m, d, e, h1, h2, h3⟩ := h
  exact ⟨A, n, c, xs, B, m, d, e, own_setsT (cs := cs) (by decide) vs 0 h1 hk, ⟨h2.1, fun k x hx => fr_sets vs 0 (h2.2 k x hx)⟩, fr_sets vs 0 h3⟩
theorem OkM.rd (h : OkM X b v ob w) : ∃ u, v = .tuple #[u, .bool b] ∧ AtR w X u := by
  obtain ⟨A, n, c, xs, B, m, d, e, h1, h2, h3⟩ := h
  exact ⟨_, e, A, n, c, B, m, d, rfl, LstAt.of_own (by decide) h1 ⟨h2.1, fun k x hx => (h2.2 k x hx).here⟩, h3.here⟩
end
/-- What is said of the operations k (the call), k + 1 (its move), k + 2, k + 3 (its parts), k + 4 (the box), k + 5 (the store). -/
structure OkX (k : Nat) (X : AT) (b : Bool) (B0 : Nat) (D : Nat → Bool) (u : Nat → Value) (w : World) : Prop where
  d1 : D (k + 1) = true → D k = true
  d2 : D (k + 2) = true → D k = true
  d3 : D (k + 3) = true → D k = true
  d5 : D (k + 5) = true → D k = true ∧ D (k + 4) = true
  c0 : D k = true → D (k + 4) = false → OkM X b (u k) none w
  c1 : D (k + 1) = true → u (k + 1) = u k
  c2 : D (k + 2) = true → ∃ y z, u k = .tuple #[y, z] ∧ u (k + 2) = y
  c3 : D (k + 3) = true → ∃ y z, u k = .tuple #[y, z] ∧ u (k + 3) = z
  c4 : D (k + 4) = true → ∃ R, u (k + 4) = .pointer (some ⟨R, 0, none⟩) ∧ B0 ≤ R ∧ (∃ cs, Blk w R 40 cs ∧ (D (k + 5) = false → cs = zeroC)) ∧ (D k = true → OkM X b (u k) (some R) w)
  c5 : D (k + 5) = true → ∃ R A n c B m d, u (k + 4) = .pointer (some ⟨R, 0, none⟩) ∧ u k = .tuple #[atV X.has X.org A n c X.hop X.med X.pref X.aas X.aid B m d, .bool b] ∧ Blk w R 40 (atC X.has X.org A n c X.hop X.med X.pref X.aas X.aid B m d)
section
variable {k : Nat} {X : AT} {b : Bool} {B0 : Nat} {D : Nat → Bool} {u : Nat → Value} {w w' : World}
theorem okx_start (u : Nat → Value) (w : World) : OkX k X b B0 (fun _ => false) u w := by
  constructor <;> intro h <;> cases h
theorem okx_below (h : OkX k X b B0 D u w) (hb : Below w.heap.size w w') : OkX k X b B0 D u w' :=
  ⟨h.d1, h.d2, h.d3, h.d5, fun a c => (h.c0 a c).below hb, h.c1, h.c2, h.c3, fun a => by
    obtain ⟨R, e, hR, ⟨cs, hk, hz⟩, hm⟩ := h.c4 a
    exact ⟨R, e, hR, ⟨cs, hk.below hb hk.lt, hz⟩, fun c => (hm c).below hb⟩, fun a => by
    obtain ⟨R, A, n, c, B, m, d, e, e2, hk⟩ := h.c5 a
    exact ⟨R, A, n, c, B, m, d, e, e2, hk.below hb hk.lt⟩⟩
theorem okx_other {i : Nat} (hi : i < k ∨ k + 5 < i) (v : Value) (hb : Below w.heap.size w w') (h : OkX k X b B0 D u w) : OkX k X b B0 (updD D i) (updU u i v) w' := by
  have h' := okx_below h hb
  have e : ∀ j, k ≤ j → j ≤ k + 5 → updD D i j = D j ∧ updU u i v j = u j := fun j h1 h2 => by
    unfold updD updU
    rw [if_neg (by omega), if_neg (by omega)]
    exact ⟨rfl, rfl⟩
  obtain ⟨a0, b0⟩ := e k (by omega) (by omega)
  obtain ⟨a1, b1⟩ := e (k + 1) (by omega) (by omega)
  obtain ⟨a2, b2⟩ := e (k + 2) (by omega) (by omega)
  obtain ⟨a3, b3⟩ := e (k + 3) (by omega) (by omega)
  obtain ⟨a4, b4⟩ := e (k + 4) (by omega) (by omega)
  obtain ⟨a5, b5⟩ := e (k + 5) (by omega) (by omega)
  constructor <;> simp only [a0, a1, a2, a3, a4, a5, b0, b1, b2, b3, b4, b5]
  · exact h'.d1
  · exact h'.d2
  · exact h'.d3
  · exact h'.d5
  · exact h'.c0
  · exact h'.c1
  · exact h'.c2
  · exact h'.c3
  · exact h'.c4
  · exact h'.c5
theorem updD_self (D : Nat → Bool) (i : Nat) : updD D i i = true := by unfold updD; rw [if_pos rfl]
theorem updD_ne (D : Nat → Bool) {i j : Nat} (h : j ≠ i) : updD D i j = D j := by unfold updD; rw [if_neg h]
theorem updU_self (u : Nat → Value) (i : Nat) (v : Value) : updU u i v i = v := by unfold updU; rw [if_pos rfl]
theorem updU_ne (u : Nat → Value) {i j : Nat} (v : Value) (h : j ≠ i) : updU u i v j = u j := by unfold updU; rw [if_neg h]
theorem b_no {p : Prop} {x : Bool} (h : x = false) (h' : x = true) : p := by rw [h] at h'; cases h'
/-- The call. -/
theorem okx_call {y : Value} (h : OkX k X b B0 D u w) (hn : D k = false) (hb : Below w.heap.size w w') (hy : AtO w.heap.size w' X y) : OkX k X b B0 (updD D k) (updU u k (.tuple #[y, .bool b])) w' := by
  constructor <;> simp only [updD_self, updU_self, updD_ne D (show k + 1 ≠ k by omega), updD_ne D (show k + 2 ≠ k by omega), updD_ne D (show k + 3 ≠ k by omega), updD_ne D (show k + 4 ≠ k by omega), updD_ne D (show k + 5 ≠ k by omega), updU_ne u _ (show k + 1 ≠ k by omega), updU_ne u _ (show k + 2 ≠ k by omega), updU_ne u _ (show k + 3 ≠ k by omega), updU_ne u _ (show k + 4 ≠ k by omega)]
  · exact fun _ => trivial
  · exact fun _ => trivial
  · exact fun _ => trivial
  · exact fun e => ⟨trivial, (h.d5 e).2⟩
  · exact fun _ _ => OkM.of_low hy (fun k e => by cases e)
  · exact fun e => b_no hn (h.d1 e)
  · exact fun e => b_no hn (h.d2 e)
  · exact fun e => b_no hn (h.d3 e)
  · intro e
    obtain ⟨R, e1, hR, ⟨cs, hk, hz⟩, hm⟩ := h.c4 e
    exact ⟨R, e1, hR, ⟨cs, hk.below hb hk.lt, hz⟩, fun _ => OkM.of_low hy (fun k e => by cases e; exact hk.lt)⟩
  · exact fun e => b_no hn (h.d5 e).1
theorem okx_move (h : OkX k X b B0 D u w) (hd : D k = true) : OkX k X b B0 (updD D (k + 1)) (updU u (k + 1) (u k)) w := by
  constructor <;> simp only [updD_self, updU_self, updD_ne D (show k ≠ k + 1 by omega), updD_ne D (show k + 2 ≠ k + 1 by omega), updD_ne D (show k + 3 ≠ k + 1 by omega), updD_ne D (show k + 4 ≠ k + 1 by omega), updD_ne D (show k + 5 ≠ k + 1 by omega), updU_ne u _ (show k ≠ k + 1 by omega), updU_ne u _ (show k + 2 ≠ k + 1 by omega), updU_ne u _ (show k + 3 ≠ k + 1 by omega), updU_ne u _ (show k + 4 ≠ k + 1 by omega)]
  · exact fun _ => hd
  · exact h.d2
  · exact h.d3
  · exact h.d5
  · exact h.c0
  · exact fun _ => trivial
  · exact h.c2
  · exact h.c3
  · exact h.c4
  · exact h.c5
theorem okx_ext0 {y z : Value} (h : OkX k X b B0 D u w) (hd : D k = true) (hu : u k = .tuple #[y, z]) : OkX k X b B0 (updD D (k + 2)) (updU u (k + 2) y) w := by
  constructor <;> simp only [updD_self, updU_self, updD_ne D (show k ≠ k + 2 by omega), updD_ne D (show k + 1 ≠ k + 2 by omega), updD_ne D (show k + 3 ≠ k + 2 by omega), updD_ne D (show k + 4 ≠ k + 2 by omega), updD_ne D (show k + 5 ≠ k + 2 by omega), updU_ne u _ (show k ≠ k + 2 by omega), updU_ne u _ (show k + 1 ≠ k + 2 by omega), updU_ne u _ (show k + 3 ≠ k + 2 by omega), updU_ne u _ (show k + 4 ≠ k + 2 by omega)]
  · exact h.d1
  · exact fun _ => hd
  · exact h.d3
  · exact h.d5
  · exact h.c0
  · exact h.c1
  · exact fun _ => ⟨y, z, hu, rfl⟩
  · exact h.c3
  · exact h.c4
  · exact h.c5
theorem okx_ext1 {y z : Value} (h : OkX k X b B0 D u w) (hd : D k = true) (hu : u k = .tuple #[y, z]) : OkX k X b B0 (updD D (k + 3)) (updU u (k + 3) z) w := by
  constructor <;> simp only [updD_self, updU_self, updD_ne D (show k ≠ k + 3 by omega), updD_ne D (show k + 1 ≠ k + 3 by omega), updD_ne D (show k + 2 ≠ k + 3 by omega), updD_ne D (show k + 4 ≠ k + 3 by omega), updD_ne D (show k + 5 ≠ k + 3 by omega), updU_ne u _ (show k ≠ k + 3 by omega), updU_ne u _ (show k + 1 ≠ k + 3 by omega), updU_ne u _ (show k + 2 ≠ k + 3 by omega), updU_ne u _ (show k + 4 ≠ k + 3 by omega)]
  · exact h.d1
  · exact h.d2
  · exact fun _ => hd
  · exact h.d5
  · exact h.c0
  · exact h.c1
  · exact h.c2
  · exact fun _ => ⟨y, z, hu, rfl⟩
  · exact h.c4
  · exact h.c5
/-- The box. -/
theorem okx_alloc (h : OkX k X b B0 D u w) (hn : D (k + 4) = false) (hB : B0 ≤ w.heap.size) : OkX k X b B0 (updD D (k + 4)) (updU u (k + 4) (.pointer (some ⟨w.heap.size, 0, none⟩))) (w.alloc (.cells zeroC 40)) := by
  have hb : Below w.heap.size w (w.alloc (.cells zeroC 40)) := (Below.refl _ w).alloc (Nat.le_refl _) _
  constructor <;> simp only [updD_self, updU_self, updD_ne D (show k ≠ k + 4 by omega), updD_ne D (show k + 1 ≠ k + 4 by omega), updD_ne D (show k + 2 ≠ k + 4 by omega), updD_ne D (show k + 3 ≠ k + 4 by omega), updD_ne D (show k + 5 ≠ k + 4 by omega), updU_ne u _ (show k ≠ k + 4 by omega), updU_ne u _ (show k + 1 ≠ k + 4 by omega), updU_ne u _ (show k + 2 ≠ k + 4 by omega), updU_ne u _ (show k + 3 ≠ k + 4 by omega)]
  · exact h.d1
  · exact h.d2
  · exact h.d3
  · exact fun e => b_no hn (h.d5 e).2
  · exact fun _ e => by cases e
  · exact h.c1
  · exact h.c2
  · exact h.c3
  · exact fun _ => ⟨_, rfl, hB, ⟨_, Blk.new w _ _, fun _ => rfl⟩, fun hc => (h.c0 hc hn).new hb (Nat.le_refl _)⟩
  · exact fun e => b_no hn (h.d5 e).2
/-- The store. -/
theorem okx_store {R : Nat} {A : Option Addr} {n c : Nat} {B : Option Addr} {m d : Nat} (h : OkX k X b B0 D u w) (hd : D k = true) (hd4 : D (k + 4) = true) (hR : u (k + 4) = .pointer (some ⟨R, 0, none⟩)) (hn : D (k + 5) = false)
    (hu : u k = .tuple #[atV X.has X.org A n c X.hop X.med X.pref X.aas X.aid B m d, .bool b]) :
    OkX k X b B0 (updD D (k + 5)) (updU u (k + 5) undef) (w.setCells R 0 [.int .i64 X.has, .int .i64 X.org, .slice A n c, .int .u32 X.hop, .int .u32 X.med, .int .u32 X.pref, .int .u32 X.aas, .int .u32 X.aid, .slice B m d]) := by
  obtain ⟨R', e1, hB, ⟨cs, hk, hz⟩, hm⟩ := h.c4 hd4
  rw [hR] at e1
  simp only [Value.pointer.injEq, Option.some.injEq, Addr.mk.injEq, and_true] at e1
  subst e1
  obtain rfl := hz hn
  have hk2 := blk9_set (v0 := .int .i64 X.has) (v1 := .int .i64 X.org) (v2 := .slice A n c) (v3 := .int .u32 X.hop) (v4 := .int .u32 X.med) (v5 := .int .u32 X.pref) (v6 := .int .u32 X.aas) (v7 := .int .u32 X.aid) (v8 := .slice B m d) hk
  constructor <;> simp only [updD_self, updU_self, updD_ne D (show k ≠ k + 5 by omega), updD_ne D (show k + 1 ≠ k + 5 by omega), updD_ne D (show k + 2 ≠ k + 5 by omega), updD_ne D (show k + 3 ≠ k + 5 by omega), updD_ne D (show k + 4 ≠ k + 5 by omega), updU_ne u _ (show k ≠ k + 5 by omega), updU_ne u _ (show k + 1 ≠ k + 5 by omega), updU_ne u _ (show k + 2 ≠ k + 5 by omega), updU_ne u _ (show k + 3 ≠ k + 5 by omega), updU_ne u _ (show k + 4 ≠ k + 5 by omega)]
  · exact h.d1
  · exact h.d2
  · exact h.d3
  · exact fun _ => ⟨hd, hd4⟩
  · exact fun _ e => b_no e hd4
  · exact h.c1
  · exact h.c2
  · exact h.c3
  · exact fun _ => ⟨R, hR, hB, ⟨_, hk2, fun e => by cases e⟩, fun _ => (hm hd).sets hk⟩
  · exact fun _ => ⟨R, A, n, c, B, m, d, hR, hu, hk2⟩
theorem okx_fin (h : OkX k X b B0 D u w) (hd : D k = true) (hd2 : D (k + 2) = true) (hd3 : D (k + 3) = true) (hd4 : D (k + 4) = true) (hd5 : D (k + 5) = true) :
    ∃ R A n c B m d, u (k + 4) = .pointer (some ⟨R, 0, none⟩) ∧ u (k + 3) = .bool b ∧ B0 ≤ R ∧ Blk w R 40 (atC X.has X.org A n c X.hop X.med X.pref X.aas X.aid B m d) ∧ LstAt 2 sgR w A n c X.path ∧ U32s w B m d X.comms := by
  obtain ⟨R, A, n, c, B, m, d, e1, e2, hk⟩ := h.c5 hd5
  obtain ⟨R', e3, hB, _, hm⟩ := h.c4 hd4
  rw [e1] at e3
  simp only [Value.pointer.injEq, Option.some.injEq, Addr.mk.injEq, and_true] at e3
  subst e3
  obtain ⟨v, hv, ha⟩ := (hm hd).rd
  obtain ⟨y, z, e4, e5⟩ := h.c3 hd3
  rw [e2] at e4 hv
  simp only [Value.tuple.injEq, Array.mk.injEq, List.cons.injEq, and_true] at e4 hv
  obtain ⟨rfl, rfl⟩ := e4
  subst hv
  obtain ⟨A', n', c', B', m', d', e6, hl, hu⟩ := ha
  simp only [Value.agg.injEq, Array.mk.injEq, List.cons.injEq, and_true, true_and, Value.slice.injEq] at e6
  obtain ⟨⟨rfl, rfl, rfl⟩, rfl, rfl, rfl⟩ := e6
  exact ⟨R, A, n, c, B, m, d, e1, e5, hB, hk, hl, hu⟩
end
theorem relPureS {P : Program} {o : Oper} {A : Act} {w : World} {S : Value → World → Prop} {Q : Exit → Act → World → Prop} {ρ : Operand → Value} (hρ : A.eval = ρ) (v : Value) (h : (execOp ρ o).run P w = .ok (.value v) w) (hS : S v w) :
    o.wp P A w (fun A' w' => ∃ v, A' = A.put o.dst v ∧ S v w') Q := by
  subst hρ
  unfold Oper.wp
  rw [h]
  exact ⟨v, rfl, hS⟩
theorem relValS {P : Program} {o : Oper} {A : Act} {w : World} {S : Value → World → Prop} {Q : Exit → Act → World → Prop} {ρ : Operand → Value} (hρ : A.eval = ρ) (v : Value) (w' : World) (h : (execOp ρ o).run P w = .ok (.value v) w') (hS : S v w') :
    o.wp P A w (fun A' w' => ∃ v, A' = A.put o.dst v ∧ S v w') Q := by
  subst hρ
  unfold Oper.wp
  rw [h]
  exact ⟨v, rfl, hS⟩
theorem relCallS {P : Program} {o : Oper} {A : Act} {w : World} {S : Value → World → Prop} {Q : Exit → Act → World → Prop} {ρ : Operand → Value} (hρ : A.eval = ρ) (f : FuncId) (args : Array Value) (h : (execOp ρ o).run P w = .ok (.enter f args) w)
    (hc : Calls P f args w fun e w' => ∃ v, e = .returned v ∧ S v w') :
    o.wp P A w (fun A' w' => ∃ v, A' = A.put o.dst v ∧ S v w') Q := by
  subst hρ
  unfold Oper.wp
  rw [h]
  refine hc.mono ?_
  rintro e w' ⟨v, rfl, hS⟩
  exact ⟨v, rfl, hS⟩
theorem okx_tup {k : Nat} {X : AT} {b : Bool} {B0 : Nat} {D : Nat → Bool} {u : Nat → Value} {w : World} (h : OkX k X b B0 D u w) (hd : D k = true) : ∃ A n c B m d, u k = .tuple #[atV X.has X.org A n c X.hop X.med X.pref X.aas X.aid B m d, .bool b] := by
  cases h4 : D (k + 4) with
  | false =>
    obtain ⟨A, n, c, xs, B, m, d, e, _⟩ := h.c0 hd h4
    exact ⟨A, n, c, B, m, d, e⟩
  | true =>
    obtain ⟨R, _, _, _, hm⟩ := h.c4 h4
    obtain ⟨A, n, c, xs, B, m, d, e, _⟩ := hm hd
    exact ⟨A, n, c, B, m, d, e⟩
set_option maxHeartbeats 1000000 in
theorem storeA {w : World} {R : Nat} {h o : Int} {A : Option Addr} {n c : Nat} {hp md pf aa ai : Int} {B : Option Addr} {m d : Nat} (hk : Blk w R 40 zeroC) :
    (Instr.storeAt 40 (.pointer (some ⟨R, 0, none⟩)) (atV h o A n c hp md pf aa ai B m d)).run Tryz.prog w = .ok () (w.setCells R 0 [.int .i64 h, .int .i64 o, .slice A n c, .int .u32 hp, .int .u32 md, .int .u32 pf, .int .u32 aa, .int .u32 ai, .slice B m d]) := by
  obtain ⟨z0, z1, z2, z3, z4, z5, z6, z7, z8⟩ := blk9 hk
  have zf := fun i => hk.frozen i
  simp [go_sem, z0, z1, z2, z3, z4, z5, z6, z7, z8, zf, World.setCells]
/-- Relations that say nothing of the world. -/
def AllFlat : List (Value → World → Prop) → Prop
  | [] => True
  | R :: r => (∀ (v : Value) (w w' : World), R v w → R v w') ∧ AllFlat r
theorem relFlat : ∀ (Rs : List (Value → World → Prop)) (_ : AllFlat Rs) (i : Nat) (v : Value) (w w' : World), relAt Rs i v w → relAt Rs i v w'
  | [], _, i, v, w, w', h => by unfold relAt; simp
  | R :: r, h, 0, v, w, w', hr => h.1 v w w' hr
  | R :: r, h, i + 1, v, w, w', hr => relFlat r h.2 i v w w' hr
end Go.Proofs.YtplhnhoijficgaaGreat
set_option linter.unusedSimpArgs false
set_option linter.unusedVariables false
namespace Go.Proofs.YtplhnhoijficgaaGreat
open Go.RowKit Go.WideShapes Go.ChangeShapes
attribute [local go_sem] Oper.semAt_some
set_option maxRecDepth 100000 in
set_option maxHeartbeats 8000000 in
theorem exOf_any (cas : Nat) (hcas : cas < 4294967296) (x : CF) (hx : x.asn = (cas : Int)) (y : PE) (r : RT) (hloc : r.loc = true) (hm0 : r.m = 0) (hn0 : r.n = 0) (hcc : r.c ≤ maxLen) (hdd : r.d ≤ maxLen) (hp0 : r.at_.path = []) (hc0 : r.at_.comms = []) (hh : attB r.at_.has 8 = false) (hex : y.ex = ⟨#[]⟩) (w : World) :
    Calls Tryz.prog 26 #[.agg (cfC x), .agg (peC y), .agg (rtV r)] w (EvP (wireA cas x.id y.asn true r.at_.has r.at_.med (normA r.at_)) true w) := by
  obtain ⟨w1, hw1⟩ : ∃ w1, ((((w.alloc (.cells (cfC x) 35)).alloc (.cells (peC y) 48)).alloc (.cells (rtV r) 42)).alloc (.cells zeroC 40)) = w1 := ⟨_, rfl⟩
  have hb1 : Below w.heap.size w w1 := hw1 ▸ (blkBelow3 w _ _ _).alloc (by simp; omega) _
  have HKc0 : Hid (Blk w1 w.heap.size 35 (cfC x)) := hide (hw1 ▸ (((Blk.new w _ _).alloc _).alloc _).alloc _)
  have HKp0 : Hid (Blk w1 (w.heap.size + 1) 48 (peC y)) := hide (hw1 ▸ ((blk_new' _ _ (by simp)).alloc _).alloc _)
  have HKr0 : Hid (Blk w1 (w.heap.size + 1 + 1) 42 (rtV r)) := hide (hw1 ▸ (blk_new' _ _ (by simp)).alloc _)
  have HKz0 : Hid (Blk w1 (w.heap.size + 1 + 1 + 1) 40 zeroC) := hide (hw1 ▸ blk_new' _ _ (by simp))
  have HBa := hide (barredOwn_any x y r hloc hm0 hh w1)
  have HXp : Hid ((normA r.at_).path = []) := hide (by show (if attB r.at_.has 2 then normS r.at_.path else []) = []; rw [hp0]; split <;> rfl)
  have HXc : Hid ((normA r.at_).comms = []) := hide (by show (if attB r.at_.has 8 then setOf r.at_.comms else []) = []; rw [hc0]; split <;> rfl)
  have HNp : Hid (numS r.at_.path ≤ 10000) := hide (by rw [hp0]; simp [numS])
  have HNc : Hid (r.at_.comms.length ≤ 10000) := hide (by rw [hc0]; simp)
  have HAt : Hid (∀ W : World, AtR W r.at_ (atV r.at_.has r.at_.org r.A r.n r.c r.at_.hop r.at_.med r.at_.pref r.at_.aas r.at_.aid r.B r.m r.d)) := hide (fun W => ⟨r.A, r.n, r.c, r.B, r.m, r.d, rfl, by rw [hp0, hn0]; exact ⟨rfl, Nat.zero_le _, hcc, fun h => absurd h (by omega)⟩, by rw [hc0, hm0]; exact ⟨rfl, Nat.zero_le _, hdd, by simp, fun h => absurd h (by omega)⟩⟩)
  have HEx := hide hex
  have HB1 := hide hb1
  have HW1 := hide hw1
  have HLoc := hide hloc
  have Hcas := hide hcas
  have Hx := hide hx
  clear hw1 hb1 hloc hm0 hn0 hcc hdd hp0 hc0 hh hex hcas hx
  go_enter Tryz.func26, Tryz.ntmps26
  go_wp2_with fail
  rw [HW1.out]
  refine HBa.out.mono ?_
  rintro e w2 ⟨rfl, hb⟩
  have HKc := hide (HKc0.out.below hb HKc0.out.lt)
  have HKp := hide (HKp0.out.below hb HKp0.out.lt)
  have HKr := hide (HKr0.out.below hb HKr0.out.lt)
  have HKz := hide (HKz0.out.below hb HKz0.out.lt)
  have HB2 := hide (HB1.out.trans (hb.mono HB1.out.size))
  clear hb HKc0 HKp0 HKr0 HKz0
  go_upto_region 3 with fail
  have Hmn := hide (show AllMono [(fun v _ => v = .pointer (some ⟨w.heap.size, 8, none⟩)), (fun v _ => v = .agg (liC x.L1 x.L2 x.L3 x.L4)), (fun v _ => v = .pointer (some ⟨w.heap.size + 1, 5, none⟩)), (fun v _ => v = .string ⟨#[]⟩), (fun v _ => v = .pointer (some ⟨w.heap.size + 1 + 1, 0, none⟩)), (fun v _ => v = .agg #[.int .u32 r.pa, .int .i64 r.pl]), (fun v _ => v = .pointer (some ⟨w.heap.size + 1 + 1, 2, none⟩)), (fun v _ => v = atV r.at_.has r.at_.org r.A r.n r.c r.at_.hop r.at_.med r.at_.pref r.at_.aas r.at_.aid r.B r.m r.d), (fun v _ => ∃ A c B d, v = atV (normA r.at_).has (normA r.at_).org A 0 c (normA r.at_).hop (normA r.at_).med (normA r.at_).pref (normA r.at_).aas (normA r.at_).aid B 0 d ∧ c ≤ maxLen ∧ d ≤ maxLen), (fun _ _ => True), (fun _ _ => True), (fun _ _ => True), (fun _ _ => True), (fun _ _ => True), (fun _ _ => True)] from ⟨fun _ _ _ _ h => h, fun _ _ _ _ h => h, fun _ _ _ _ h => h, fun _ _ _ _ h => h, fun _ _ _ _ h => h, fun _ _ _ _ h => h, fun _ _ _ _ h => h, fun _ _ _ _ h => h, fun _ _ _ _ h => h, fun _ _ _ _ _ => trivial, fun _ _ _ _ _ => trivial, fun _ _ _ _ _ => trivial, fun _ _ _ _ _ => trivial, fun _ _ _ _ _ => trivial, fun _ _ _ _ _ => trivial, trivial⟩)
  have Hfl := hide (show AllFlat [(fun v _ => v = .pointer (some ⟨w.heap.size, 8, none⟩)), (fun v _ => v = .agg (liC x.L1 x.L2 x.L3 x.L4)), (fun v _ => v = .pointer (some ⟨w.heap.size + 1, 5, none⟩)), (fun v _ => v = .string ⟨#[]⟩), (fun v _ => v = .pointer (some ⟨w.heap.size + 1 + 1, 0, none⟩)), (fun v _ => v = .agg #[.int .u32 r.pa, .int .i64 r.pl]), (fun v _ => v = .pointer (some ⟨w.heap.size + 1 + 1, 2, none⟩)), (fun v _ => v = atV r.at_.has r.at_.org r.A r.n r.c r.at_.hop r.at_.med r.at_.pref r.at_.aas r.at_.aid r.B r.m r.d), (fun v _ => ∃ A c B d, v = atV (normA r.at_).has (normA r.at_).org A 0 c (normA r.at_).hop (normA r.at_).med (normA r.at_).pref (normA r.at_).aas (normA r.at_).aid B 0 d ∧ c ≤ maxLen ∧ d ≤ maxLen), (fun _ _ => True), (fun _ _ => True), (fun _ _ => True), (fun _ _ => True), (fun _ _ => True), (fun _ _ => True)] from ⟨fun _ _ _ h => h, fun _ _ _ h => h, fun _ _ _ h => h, fun _ _ _ h => h, fun _ _ _ h => h, fun _ _ _ h => h, fun _ _ _ h => h, fun _ _ _ h => h, fun _ _ _ h => h, fun _ _ _ h => h, fun _ _ _ h => h, fun _ _ _ h => h, fun _ _ _ h => h, fun _ _ _ h => h, fun _ _ _ h => h, trivial⟩)
  refine wp_region_relX 15 w2.heap.size (Nat.le_refl _) [(fun v _ => v = .pointer (some ⟨w.heap.size, 8, none⟩)), (fun v _ => v = .agg (liC x.L1 x.L2 x.L3 x.L4)), (fun v _ => v = .pointer (some ⟨w.heap.size + 1, 5, none⟩)), (fun v _ => v = .string ⟨#[]⟩), (fun v _ => v = .pointer (some ⟨w.heap.size + 1 + 1, 0, none⟩)), (fun v _ => v = .agg #[.int .u32 r.pa, .int .i64 r.pl]), (fun v _ => v = .pointer (some ⟨w.heap.size + 1 + 1, 2, none⟩)), (fun v _ => v = atV r.at_.has r.at_.org r.A r.n r.c r.at_.hop r.at_.med r.at_.pref r.at_.aas r.at_.aid r.B r.m r.d), (fun v _ => ∃ A c B d, v = atV (normA r.at_).has (normA r.at_).org A 0 c (normA r.at_).hop (normA r.at_).med (normA r.at_).pref (normA r.at_).aas (normA r.at_).aid B 0 d ∧ c ≤ maxLen ∧ d ≤ maxLen), (fun _ _ => True), (fun _ _ => True), (fun _ _ => True), (fun _ _ => True), (fun _ _ => True), (fun _ _ => True)] (OkX 9 (normA r.at_) true w2.heap.size) (by kernel_rfl) (by kernel_rfl) (by kernel_rfl) (by kernel_rfl) (by kernel_rfl) (okx_start _ _) ⟨?_, ?_, ?_, ?_, ?_, ?_, ?_, ?_, ?_, ?_, ?_, ?_, ?_, ?_, ?_, trivial⟩ ?_
  · refine relX_plain rfl rfl Hmn.out (Nat.le_refl _) (fun D u v w w2 hb h => okx_other (by omega) v hb h) ?_
    intro Dn Ac w5 hp
    have hb := hp.bel
    have a3 : Ac.eval (.tmp 3) = .pointer (some ⟨w.heap.size, 0, none⟩) := hp.out 3 (by rfl)
    have hc := evalC Ac; have hf := evalF Ac; have hgl := evalG Ac
    obtain ⟨ρ, hρ⟩ : ∃ ρ, Ac.eval = ρ := ⟨_, rfl⟩
    rw [hρ] at a3 hc hf hgl
    exact relPure hρ (.pointer (some ⟨w.heap.size, 8, none⟩)) (by simp [go_sem, hc, hf, hgl, ↓IntWalk.iteOmega, a3, *]) rfl
  · refine relX_plain rfl rfl Hmn.out (Nat.le_refl _) (fun D u v w w2 hb h => okx_other (by omega) v hb h) ?_
    intro Dn Ac w5 hp
    have hb := hp.bel
    have a16 : Ac.eval (.tmp 16) = .pointer (some ⟨w.heap.size, 8, none⟩) := hp.dep 0 (by kernel_rfl)
    obtain ⟨x0, x1, x2, x3, x4, x5, x6, x7, x8, x9, x10, x11⟩ := blk12 (HKc.out.below hb HKc.out.lt)
    have hc := evalC Ac; have hf := evalF Ac; have hgl := evalG Ac
    obtain ⟨ρ, hρ⟩ : ∃ ρ, Ac.eval = ρ := ⟨_, rfl⟩
    rw [hρ] at a16 hc hf hgl
    exact relPure hρ (.agg (liC x.L1 x.L2 x.L3 x.L4)) (by simp [go_sem, hc, hf, hgl, ↓IntWalk.iteOmega, a16, *]) rfl
  · refine relX_plain rfl rfl Hmn.out (Nat.le_refl _) (fun D u v w w2 hb h => okx_other (by omega) v hb h) ?_
    intro Dn Ac w5 hp
    have hb := hp.bel
    have a4 : Ac.eval (.tmp 4) = .pointer (some ⟨w.heap.size + 1, 0, none⟩) := hp.out 4 (by rfl)
    have hc := evalC Ac; have hf := evalF Ac; have hgl := evalG Ac
    obtain ⟨ρ, hρ⟩ : ∃ ρ, Ac.eval = ρ := ⟨_, rfl⟩
    rw [hρ] at a4 hc hf hgl
    exact relPure hρ (.pointer (some ⟨w.heap.size + 1, 5, none⟩)) (by simp [go_sem, hc, hf, hgl, ↓IntWalk.iteOmega, a4, *]) rfl
  · refine relX_plain rfl rfl Hmn.out (Nat.le_refl _) (fun D u v w w2 hb h => okx_other (by omega) v hb h) ?_
    intro Dn Ac w5 hp
    have hb := hp.bel
    have a18 : Ac.eval (.tmp 18) = .pointer (some ⟨w.heap.size + 1, 5, none⟩) := hp.dep 2 (by kernel_rfl)
    obtain ⟨x0, x1, x2, x3, x4, x5, x6, x7, x8, x9, x10, x11⟩ := blk12 (HKp.out.below hb HKp.out.lt)
    rw [HEx.out] at x5
    have hc := evalC Ac; have hf := evalF Ac; have hgl := evalG Ac
    obtain ⟨ρ, hρ⟩ : ∃ ρ, Ac.eval = ρ := ⟨_, rfl⟩
    rw [hρ] at a18 hc hf hgl
    exact relPure hρ (.string ⟨#[]⟩) (by simp [go_sem, hc, hf, hgl, ↓IntWalk.iteOmega, a18, *]) rfl
  · refine relX_plain rfl rfl Hmn.out (Nat.le_refl _) (fun D u v w w2 hb h => okx_other (by omega) v hb h) ?_
    intro Dn Ac w5 hp
    have hb := hp.bel
    have a5 : Ac.eval (.tmp 5) = .pointer (some ⟨w.heap.size + 1 + 1, 0, none⟩) := hp.out 5 (by rfl)
    have hc := evalC Ac; have hf := evalF Ac; have hgl := evalG Ac
    obtain ⟨ρ, hρ⟩ : ∃ ρ, Ac.eval = ρ := ⟨_, rfl⟩
    rw [hρ] at a5 hc hf hgl
    exact relPure hρ (.pointer (some ⟨w.heap.size + 1 + 1, 0, none⟩)) (by simp [go_sem, hc, hf, hgl, ↓IntWalk.iteOmega, a5, *]) rfl
  · refine relX_plain rfl rfl Hmn.out (Nat.le_refl _) (fun D u v w w2 hb h => okx_other (by omega) v hb h) ?_
    intro Dn Ac w5 hp
    have hb := hp.bel
    have a20 : Ac.eval (.tmp 20) = .pointer (some ⟨w.heap.size + 1 + 1, 0, none⟩) := hp.dep 4 (by kernel_rfl)
    obtain ⟨x0, x1, x2, x3, x4, x5, x6, x7, x8, x9, x10, x11, x12, x13, x14, x15⟩ := blk16 (HKr.out.below hb HKr.out.lt)
    have hc := evalC Ac; have hf := evalF Ac; have hgl := evalG Ac
    obtain ⟨ρ, hρ⟩ : ∃ ρ, Ac.eval = ρ := ⟨_, rfl⟩
    rw [hρ] at a20 hc hf hgl
    exact relPure hρ (.agg #[.int .u32 r.pa, .int .i64 r.pl]) (by simp [go_sem, hc, hf, hgl, ↓IntWalk.iteOmega, a20, *]) rfl
  · refine relX_plain rfl rfl Hmn.out (Nat.le_refl _) (fun D u v w w2 hb h => okx_other (by omega) v hb h) ?_
    intro Dn Ac w5 hp
    have hb := hp.bel
    have a5 : Ac.eval (.tmp 5) = .pointer (some ⟨w.heap.size + 1 + 1, 0, none⟩) := hp.out 5 (by rfl)
    have hc := evalC Ac; have hf := evalF Ac; have hgl := evalG Ac
    obtain ⟨ρ, hρ⟩ : ∃ ρ, Ac.eval = ρ := ⟨_, rfl⟩
    rw [hρ] at a5 hc hf hgl
    exact relPure hρ (.pointer (some ⟨w.heap.size + 1 + 1, 2, none⟩)) (by simp [go_sem, hc, hf, hgl, ↓IntWalk.iteOmega, a5, *]) rfl
  · refine relX_plain rfl rfl Hmn.out (Nat.le_refl _) (fun D u v w w2 hb h => okx_other (by omega) v hb h) ?_
    intro Dn Ac w5 hp
    have hb := hp.bel
    have a22 : Ac.eval (.tmp 22) = .pointer (some ⟨w.heap.size + 1 + 1, 2, none⟩) := hp.dep 6 (by kernel_rfl)
    obtain ⟨x0, x1, x2, x3, x4, x5, x6, x7, x8, x9, x10, x11, x12, x13, x14, x15⟩ := blk16 (HKr.out.below hb HKr.out.lt)
    have hc := evalC Ac; have hf := evalF Ac; have hgl := evalG Ac
    obtain ⟨ρ, hρ⟩ : ∃ ρ, Ac.eval = ρ := ⟨_, rfl⟩
    rw [hρ] at a22 hc hf hgl
    exact relPure hρ (atV r.at_.has r.at_.org r.A r.n r.c r.at_.hop r.at_.med r.at_.pref r.at_.aas r.at_.aid r.B r.m r.d) (by simp [go_sem, hc, hf, hgl, ↓IntWalk.iteOmega, a22, *]) rfl
  · refine relX_plain rfl rfl Hmn.out (Nat.le_refl _) (fun D u v w w2 hb h => okx_other (by omega) v hb h) ?_
    intro Dn Ac w5 hp
    have hb := hp.bel
    have a23 : Ac.eval (.tmp 23) = atV r.at_.has r.at_.org r.A r.n r.c r.at_.hop r.at_.med r.at_.pref r.at_.aas r.at_.aid r.B r.m r.d := hp.dep 7 (by kernel_rfl)
    have hc := evalC Ac; have hf := evalF Ac; have hgl := evalG Ac
    obtain ⟨ρ, hρ⟩ : ∃ ρ, Ac.eval = ρ := ⟨_, rfl⟩
    rw [hρ] at a23 hc hf hgl
    refine relCall hρ 28 #[atV r.at_.has r.at_.org r.A r.n r.c r.at_.hop r.at_.med r.at_.pref r.at_.aas r.at_.aid r.B r.m r.d] (by simp [go_sem, hc, hf, hgl, ↓IntWalk.iteOmega, a23, *]) ?_
    refine (attrNormX_any r.at_ (atV r.at_.has r.at_.org r.A r.n r.c r.at_.hop r.at_.med r.at_.pref r.at_.aas r.at_.aid r.B r.m r.d) w5 (HAt.out w5) HNp.out HNc.out).mono ?_
    rintro e w6 ⟨v6, rfl, ho6, hb6⟩
    obtain ⟨A6, n6, c6, xs6, B6, m6, d6, rfl, hl6, hu6⟩ := ho6
    have hn6 := (hl6.lst (by decide)).1
    have hm6 := hu6.here.1
    rw [HXp.out] at hn6
    rw [HXc.out] at hm6
    obtain rfl : n6 = 0 := hn6.symm
    obtain rfl : m6 = 0 := hm6.symm
    exact ⟨_, rfl, ⟨A6, c6, B6, d6, rfl, (hl6.lst (by decide)).2.2.1, hu6.here.2.2.1⟩, hb6⟩
  · refine relX_op rfl rfl Hmn.out (Nat.le_refl _) ?_
    intro D Ac w5 hp
    have hb := hp.bel
    have a17 : Ac.eval (.tmp 17) = .agg (liC x.L1 x.L2 x.L3 x.L4) := hp.dep 1 (by kernel_rfl)
    have a19 : Ac.eval (.tmp 19) = .string ⟨#[]⟩ := hp.dep 3 (by kernel_rfl)
    have a21 : Ac.eval (.tmp 21) = .agg #[.int .u32 r.pa, .int .i64 r.pl] := hp.dep 5 (by kernel_rfl)
    obtain ⟨A24, c24, B24, d24, a24, hc24, hd24⟩ := hp.dep 8 (by kernel_rfl)
    change Ac.eval (.tmp 24) = _ at a24
    have hx := hp.ext
    have hno := hp.no
    have hc := evalC Ac; have hf := evalF Ac; have hgl := evalG Ac
    obtain ⟨ρ, hρ⟩ : ∃ ρ, Ac.eval = ρ := ⟨_, rfl⟩
    rw [hρ] at a17 a19 a21 a24 hc hf hgl
    refine relCallS hρ 38 #[.agg (liC x.L1 x.L2 x.L3 x.L4), .string ⟨#[]⟩, .agg #[.int .u32 r.pa, .int .i64 r.pl], atV (normA r.at_).has (normA r.at_).org A24 0 c24 (normA r.at_).hop (normA r.at_).med (normA r.at_).pref (normA r.at_).aas (normA r.at_).aid B24 0 d24] (by simp [go_sem, hc, hf, hgl, ↓IntWalk.iteOmega, a17, a19, a21, a24, *]) ?_
    refine (EvalE0_any x.L1 x.L2 x.L3 x.L4 r.pa r.pl (normA r.at_) HXp.out HXc.out _ w5 ⟨A24, 0, c24, B24, 0, d24, rfl, by rw [HXp.out]; exact ⟨rfl, Nat.zero_le _, hc24, fun h => absurd h (by omega)⟩, by rw [HXc.out]; exact ⟨rfl, Nat.zero_le _, hd24, by simp, fun h => absurd h (by omega)⟩⟩).mono ?_
    rintro e w6 ⟨v6, rfl, ho6, hb6⟩
    exact ⟨_, rfl, trivial, hb6, okx_call hx hno hb6 ho6⟩
  · refine relX_op rfl rfl Hmn.out (Nat.le_refl _) ?_
    intro D Ac w5 hp
    have hd : D 9 = true := hp.dn 9 (by kernel_rfl)
    obtain ⟨ρ, hρ⟩ : ∃ ρ, Ac.eval = ρ := ⟨_, rfl⟩
    refine relPureS hρ (Ac.eval (.tmp 25)) (by rw [hρ]; simp [go_sem]) ⟨trivial, Below.refl _ _, ?_⟩
    exact okx_move hp.ext hd
  · refine relX_op rfl rfl Hmn.out (Nat.le_refl _) ?_
    intro D Ac w5 hp
    have hd1 : D 10 = true := hp.dn 10 (by kernel_rfl)
    have hd := hp.ext.d1 hd1
    obtain ⟨A6, n6, c6, B6, m6, d6, hu6⟩ := okx_tup hp.ext hd
    have hu7 := (hp.ext.c1 hd1).trans hu6
    change Ac.eval (.tmp 15) = _ at hu7
    have hx := hp.ext
    obtain ⟨ρ, hρ⟩ : ∃ ρ, Ac.eval = ρ := ⟨_, rfl⟩
    rw [hρ] at hu7
    refine relPureS hρ _ (by simp [go_sem, hu7]) ⟨trivial, Below.refl _ _, okx_ext0 hx hd hu6⟩
  · refine relX_op rfl rfl Hmn.out (Nat.le_refl _) ?_
    intro D Ac w5 hp
    have hd1 : D 10 = true := hp.dn 10 (by kernel_rfl)
    have hd := hp.ext.d1 hd1
    obtain ⟨A6, n6, c6, B6, m6, d6, hu6⟩ := okx_tup hp.ext hd
    have hu7 := (hp.ext.c1 hd1).trans hu6
    change Ac.eval (.tmp 15) = _ at hu7
    have hx := hp.ext
    obtain ⟨ρ, hρ⟩ : ∃ ρ, Ac.eval = ρ := ⟨_, rfl⟩
    rw [hρ] at hu7
    refine relPureS hρ _ (by simp [go_sem, hu7]) ⟨trivial, Below.refl _ _, okx_ext1 hx hd hu6⟩
  · refine relX_op rfl rfl Hmn.out (Nat.le_refl _) ?_
    intro D Ac w5 hp
    obtain ⟨ρ, hρ⟩ : ∃ ρ, Ac.eval = ρ := ⟨_, rfl⟩
    refine relValS hρ (.pointer (some ⟨w5.heap.size, 0, none⟩)) (w5.alloc (.cells zeroC 40)) (by simp [go_sem]) ⟨trivial, (Below.refl _ _).alloc (Nat.le_refl _) _, okx_alloc hp.ext hp.no hp.bel.size⟩
  · refine relX_store rfl ?_
    intro D Ac w5 hp
    have hd4 : D 13 = true := hp.dn 13 (by kernel_rfl)
    have hd2 : D 11 = true := hp.dn 11 (by kernel_rfl)
    have hd := hp.ext.d2 hd2
    obtain ⟨A6, n6, c6, B6, m6, d6, hu6⟩ := okx_tup hp.ext hd
    obtain ⟨y6, z6, hy, hv⟩ := hp.ext.c2 hd2
    rw [hu6] at hy
    simp only [Value.tuple.injEq, Array.mk.injEq, List.cons.injEq, and_true] at hy
    obtain ⟨rfl, rfl⟩ := hy
    obtain ⟨R6, hR6, hB6, ⟨cs6, hk6, hz6⟩, _⟩ := hp.ext.c4 hd4
    obtain rfl := hz6 hp.no
    have hpt := hR6
    change Ac.eval (.tmp 8) = _ at hpt
    change Ac.eval (.tmp 26) = _ at hv
    exact ⟨_, .inl (exec_store rfl hpt hv (storeA hk6)), trivial, below_sets _ 0 (Below.refl _ _) hB6, fun j _ hj => relFlat _ Hfl.out _ _ _ _ (hp.has j hj), okx_store hp.ext hd hd4 hR6 hp.no hu6⟩
  intro u w7 hb7 hall hox
  obtain ⟨R9, A9, n9, c9, B9, m9, d9, hp9, hb9, hB9, hk9, hl9, hu9⟩ := okx_fin hox (by decide) (by decide) (by decide) (by decide) (by decide)
  change u 13 = _ at hp9
  change u 12 = _ at hb9
  clear hall
  simp only [List.drop_succ_cons, List.drop_zero, List.take_succ_cons, List.take_zero, putAll, Act.put, List.setIfInBounds_toArray, List.set_cons_zero, List.set_cons_succ, Nat.zero_add, Nat.reduceAdd, hp9, hb9]
  have HK9 := hide hk9
  have HAt9 := hide (show AtR w7 (normA r.at_) (atV (normA r.at_).has (normA r.at_).org A9 n9 c9 (normA r.at_).hop (normA r.at_).med (normA r.at_).pref (normA r.at_).aas (normA r.at_).aid B9 m9 d9) from ⟨A9, n9, c9, B9, m9, d9, rfl, hl9, hu9⟩)
  have HKc7 := hide (HKc.out.below hb7 HKc.out.lt)
  have HKp7 := hide (HKp.out.below hb7 HKp.out.lt)
  have HKr7 := hide (HKr.out.below hb7 HKr.out.lt)
  have HKz7 := hide (HKz.out.below hb7 HKz.out.lt)
  have HB7 := hide (HB2.out.trans (hb7.mono HB2.out.size))
  have HWi := hide (exWire_any cas Hcas.out x Hx.out y r (normA r.at_) _ w7 HAt9.out (by rw [HXp.out]; simp [numS]) (by rw [HXc.out]; simp))
  rw [HLoc.out] at HWi
  obtain ⟨RES, hRES⟩ : ∃ R, wireA cas x.id y.asn true r.at_.has r.at_.med (normA r.at_) = R := ⟨_, rfl⟩
  rw [hRES] at HWi
  have HRES := hide hRES
  clear hox hk9 hl9 hu9 hp9 hb9 hB9 hb7 hRES
  obtain ⟨XH, hXH⟩ : ∃ X, normA r.at_ = X := ⟨_, rfl⟩
  rw [hXH] at HK9 HWi
  clear hXH
  obtain ⟨a0, a1, a2, a3, a4, a5, a6, a7, a8⟩ := blk9 HK9.out
  obtain ⟨c0, c1, c2, c3, c4, c5, c6, c7, c8, c9_, c10, c11⟩ := blk12 HKc7.out
  obtain ⟨p0, p1, p2, p3, p4, p5, p6, p7, p8, p9, p10, p11⟩ := blk12 HKp7.out
  obtain ⟨r0, r1, r2, r3, r4, r5, r6, r7, r8, r9, r10, r11, r12, r13, r14, r15⟩ := blk16 HKr7.out
  go_wp2_with fail
  refine HWi.out.mono ?_
  rintro e w8 ⟨v8, rfl, ho, hb⟩
  obtain ⟨A1, n1, c1', xs1, B1, m1, d1, rfl, hl, hu⟩ := ho
  have hlt : w.heap.size + 1 + 1 + 1 < w7.heap.size := HKz7.out.lt
  have HK1 := hide (HKz7.out.below hb hlt)
  have HB1 := hide (HB7.out.trans (hb.mono HB7.out.size))
  have HO := hide (show AtO w7.heap.size w8 RES (atV RES.has RES.org A1 n1 c1' RES.hop RES.med RES.pref RES.aas RES.aid B1 m1 d1) from ⟨A1, n1, c1', xs1, B1, m1, d1, rfl, hl, hu⟩)
  clear hl hu hb a0 a1 a2 a3 a4 a5 a6 a7 a8 c0 c1 c2 c3 c4 c5 c6 c7 c8 c9_ c10 c11 p0 p1 p2 p3 p4 p5 p6 p7 p8 p9 p10 p11 r0 r1 r2 r3 r4 r5 r6 r7 r8 r9 r10 r11 r12 r13 r14 r15
  obtain ⟨z0, z1, z2, z3, z4, z5, z6, z7, z8⟩ := blk9 HK1.out
  have zf := fun i => HK1.out.frozen i
  go_wp2
  change bodyPost _ _ _ _ _ (w8.setCells (w.heap.size + 1 + 1 + 1) 0 [.int .i64 RES.has, .int .i64 RES.org, .slice A1 n1 c1', .int .u32 RES.hop, .int .u32 RES.med, .int .u32 RES.pref, .int .u32 RES.aas, .int .u32 RES.aid, .slice B1 m1 d1])
  obtain ⟨wF, hwF⟩ : ∃ x, w8.setCells (w.heap.size + 1 + 1 + 1) 0 [.int .i64 RES.has, .int .i64 RES.org, .slice A1 n1 c1', .int .u32 RES.hop, .int .u32 RES.med, .int .u32 RES.pref, .int .u32 RES.aas, .int .u32 RES.aid, .slice B1 m1 d1] = x := ⟨_, rfl⟩
  have HFk := hide (hwF ▸ blk9_set HK1.out : Blk wF (w.heap.size + 1 + 1 + 1) 40 (atC RES.has RES.org A1 n1 c1' RES.hop RES.med RES.pref RES.aas RES.aid B1 m1 d1))
  have HFo := hide (hwF ▸ AtO.sets _ 0 HO.out hlt : AtO w7.heap.size wF RES (atV RES.has RES.org A1 n1 c1' RES.hop RES.med RES.pref RES.aas RES.aid B1 m1 d1))
  have HFb := hide (hwF ▸ below_sets _ 0 HB1.out (by omega) : Below w.heap.size w wF)
  rw [hwF]
  clear hwF z0 z1 z2 z3 z4 z5 z6 z7 z8 zf
  obtain ⟨z0, z1, z2, z3, z4, z5, z6, z7, z8⟩ := blk9 HFk.out
  exact bodyPost_ret (v := .tuple #[atV RES.has RES.org A1 n1 c1' RES.hop RES.med RES.pref RES.aas RES.aid B1 m1 d1, .bool true]) (by simp [results, Tryz.results26, go_sem, z0, z1, z2, z3, z4, z5, z6, z7, z8]) rfl ⟨_, rfl, by rw [HRES.out]; exact HFo.out.less (b' := w.heap.size) (by omega), HFb.out⟩
set_option maxRecDepth 100000 in
set_option maxHeartbeats 8000000 in
theorem exOfX_any (cas : Nat) (hcas : cas < 4294967296) (x : CF) (hx : x.asn = (cas : Int)) (y : PE) (r : RT) (hloc : r.loc = true) (hm0 : r.m = 0) (hn0 : r.n = 0) (hcc : r.c ≤ maxLen) (hdd : r.d ≤ maxLen) (hp0 : r.at_.path = []) (hc0 : r.at_.comms = []) (hh : attB r.at_.has 8 = false) (hex : y.ex = ⟨#[]⟩) (w : World) :
    Calls Tryz.prog 16 #[.agg (cfC x), .agg (peC y), .agg (rtV r)] w (EvP (wireA cas x.id y.asn true r.at_.has r.at_.med (normA r.at_)) true w) := by
  obtain ⟨w1, hw1⟩ : ∃ w1, ((((w.alloc (.cells (cfC x) 35)).alloc (.cells (peC y) 48)).alloc (.cells (rtV r) 42)).alloc (.cells zeroC 40)) = w1 := ⟨_, rfl⟩
  have HB1 : Hid (Below w.heap.size w w1) := hide (hw1 ▸ (blkBelow3 w _ _ _).alloc (by simp; omega) _)
  have HKz : Hid (Blk w1 (w.heap.size + 1 + 1 + 1) 40 zeroC) := hide (hw1 ▸ blk_new' _ _ (by simp))
  have HOf := hide (exOf_any cas hcas x hx y r hloc hm0 hn0 hcc hdd hp0 hc0 hh hex w1)
  have HW1 := hide hw1
  obtain ⟨RES, hRES⟩ : ∃ R, wireA cas x.id y.asn true r.at_.has r.at_.med (normA r.at_) = R := ⟨_, rfl⟩
  rw [hRES] at HOf ⊢
  clear hw1 hcas hx hloc hm0 hn0 hcc hdd hp0 hc0 hh hex hRES
  go_enter Tryz.func16, Tryz.ntmps16
  go_wp2_with fail
  rw [HW1.out]
  refine HOf.out.mono ?_
  rintro e w8 ⟨v8, rfl, ho, hb⟩
  obtain ⟨A1, n1, c1', xs1, B1, m1, d1, rfl, hl, hu⟩ := ho
  have hlt : w.heap.size + 1 + 1 + 1 < w1.heap.size := HKz.out.lt
  have HK1 := hide (HKz.out.below hb hlt)
  have HB2 := hide (HB1.out.trans (hb.mono HB1.out.size))
  have HO := hide (show AtO w1.heap.size w8 RES (atV RES.has RES.org A1 n1 c1' RES.hop RES.med RES.pref RES.aas RES.aid B1 m1 d1) from ⟨A1, n1, c1', xs1, B1, m1, d1, rfl, hl, hu⟩)
  clear hl hu hb
  obtain ⟨z0, z1, z2, z3, z4, z5, z6, z7, z8⟩ := blk9 HK1.out
  have zf := fun i => HK1.out.frozen i
  go_wp2
  change bodyPost _ _ _ _ _ (w8.setCells (w.heap.size + 1 + 1 + 1) 0 [.int .i64 RES.has, .int .i64 RES.org, .slice A1 n1 c1', .int .u32 RES.hop, .int .u32 RES.med, .int .u32 RES.pref, .int .u32 RES.aas, .int .u32 RES.aid, .slice B1 m1 d1])
  obtain ⟨wF, hwF⟩ : ∃ x, w8.setCells (w.heap.size + 1 + 1 + 1) 0 [.int .i64 RES.has, .int .i64 RES.org, .slice A1 n1 c1', .int .u32 RES.hop, .int .u32 RES.med, .int .u32 RES.pref, .int .u32 RES.aas, .int .u32 RES.aid, .slice B1 m1 d1] = x := ⟨_, rfl⟩
  have HFk := hide (hwF ▸ blk9_set HK1.out : Blk wF (w.heap.size + 1 + 1 + 1) 40 (atC RES.has RES.org A1 n1 c1' RES.hop RES.med RES.pref RES.aas RES.aid B1 m1 d1))
  have HFo := hide (hwF ▸ AtO.sets _ 0 HO.out hlt : AtO w1.heap.size wF RES (atV RES.has RES.org A1 n1 c1' RES.hop RES.med RES.pref RES.aas RES.aid B1 m1 d1))
  have HFb := hide (hwF ▸ below_sets _ 0 HB2.out (by omega) : Below w.heap.size w wF)
  rw [hwF]
  clear hwF z0 z1 z2 z3 z4 z5 z6 z7 z8 zf
  obtain ⟨z0, z1, z2, z3, z4, z5, z6, z7, z8⟩ := blk9 HFk.out
  exact bodyPost_ret (v := .tuple #[atV RES.has RES.org A1 n1 c1' RES.hop RES.med RES.pref RES.aas RES.aid B1 m1 d1, .bool true]) (by simp [results, Tryz.results16, go_sem, z0, z1, z2, z3, z4, z5, z6, z7, z8]) rfl ⟨_, rfl, HFo.out.less (b' := w.heap.size) (by omega), HFb.out⟩
end Go.Proofs.YtplhnhoijficgaaGreat
set_option linter.unusedSimpArgs false
set_option linter.unusedVariables false
namespace Go.Proofs.YtplhnhoijficgaaGreat
open Go.RowKit Go.WideShapes Go.ChangeShapes
attribute [local go_sem] Oper.semAt_some
def lvX : CF := ⟨65000, 7, 0, 0, 0, (none, 0, 0), (none, 0, 0), (none, 0, 0), (none, 0, 0), (none, 0, 0), (none, 0, 0), (none, 0, 0)⟩
def lvY : PE := ⟨5, 65001, 0, false, ⟨#[]⟩, ⟨#[]⟩, ⟨#[]⟩, false, ⟨#[]⟩, ⟨#[]⟩, ⟨#[]⟩, false⟩
def lvY2 : PE := ⟨0, 65000, 0, false, ⟨#[]⟩, ⟨#[]⟩, ⟨#[]⟩, false, ⟨#[]⟩, ⟨#[]⟩, ⟨#[]⟩, false⟩
def lvR : RT := ⟨0, 0, ownA 7, none, 0, 0, none, 0, 0, 7, 65000, 7, false, true⟩
def lvA : AT := wireA 65000 7 65001 true 14 0 (normA (ownA 7))
theorem lvA_path : lvA.path = [⟨2, [65000]⟩] := by kernel_rfl
theorem lvA_hop : lvA.hop = 7 := by decide +kernel
set_option maxRecDepth 100000 in
set_option maxHeartbeats 8000000 in
theorem lives34_any (w : World) : Calls Tryz.prog 9 #[] w (GoodP true w) := by
  obtain ⟨w1, hw1⟩ : ∃ w1, w.alloc (.cells (cfC lvX) 35) = w1 := ⟨_, rfl⟩
  have HB1 : Hid (Below w.heap.size w w1) := hide (hw1 ▸ (Below.refl _ w).alloc (Nat.le_refl _) _)
  have HKc : Hid (Blk w1 w.heap.size 35 (cfC lvX)) := hide (hw1 ▸ Blk.new w _ _)
  have HW1 := hide hw1
  clear hw1
  go_enter Tryz.func9, Tryz.ntmps9
  go_upto_region 2 with fail
  change Code.wp _ _ _ _ (w.alloc (.cells (cfC lvX) 35))
  rw [HW1.out]
  have Hmn := hide (show AllMono [(fun v _ => v = .agg (cfC lvX)), (fun v _ => v = .agg (peC lvY)), (fun v _ => v = .agg (cfC lvX)), (fun v _ => v = .agg #[.int .u32 0, .int .i64 0]), (fun v _ => v = .agg (rtV lvR)), (fun _ _ => True), (fun _ _ => True), (fun _ _ => True), (fun _ _ => True), (fun _ _ => True), (fun _ _ => True)] from ⟨fun _ _ _ _ h => h, fun _ _ _ _ h => h, fun _ _ _ _ h => h, fun _ _ _ _ h => h, fun _ _ _ _ h => h, fun _ _ _ _ _ => trivial, fun _ _ _ _ _ => trivial, fun _ _ _ _ _ => trivial, fun _ _ _ _ _ => trivial, fun _ _ _ _ _ => trivial, fun _ _ _ _ _ => trivial, trivial⟩)
  have Hfl := hide (show AllFlat [(fun v _ => v = .agg (cfC lvX)), (fun v _ => v = .agg (peC lvY)), (fun v _ => v = .agg (cfC lvX)), (fun v _ => v = .agg #[.int .u32 0, .int .i64 0]), (fun v _ => v = .agg (rtV lvR)), (fun _ _ => True), (fun _ _ => True), (fun _ _ => True), (fun _ _ => True), (fun _ _ => True), (fun _ _ => True)] from ⟨fun _ _ _ h => h, fun _ _ _ h => h, fun _ _ _ h => h, fun _ _ _ h => h, fun _ _ _ h => h, fun _ _ _ h => h, fun _ _ _ h => h, fun _ _ _ h => h, fun _ _ _ h => h, fun _ _ _ h => h, fun _ _ _ h => h, trivial⟩)
  refine wp_region_relX 11 w1.heap.size (Nat.le_refl _) [(fun v _ => v = .agg (cfC lvX)), (fun v _ => v = .agg (peC lvY)), (fun v _ => v = .agg (cfC lvX)), (fun v _ => v = .agg #[.int .u32 0, .int .i64 0]), (fun v _ => v = .agg (rtV lvR)), (fun _ _ => True), (fun _ _ => True), (fun _ _ => True), (fun _ _ => True), (fun _ _ => True), (fun _ _ => True)] (OkX 5 lvA true w1.heap.size) (by kernel_rfl) (by kernel_rfl) (by kernel_rfl) (by kernel_rfl) (by kernel_rfl) (okx_start _ _) ⟨?_, ?_, ?_, ?_, ?_, ?_, ?_, ?_, ?_, ?_, ?_, trivial⟩ ?_
  · refine relX_plain rfl rfl Hmn.out (Nat.le_refl _) (fun D u v w w2 hb h => okx_other (by omega) v hb h) ?_
    intro Dn Ac w5 hp
    have hb := hp.bel
    have a1 : Ac.eval (.tmp 1) = .pointer (some ⟨w.heap.size, 0, none⟩) := hp.out 1 (by rfl)
    obtain ⟨x0, x1, x2, x3, x4, x5, x6, x7, x8, x9, x10, x11⟩ := blk12 (HKc.out.below hb HKc.out.lt)
    simp only [lvX] at x0 x1 x2 x3 x4 x5 x6 x7 x8 x9 x10 x11
    have hc := evalC Ac; have hf := evalF Ac; have hgl := evalG Ac
    obtain ⟨ρ, hρ⟩ : ∃ ρ, Ac.eval = ρ := ⟨_, rfl⟩
    rw [hρ] at a1 hc hf hgl
    exact relPure hρ (.agg (cfC lvX)) (by simp [go_sem, hc, hf, hgl, ↓IntWalk.iteOmega, a1, lvX, lvY, *]) rfl
  · refine relX_plain rfl rfl Hmn.out (Nat.le_refl _) (fun D u v w w2 hb h => okx_other (by omega) v hb h) ?_
    intro Dn Ac w5 hp
    have hb := hp.bel
    have hc := evalC Ac; have hf := evalF Ac; have hgl := evalG Ac
    obtain ⟨ρ, hρ⟩ : ∃ ρ, Ac.eval = ρ := ⟨_, rfl⟩
    rw [hρ] at hc hf hgl
    exact relPure hρ (.agg (peC lvY)) (by simp [go_sem, hc, hf, hgl, ↓IntWalk.iteOmega, lvX, lvY, *]) rfl
  · refine relX_plain rfl rfl Hmn.out (Nat.le_refl _) (fun D u v w w2 hb h => okx_other (by omega) v hb h) ?_
    intro Dn Ac w5 hp
    have hb := hp.bel
    have a1 : Ac.eval (.tmp 1) = .pointer (some ⟨w.heap.size, 0, none⟩) := hp.out 1 (by rfl)
    obtain ⟨x0, x1, x2, x3, x4, x5, x6, x7, x8, x9, x10, x11⟩ := blk12 (HKc.out.below hb HKc.out.lt)
    simp only [lvX] at x0 x1 x2 x3 x4 x5 x6 x7 x8 x9 x10 x11
    have hc := evalC Ac; have hf := evalF Ac; have hgl := evalG Ac
    obtain ⟨ρ, hρ⟩ : ∃ ρ, Ac.eval = ρ := ⟨_, rfl⟩
    rw [hρ] at a1 hc hf hgl
    exact relPure hρ (.agg (cfC lvX)) (by simp [go_sem, hc, hf, hgl, ↓IntWalk.iteOmega, a1, lvX, lvY, *]) rfl
  · refine relX_plain rfl rfl Hmn.out (Nat.le_refl _) (fun D u v w w2 hb h => okx_other (by omega) v hb h) ?_
    intro Dn Ac w5 hp
    have hb := hp.bel
    have hc := evalC Ac; have hf := evalF Ac; have hgl := evalG Ac
    obtain ⟨ρ, hρ⟩ : ∃ ρ, Ac.eval = ρ := ⟨_, rfl⟩
    rw [hρ] at hc hf hgl
    exact relPure hρ (.agg #[.int .u32 0, .int .i64 0]) (by simp [go_sem, hc, hf, hgl, ↓IntWalk.iteOmega, lvX, lvY, *]) rfl
  · refine relX_plain rfl rfl Hmn.out (Nat.le_refl _) (fun D u v w w2 hb h => okx_other (by omega) v hb h) ?_
    intro Dn Ac w5 hp
    have hb := hp.bel
    have a8 : Ac.eval (.tmp 8) = .agg (cfC lvX) := hp.dep 2 (by kernel_rfl)
    have a9 : Ac.eval (.tmp 9) = .agg #[.int .u32 0, .int .i64 0] := hp.dep 3 (by kernel_rfl)
    have hc := evalC Ac; have hf := evalF Ac; have hgl := evalG Ac
    obtain ⟨ρ, hρ⟩ : ∃ ρ, Ac.eval = ρ := ⟨_, rfl⟩
    rw [hρ] at a8 a9 hc hf hgl
    refine relCall hρ 6 #[.agg (cfC lvX), .agg #[.int .u32 0, .int .i64 0]] (by simp [go_sem, hc, hf, hgl, ↓IntWalk.iteOmega, a8, a9, lvX, lvY, *]) ?_
    refine (exLocalX_any lvX 0 0 w5).mono ?_
    rintro e w6 ⟨rfl, hb6⟩
    exact ⟨_, rfl, rfl, hb6⟩
  · refine relX_op rfl rfl Hmn.out (Nat.le_refl _) ?_
    intro D Ac w5 hp
    have hb := hp.bel
    have a6 : Ac.eval (.tmp 6) = .agg (cfC lvX) := hp.dep 0 (by kernel_rfl)
    have a7 : Ac.eval (.tmp 7) = .agg (peC lvY) := hp.dep 1 (by kernel_rfl)
    have a10 : Ac.eval (.tmp 10) = .agg (rtV lvR) := hp.dep 4 (by kernel_rfl)
    have hx := hp.ext
    have hno := hp.no
    have hc := evalC Ac; have hf := evalF Ac; have hgl := evalG Ac
    obtain ⟨ρ, hρ⟩ : ∃ ρ, Ac.eval = ρ := ⟨_, rfl⟩
    rw [hρ] at a6 a7 a10 hc hf hgl
    refine relCallS hρ 16 #[.agg (cfC lvX), .agg (peC lvY), .agg (rtV lvR)] (by simp [go_sem, hc, hf, hgl, ↓IntWalk.iteOmega, a6, a7, a10, *]) ?_
    refine (exOfX_any 65000 (by decide) lvX rfl lvY lvR rfl rfl rfl (Nat.zero_le _) (Nat.zero_le _) rfl rfl (by decide +kernel) rfl w5).mono ?_
    rintro e w6 ⟨v6, rfl, ho6, hb6⟩
    exact ⟨_, rfl, trivial, hb6, okx_call hx hno hb6 ho6⟩
  · refine relX_op rfl rfl Hmn.out (Nat.le_refl _) ?_
    intro D Ac w5 hp
    have hd : D 5 = true := hp.dn 5 (by kernel_rfl)
    obtain ⟨ρ, hρ⟩ : ∃ ρ, Ac.eval = ρ := ⟨_, rfl⟩
    refine relPureS hρ (Ac.eval (.tmp 11)) (by rw [hρ]; simp [go_sem]) ⟨trivial, Below.refl _ _, ?_⟩
    exact okx_move hp.ext hd
  · refine relX_op rfl rfl Hmn.out (Nat.le_refl _) ?_
    intro D Ac w5 hp
    have hd1 : D 6 = true := hp.dn 6 (by kernel_rfl)
    have hd := hp.ext.d1 hd1
    obtain ⟨A6, n6, c6, B6, m6, d6, hu6⟩ := okx_tup hp.ext hd
    have hu7 := (hp.ext.c1 hd1).trans hu6
    change Ac.eval (.tmp 5) = _ at hu7
    have hx := hp.ext
    obtain ⟨ρ, hρ⟩ : ∃ ρ, Ac.eval = ρ := ⟨_, rfl⟩
    rw [hρ] at hu7
    refine relPureS hρ _ (by simp [go_sem, hu7]) ⟨trivial, Below.refl _ _, okx_ext0 hx hd hu6⟩
  · refine relX_op rfl rfl Hmn.out (Nat.le_refl _) ?_
    intro D Ac w5 hp
    have hd1 : D 6 = true := hp.dn 6 (by kernel_rfl)
    have hd := hp.ext.d1 hd1
    obtain ⟨A6, n6, c6, B6, m6, d6, hu6⟩ := okx_tup hp.ext hd
    have hu7 := (hp.ext.c1 hd1).trans hu6
    change Ac.eval (.tmp 5) = _ at hu7
    have hx := hp.ext
    obtain ⟨ρ, hρ⟩ : ∃ ρ, Ac.eval = ρ := ⟨_, rfl⟩
    rw [hρ] at hu7
    refine relPureS hρ _ (by simp [go_sem, hu7]) ⟨trivial, Below.refl _ _, okx_ext1 hx hd hu6⟩
  · refine relX_op rfl rfl Hmn.out (Nat.le_refl _) ?_
    intro D Ac w5 hp
    obtain ⟨ρ, hρ⟩ : ∃ ρ, Ac.eval = ρ := ⟨_, rfl⟩
    refine relValS hρ (.pointer (some ⟨w5.heap.size, 0, none⟩)) (w5.alloc (.cells zeroC 40)) (by simp [go_sem]) ⟨trivial, (Below.refl _ _).alloc (Nat.le_refl _) _, okx_alloc hp.ext hp.no hp.bel.size⟩
  · refine relX_store rfl ?_
    intro D Ac w5 hp
    have hd4 : D 9 = true := hp.dn 9 (by kernel_rfl)
    have hd2 : D 7 = true := hp.dn 7 (by kernel_rfl)
    have hd := hp.ext.d2 hd2
    obtain ⟨A6, n6, c6, B6, m6, d6, hu6⟩ := okx_tup hp.ext hd
    obtain ⟨y6, z6, hy, hv⟩ := hp.ext.c2 hd2
    rw [hu6] at hy
    simp only [Value.tuple.injEq, Array.mk.injEq, List.cons.injEq, and_true] at hy
    obtain ⟨rfl, rfl⟩ := hy
    obtain ⟨R6, hR6, hB6, ⟨cs6, hk6, hz6⟩, _⟩ := hp.ext.c4 hd4
    obtain rfl := hz6 hp.no
    have hpt := hR6
    change Ac.eval (.tmp 2) = _ at hpt
    change Ac.eval (.tmp 12) = _ at hv
    exact ⟨_, .inl (exec_store rfl hpt hv (storeA hk6)), trivial, below_sets _ 0 (Below.refl _ _) hB6, fun j _ hj => relFlat _ Hfl.out _ _ _ _ (hp.has j hj), okx_store hp.ext hd hd4 hR6 hp.no hu6⟩
  intro u w7 hb7 hall hox
  obtain ⟨R9, A9, n9, c9, B9, m9, d9, hp9, hb9, hB9, hk9, hl9, hu9⟩ := okx_fin hox (by decide) (by decide) (by decide) (by decide) (by decide)
  change u 9 = _ at hp9
  change u 8 = _ at hb9
  clear hall
  simp only [List.drop_succ_cons, List.drop_zero, List.take_succ_cons, List.take_zero, putAll, Act.put, List.setIfInBounds_toArray, List.set_cons_zero, List.set_cons_succ, Nat.zero_add, Nat.reduceAdd, hp9, hb9]
  rw [lvA_path] at hl9
  obtain rfl : n9 = 1 := hl9.1.symm
  obtain ⟨g, o, b, Bq, m, d, r, rfl, hg, hx, hr, hc0, hc1⟩ := SGat hl9 (k := 0) (by omega)
  simp only [List.getElem?_cons_zero, Option.some.injEq, SG.mk.injEq] at hx
  obtain ⟨rfl, rfl⟩ := hx
  obtain rfl : m = 1 := hr.1.symm
  obtain ⟨g2, o2, y, hB, hg2, hy, hy2, hc2⟩ := hr.at_ (k := 0) (by omega)
  subst hB
  simp only [List.getElem?_cons_zero, Option.some.injEq] at hy
  subst hy
  simp only [Nat.zero_mul, Nat.add_zero] at hc1 hc2
  have p2 : w7.cell? ⟨R9, 2, none⟩ = some (.slice (some ⟨g, o, none⟩) 1 c9) := hk9.cell 2
  have p3 : w7.cell? ⟨R9, 3, none⟩ = some (.int .u32 7) := by rw [← lvA_hop]; exact hk9.cell 3
  have HB7 := hide (HB1.out.trans (hb7.mono HB1.out.size))
  have HKc7 := hide (HKc.out.below hb7 HKc.out.lt)
  obtain ⟨c0, c1, c2, c3, c4, c5, c6, c7, c8, c9', c10, c11⟩ := blk12 HKc7.out
  simp only [lvX] at c0 c1 c2 c3 c4 c5 c6 c7 c8 c9' c10 c11
  have HIn := hide (exInnerX_any lvX lvY2 w7)
  clear hox hk9 hl9 hu9 hp9 hb9 hB9 hb7 hc0 hr hg hg2 hy2
  go_wp2_with fail
  refine HIn.out.mono ?_
  rintro e w8 ⟨rfl, hb⟩
  have HB8 := hide (HB7.out.trans (hb.mono HB7.out.size))
  clear hb
  go_wp2
  go_ret
  exact ⟨by simp [lvX, lvY2], HB8.out⟩
end Go.Proofs.YtplhnhoijficgaaGreat
set_option linter.unusedSimpArgs false
set_option linter.unusedVariables false
namespace Go.Proofs.YtplhnhoijficgaaGreat
open Go.RowKit Go.WideShapes Go.ChangeShapes
attribute [local go_sem] Oper.semAt_some
set_option maxRecDepth 100000 in
set_option maxHeartbeats 8000000 in
theorem refLocal_any (x : CF) (pa pl : Int) (w : World) : Calls Tryz.prog 7 #[.agg (cfC x), .agg #[.int .u32 pa, .int .i64 pl]] w fun e w' => e = .returned (.agg (ownR x.asn x.id pa pl)) ∧ Below w.heap.size w w' := by
  have HB := hide (blkBelow3 w (.cells (cfC x) 35) (.cells #[.int .u32 pa, .int .i64 pl] 24) (.cells (ownR x.asn x.id pa pl) 42))
  go_enter Tryz.func7, Tryz.ntmps7
  go_wp2
  exact bodyPost_ret (v := .agg (ownR x.asn x.id pa pl)) (by simp [results, Tryz.results7, go_sem]) rfl ⟨rfl, HB.out⟩
set_option maxRecDepth 100000 in
set_option maxHeartbeats 8000000 in
theorem refAttrSame_eq (X : AT) (v v' : Value) (w : World) (hv : AtR w X v) (hv' : AtR w X v') (hn : X.path.length ≤ 100000) : Calls Tryz.prog 12 #[v, v'] w (GoodP true w) := by
  obtain ⟨A, n, c, B, m, d, rfl, hP, hC⟩ := hv
  obtain ⟨A2, n2, c2, B2, m2, d2, rfl, hP2, hC2⟩ := hv'
  obtain ⟨w1, hw1⟩ : ∃ w1, (w.alloc (.cells (atC X.has X.org A n c X.hop X.med X.pref X.aas X.aid B m d) 40)).alloc (.cells (atC X.has X.org A2 n2 c2 X.hop X.med X.pref X.aas X.aid B2 m2 d2) 40) = w1 := ⟨_, rfl⟩
  have hb1 : Below w.heap.size w w1 := hw1 ▸ blkBelow2 w _ _
  have HK1 : Hid (Blk w1 w.heap.size 40 (atC X.has X.org A n c X.hop X.med X.pref X.aas X.aid B m d)) := hide (hw1 ▸ (Blk.new w _ _).alloc _)
  have HK2 : Hid (Blk w1 (w.heap.size + 1) 40 (atC X.has X.org A2 n2 c2 X.hop X.med X.pref X.aas X.aid B2 m2 d2)) := hide (hw1 ▸ blk_new' _ _ (by simp))
  have HPs := hide (psame_eq A A2 n c n2 c2 X.path w1 (hP.below sgMono hb1) (hP2.below sgMono hb1) (by rw [← hP.1]; exact hn))
  have HU := hide (fun W (hb : Below w.heap.size w W) => hC.below hb)
  have HU2 := hide (fun W (hb : Below w.heap.size w W) => hC2.below hb)
  have HB1 := hide hb1
  have HW1 := hide hw1
  clear hw1 hb1 hP hP2 hC hC2 hn
  go_enter Tryz.func12, Tryz.ntmps12
  go_wp2_with fail
  rw [HW1.out]
  refine HPs.out.mono ?_
  rintro e w2 ⟨rfl, hb⟩
  have HB2 := hide (HB1.out.trans (hb.mono HB1.out.size))
  have HK1 := hide (HK1.out.below hb HK1.out.lt)
  have HK2 := hide (HK2.out.below hb HK2.out.lt)
  have HSa := hide (refSame_any B m d X.comms B2 m2 d2 X.comms w2 (HU.out w2 HB2.out) (HU2.out w2 HB2.out))
  clear hb
  obtain ⟨a0, a1, a2, a3, a4, a5, a6, a7, a8⟩ := blk9 HK1.out
  obtain ⟨b0, b1, b2, b3, b4, b5, b6, b7, b8⟩ := blk9 HK2.out
  go_wp2_with fail
  refine HSa.out.mono ?_
  rintro e w3 ⟨rfl, hb⟩
  have HB3 := hide (HB2.out.trans (hb.mono HB2.out.size))
  clear hb a0 a1 a2 a3 a4 a5 a6 a7 a8 b0 b1 b2 b3 b4 b5 b6 b7 b8
  go_wp2
  go_ret
  exact ⟨by simp, HB3.out⟩
set_option maxRecDepth 100000 in
set_option maxHeartbeats 8000000 in
theorem refOwnSame_any (an id pa pl : Int) (w : World) : Calls Tryz.prog 5 #[.agg (ownR an id pa pl), .agg (ownR an id pa pl)] w (GoodP true w) := by
  obtain ⟨w1, hw1⟩ : ∃ w1, (w.alloc (.cells (ownR an id pa pl) 42)).alloc (.cells (ownR an id pa pl) 42) = w1 := ⟨_, rfl⟩
  have hb1 : Below w.heap.size w w1 := hw1 ▸ blkBelow2 w _ _
  have HK1 : Hid (Blk w1 w.heap.size 42 (ownR an id pa pl)) := hide (hw1 ▸ (Blk.new w _ _).alloc _)
  have HK2 : Hid (Blk w1 (w.heap.size + 1) 42 (ownR an id pa pl)) := hide (hw1 ▸ blk_new' _ _ (by simp))
  have HNl : Hid (AtR w1 (ownA id) (atV 14 0 none 0 0 id 0 0 0 0 none 0 0)) := hide ⟨none, 0, 0, none, 0, 0, rfl, LstAt.none_, rfl, Nat.le_refl _, Nat.zero_le _, by simp [ownA], fun h => absurd h (by omega)⟩
  have HSa := hide (refAttrSame_eq (ownA id) _ _ w1 HNl.out HNl.out (by simp [ownA]))
  have HB1 := hide hb1
  have HW1 := hide hw1
  clear hw1 hb1
  go_enter Tryz.func5, Tryz.ntmps5
  go_wp2_with fail
  rw [HW1.out]
  refine HSa.out.mono ?_
  rintro e w2 ⟨rfl, hb⟩
  have HB2 := hide (HB1.out.trans (hb.mono HB1.out.size))
  have HK1 := hide (HK1.out.below hb HK1.out.lt)
  have HK2 := hide (HK2.out.below hb HK2.out.lt)
  clear hb
  obtain ⟨a0, a1, a2, a3, a4, a5, a6, a7, a8, a9, a10, a11, a12, a13, a14, a15⟩ := blk16 HK1.out
  obtain ⟨b0, b1, b2, b3, b4, b5, b6, b7, b8, b9, b10, b11, b12, b13, b14, b15⟩ := blk16 HK2.out
  go_wp2
  go_ret
  exact ⟨by simp, HB2.out⟩
end Go.Proofs.YtplhnhoijficgaaGreat
set_option linter.unusedSimpArgs false
set_option linter.unusedVariables false
namespace Go.Proofs.YtplhnhoijficgaaGreat
open Go.RowKit Go.WideShapes Go.ChangeShapes
attribute [local go_sem] Oper.semAt_some
def ocX (an id : Int) : CF := ⟨an, id, 0, 0, 0, (none, 0, 0), (none, 0, 0), (none, 0, 0), (none, 0, 0), (none, 0, 0), (none, 0, 0), (none, 0, 0)⟩
set_option maxRecDepth 100000 in
set_option maxHeartbeats 8000000 in
theorem exportOwn_any (an id pa pl : Int) (w : World) : Calls Tryz.prog 3 #[.int .u32 an, .int .u32 id, .agg #[.int .u32 pa, .int .i64 pl]] w (GoodP true w) := by
  obtain ⟨w1, hw1⟩ : ∃ w1, (w.alloc (.cells #[.int .u32 pa, .int .i64 pl] 24)).alloc (.cells (cfC (ocX an id)) 35) = w1 := ⟨_, rfl⟩
  have hb1 : Below w.heap.size w w1 := hw1 ▸ blkBelow2 w _ _
  have HKp : Hid (Blk w1 w.heap.size 24 #[.int .u32 pa, .int .i64 pl]) := hide (hw1 ▸ (Blk.new w _ _).alloc _)
  have HKc : Hid (Blk w1 (w.heap.size + 1) 35 (cfC (ocX an id))) := hide (hw1 ▸ blk_new' _ _ (by simp))
  have HB1 := hide hb1
  have HW1 := hide hw1
  clear hw1 hb1
  go_enter Tryz.func3, Tryz.ntmps3
  go_upto_region 2 with fail
  change Code.wp _ _ _ _ ((w.alloc (.cells #[.int .u32 pa, .int .i64 pl] 24)).alloc (.cells (cfC (ocX an id)) 35))
  rw [HW1.out]
  have Hmn := hide (show AllMono [(fun v _ => v = .agg (cfC (ocX an id))), (fun v _ => v = .agg #[.int .u32 pa, .int .i64 pl]), (fun v _ => v = .agg (ownR an id pa pl)), (fun v _ => v = .agg (cfC (ocX an id))), (fun v _ => v = .agg #[.int .u32 pa, .int .i64 pl]), (fun v _ => v = .agg (ownR an id pa pl)), (fun v _ => v = .bool true), (fun v _ => v = .bool true), (fun v _ => v = .agg (cfC (ocX an id))), (fun v _ => v = .agg (ownR an id 0 0)), (fun v _ => v = .agg (cfC (ocX an id))), (fun v _ => v = .agg #[.int .u32 0, .int .i64 0]), (fun v _ => v = .agg (ownR an id 0 0)), (fun v _ => v = .bool true), (fun v _ => v = .bool true), (fun v _ => v = .bool true), (fun v _ => v = .bool true), (fun v _ => v = .bool true)] from ⟨fun _ _ _ _ h => h, fun _ _ _ _ h => h, fun _ _ _ _ h => h, fun _ _ _ _ h => h, fun _ _ _ _ h => h, fun _ _ _ _ h => h, fun _ _ _ _ h => h, fun _ _ _ _ h => h, fun _ _ _ _ h => h, fun _ _ _ _ h => h, fun _ _ _ _ h => h, fun _ _ _ _ h => h, fun _ _ _ _ h => h, fun _ _ _ _ h => h, fun _ _ _ _ h => h, fun _ _ _ _ h => h, fun _ _ _ _ h => h, fun _ _ _ _ h => h, trivial⟩)
  refine wp_region_relT 18 _ (by kernel_rfl) (by kernel_rfl) (by kernel_rfl) (by kernel_rfl) (by kernel_rfl) (relMono _ Hmn.out) ⟨?_, ?_, ?_, ?_, ?_, ?_, ?_, ?_, ?_, ?_, ?_, ?_, ?_, ?_, ?_, ?_, ?_, ?_, trivial⟩ ?_
  · refine relStep_plain rfl ?_
    intro Ac w5 hp
    have hb := hp.bel
    have a7 : Ac.eval (.tmp 7) = .pointer (some ⟨w.heap.size + 1, 0, none⟩) := hp.out 7 (by rfl)
    obtain ⟨x0, x1, x2, x3, x4, x5, x6, x7, x8, x9, x10, x11⟩ := blk12 (HKc.out.below hb HKc.out.lt)
    simp only [ocX] at x0 x1 x2 x3 x4 x5 x6 x7 x8 x9 x10 x11
    have hc := evalC Ac; have hf := evalF Ac; have hgl := evalG Ac
    obtain ⟨ρ, hρ⟩ : ∃ ρ, Ac.eval = ρ := ⟨_, rfl⟩
    rw [hρ] at a7 hc hf hgl
    exact relPure hρ (.agg (cfC (ocX an id))) (by simp [go_sem, hc, hf, hgl, ↓IntWalk.iteOmega, a7, ocX, *]) rfl
  · refine relStep_plain rfl ?_
    intro Ac w5 hp
    have hb := hp.bel
    have a5 : Ac.eval (.tmp 5) = .pointer (some ⟨w.heap.size, 0, none⟩) := hp.out 5 (by rfl)
    have q0 : w5.cell? ⟨w.heap.size, 0, none⟩ = some (.int .u32 pa) := (HKp.out.below hb HKp.out.lt).cell 0
    have q1 : w5.cell? ⟨w.heap.size, 1, none⟩ = some (.int .i64 pl) := (HKp.out.below hb HKp.out.lt).cell 1
    have hc := evalC Ac; have hf := evalF Ac; have hgl := evalG Ac
    obtain ⟨ρ, hρ⟩ : ∃ ρ, Ac.eval = ρ := ⟨_, rfl⟩
    rw [hρ] at a5 hc hf hgl
    exact relPure hρ (.agg #[.int .u32 pa, .int .i64 pl]) (by simp [go_sem, hc, hf, hgl, ↓IntWalk.iteOmega, a5, ocX, *]) rfl
  · refine relStep_plain rfl ?_
    intro Ac w5 hp
    have hb := hp.bel
    have a11 : Ac.eval (.tmp 11) = .agg (cfC (ocX an id)) := hp.dep 0 (by kernel_rfl)
    have a12 : Ac.eval (.tmp 12) = .agg #[.int .u32 pa, .int .i64 pl] := hp.dep 1 (by kernel_rfl)
    have hc := evalC Ac; have hf := evalF Ac; have hgl := evalG Ac
    obtain ⟨ρ, hρ⟩ : ∃ ρ, Ac.eval = ρ := ⟨_, rfl⟩
    rw [hρ] at a11 a12 hc hf hgl
    refine relCall hρ 6 #[.agg (cfC (ocX an id)), .agg #[.int .u32 pa, .int .i64 pl]] (by simp [go_sem, hc, hf, hgl, ↓IntWalk.iteOmega, a11, a12, ocX, *]) ?_
    refine (exLocalX_any (ocX an id) pa pl w5).mono ?_
    rintro e w6 ⟨rfl, hb6⟩
    exact ⟨_, rfl, rfl, hb6⟩
  · refine relStep_plain rfl ?_
    intro Ac w5 hp
    have hb := hp.bel
    have a7 : Ac.eval (.tmp 7) = .pointer (some ⟨w.heap.size + 1, 0, none⟩) := hp.out 7 (by rfl)
    obtain ⟨x0, x1, x2, x3, x4, x5, x6, x7, x8, x9, x10, x11⟩ := blk12 (HKc.out.below hb HKc.out.lt)
    simp only [ocX] at x0 x1 x2 x3 x4 x5 x6 x7 x8 x9 x10 x11
    have hc := evalC Ac; have hf := evalF Ac; have hgl := evalG Ac
    obtain ⟨ρ, hρ⟩ : ∃ ρ, Ac.eval = ρ := ⟨_, rfl⟩
    rw [hρ] at a7 hc hf hgl
    exact relPure hρ (.agg (cfC (ocX an id))) (by simp [go_sem, hc, hf, hgl, ↓IntWalk.iteOmega, a7, ocX, *]) rfl
  · refine relStep_plain rfl ?_
    intro Ac w5 hp
    have hb := hp.bel
    have a5 : Ac.eval (.tmp 5) = .pointer (some ⟨w.heap.size, 0, none⟩) := hp.out 5 (by rfl)
    have q0 : w5.cell? ⟨w.heap.size, 0, none⟩ = some (.int .u32 pa) := (HKp.out.below hb HKp.out.lt).cell 0
    have q1 : w5.cell? ⟨w.heap.size, 1, none⟩ = some (.int .i64 pl) := (HKp.out.below hb HKp.out.lt).cell 1
    have hc := evalC Ac; have hf := evalF Ac; have hgl := evalG Ac
    obtain ⟨ρ, hρ⟩ : ∃ ρ, Ac.eval = ρ := ⟨_, rfl⟩
    rw [hρ] at a5 hc hf hgl
    exact relPure hρ (.agg #[.int .u32 pa, .int .i64 pl]) (by simp [go_sem, hc, hf, hgl, ↓IntWalk.iteOmega, a5, ocX, *]) rfl
  · refine relStep_plain rfl ?_
    intro Ac w5 hp
    have hb := hp.bel
    have a14 : Ac.eval (.tmp 14) = .agg (cfC (ocX an id)) := hp.dep 3 (by kernel_rfl)
    have a15 : Ac.eval (.tmp 15) = .agg #[.int .u32 pa, .int .i64 pl] := hp.dep 4 (by kernel_rfl)
    have hc := evalC Ac; have hf := evalF Ac; have hgl := evalG Ac
    obtain ⟨ρ, hρ⟩ : ∃ ρ, Ac.eval = ρ := ⟨_, rfl⟩
    rw [hρ] at a14 a15 hc hf hgl
    refine relCall hρ 7 #[.agg (cfC (ocX an id)), .agg #[.int .u32 pa, .int .i64 pl]] (by simp [go_sem, hc, hf, hgl, ↓IntWalk.iteOmega, a14, a15, ocX, *]) ?_
    refine (refLocal_any (ocX an id) pa pl w5).mono ?_
    rintro e w6 ⟨rfl, hb6⟩
    exact ⟨_, rfl, rfl, hb6⟩
  · refine relStep_plain rfl ?_
    intro Ac w5 hp
    have hb := hp.bel
    have a13 : Ac.eval (.tmp 13) = .agg (ownR an id pa pl) := hp.dep 2 (by kernel_rfl)
    have a16 : Ac.eval (.tmp 16) = .agg (ownR an id pa pl) := hp.dep 5 (by kernel_rfl)
    have hc := evalC Ac; have hf := evalF Ac; have hgl := evalG Ac
    obtain ⟨ρ, hρ⟩ : ∃ ρ, Ac.eval = ρ := ⟨_, rfl⟩
    rw [hρ] at a13 a16 hc hf hgl
    refine relCall hρ 5 #[.agg (ownR an id pa pl), .agg (ownR an id pa pl)] (by simp [go_sem, hc, hf, hgl, ↓IntWalk.iteOmega, a13, a16, ocX, *]) ?_
    refine (refOwnSame_any an id pa pl w5).mono ?_
    rintro e w6 ⟨rfl, hb6⟩
    exact ⟨_, rfl, rfl, hb6⟩
  · refine relStep_plain rfl ?_
    intro Ac w5 hp
    have hb := hp.bel
    have a17 : Ac.eval (.tmp 17) = .bool true := hp.dep 6 (by kernel_rfl)
    have hc := evalC Ac; have hf := evalF Ac; have hgl := evalG Ac
    obtain ⟨ρ, hρ⟩ : ∃ ρ, Ac.eval = ρ := ⟨_, rfl⟩
    rw [hρ] at a17 hc hf hgl
    exact relPure hρ (.bool true) (by simp [go_sem, hc, hf, hgl, ↓IntWalk.iteOmega, a17, ocX, *]) rfl
  · refine relStep_guard (g := 7) (b := true) (x := true) rfl (by kernel_rfl) rfl (by kernel_rfl) rfl (fun _ _ h => h) ?_
    intro Ac w5 hp
    have hb := hp.bel
    have a7 : Ac.eval (.tmp 7) = .pointer (some ⟨w.heap.size + 1, 0, none⟩) := hp.out 7 (by rfl)
    obtain ⟨x0, x1, x2, x3, x4, x5, x6, x7, x8, x9, x10, x11⟩ := blk12 (HKc.out.below hb HKc.out.lt)
    simp only [ocX] at x0 x1 x2 x3 x4 x5 x6 x7 x8 x9 x10 x11
    have hc := evalC Ac; have hf := evalF Ac; have hgl := evalG Ac
    obtain ⟨ρ, hρ⟩ : ∃ ρ, Ac.eval = ρ := ⟨_, rfl⟩
    rw [hρ] at a7 hc hf hgl
    exact relPure hρ (.agg (cfC (ocX an id))) (by simp [go_sem, hc, hf, hgl, ↓IntWalk.iteOmega, a7, ocX, *]) rfl
  · refine relStep_guard (g := 7) (b := true) (x := true) rfl (by kernel_rfl) rfl (by kernel_rfl) rfl (fun _ _ h => h) ?_
    intro Ac w5 hp
    have hb := hp.bel
    have a19 : Ac.eval (.tmp 19) = .agg (cfC (ocX an id)) := hp.dep 8 (by kernel_rfl)
    have hc := evalC Ac; have hf := evalF Ac; have hgl := evalG Ac
    obtain ⟨ρ, hρ⟩ : ∃ ρ, Ac.eval = ρ := ⟨_, rfl⟩
    rw [hρ] at a19 hc hf hgl
    refine relCall hρ 8 #[.agg (cfC (ocX an id))] (by simp [go_sem, hc, hf, hgl, ↓IntWalk.iteOmega, a19, ocX, *]) ?_
    refine (exDefault_any (ocX an id) w5).mono ?_
    rintro e w6 ⟨rfl, hb6⟩
    exact ⟨_, rfl, rfl, hb6⟩
  · refine relStep_guard (g := 7) (b := true) (x := true) rfl (by kernel_rfl) rfl (by kernel_rfl) rfl (fun _ _ h => h) ?_
    intro Ac w5 hp
    have hb := hp.bel
    have a7 : Ac.eval (.tmp 7) = .pointer (some ⟨w.heap.size + 1, 0, none⟩) := hp.out 7 (by rfl)
    obtain ⟨x0, x1, x2, x3, x4, x5, x6, x7, x8, x9, x10, x11⟩ := blk12 (HKc.out.below hb HKc.out.lt)
    simp only [ocX] at x0 x1 x2 x3 x4 x5 x6 x7 x8 x9 x10 x11
    have hc := evalC Ac; have hf := evalF Ac; have hgl := evalG Ac
    obtain ⟨ρ, hρ⟩ : ∃ ρ, Ac.eval = ρ := ⟨_, rfl⟩
    rw [hρ] at a7 hc hf hgl
    exact relPure hρ (.agg (cfC (ocX an id))) (by simp [go_sem, hc, hf, hgl, ↓IntWalk.iteOmega, a7, ocX, *]) rfl
  · refine relStep_guard (g := 7) (b := true) (x := true) rfl (by kernel_rfl) rfl (by kernel_rfl) rfl (fun _ _ h => h) ?_
    intro Ac w5 hp
    have hb := hp.bel
    have hc := evalC Ac; have hf := evalF Ac; have hgl := evalG Ac
    obtain ⟨ρ, hρ⟩ : ∃ ρ, Ac.eval = ρ := ⟨_, rfl⟩
    rw [hρ] at hc hf hgl
    exact relPure hρ (.agg #[.int .u32 0, .int .i64 0]) (by simp [go_sem, hc, hf, hgl, ↓IntWalk.iteOmega, ocX, *]) rfl
  · refine relStep_guard (g := 7) (b := true) (x := true) rfl (by kernel_rfl) rfl (by kernel_rfl) rfl (fun _ _ h => h) ?_
    intro Ac w5 hp
    have hb := hp.bel
    have a21 : Ac.eval (.tmp 21) = .agg (cfC (ocX an id)) := hp.dep 10 (by kernel_rfl)
    have a22 : Ac.eval (.tmp 22) = .agg #[.int .u32 0, .int .i64 0] := hp.dep 11 (by kernel_rfl)
    have hc := evalC Ac; have hf := evalF Ac; have hgl := evalG Ac
    obtain ⟨ρ, hρ⟩ : ∃ ρ, Ac.eval = ρ := ⟨_, rfl⟩
    rw [hρ] at a21 a22 hc hf hgl
    refine relCall hρ 7 #[.agg (cfC (ocX an id)), .agg #[.int .u32 0, .int .i64 0]] (by simp [go_sem, hc, hf, hgl, ↓IntWalk.iteOmega, a21, a22, ocX, *]) ?_
    refine (refLocal_any (ocX an id) 0 0 w5).mono ?_
    rintro e w6 ⟨rfl, hb6⟩
    exact ⟨_, rfl, rfl, hb6⟩
  · refine relStep_guard (g := 7) (b := true) (x := true) rfl (by kernel_rfl) rfl (by kernel_rfl) rfl (fun _ _ h => h) ?_
    intro Ac w5 hp
    have hb := hp.bel
    have a20 : Ac.eval (.tmp 20) = .agg (ownR an id 0 0) := hp.dep 9 (by kernel_rfl)
    have a23 : Ac.eval (.tmp 23) = .agg (ownR an id 0 0) := hp.dep 12 (by kernel_rfl)
    have hc := evalC Ac; have hf := evalF Ac; have hgl := evalG Ac
    obtain ⟨ρ, hρ⟩ : ∃ ρ, Ac.eval = ρ := ⟨_, rfl⟩
    rw [hρ] at a20 a23 hc hf hgl
    refine relCall hρ 5 #[.agg (ownR an id 0 0), .agg (ownR an id 0 0)] (by simp [go_sem, hc, hf, hgl, ↓IntWalk.iteOmega, a20, a23, ocX, *]) ?_
    refine (refOwnSame_any an id 0 0 w5).mono ?_
    rintro e w6 ⟨rfl, hb6⟩
    exact ⟨_, rfl, rfl, hb6⟩
  · refine relStep_plain rfl ?_
    intro Ac w5 hp
    have hb := hp.bel
    have a18 : Ac.eval (.tmp 18) = .bool true := hp.dep 7 (by kernel_rfl)
    have a24 : Ac.eval (.tmp 24) = .bool true := hp.dep 13 (by kernel_rfl)
    have hc := evalC Ac; have hf := evalF Ac; have hgl := evalG Ac
    obtain ⟨ρ, hρ⟩ : ∃ ρ, Ac.eval = ρ := ⟨_, rfl⟩
    rw [hρ] at a18 a24 hc hf hgl
    exact relPure hρ (.bool true) (by simp [go_sem, hc, hf, hgl, ↓IntWalk.iteOmega, a18, a24, ocX, *]) rfl
  · refine relStep_plain rfl ?_
    intro Ac w5 hp
    have hb := hp.bel
    have a25 : Ac.eval (.tmp 25) = .bool true := hp.dep 14 (by kernel_rfl)
    have hc := evalC Ac; have hf := evalF Ac; have hgl := evalG Ac
    obtain ⟨ρ, hρ⟩ : ∃ ρ, Ac.eval = ρ := ⟨_, rfl⟩
    rw [hρ] at a25 hc hf hgl
    exact relPure hρ (.bool true) (by simp [go_sem, hc, hf, hgl, ↓IntWalk.iteOmega, a25, ocX, *]) rfl
  · refine relStep_guard (g := 15) (b := true) (x := true) rfl (by kernel_rfl) rfl (by kernel_rfl) rfl (fun _ _ h => h) ?_
    intro Ac w5 hp
    have hb := hp.bel
    have hc := evalC Ac; have hf := evalF Ac; have hgl := evalG Ac
    obtain ⟨ρ, hρ⟩ : ∃ ρ, Ac.eval = ρ := ⟨_, rfl⟩
    rw [hρ] at hc hf hgl
    refine relCall hρ 9 #[] (by simp [go_sem, hc, hf, hgl, ↓IntWalk.iteOmega, ocX, *]) ?_
    refine (lives34_any w5).mono ?_
    rintro e w6 ⟨rfl, hb6⟩
    exact ⟨_, rfl, rfl, hb6⟩
  · refine relStep_plain rfl ?_
    intro Ac w5 hp
    have hb := hp.bel
    have a26 : Ac.eval (.tmp 26) = .bool true := hp.dep 15 (by kernel_rfl)
    have a27 : Ac.eval (.tmp 27) = .bool true := hp.dep 16 (by kernel_rfl)
    have hc := evalC Ac; have hf := evalF Ac; have hgl := evalG Ac
    obtain ⟨ρ, hρ⟩ : ∃ ρ, Ac.eval = ρ := ⟨_, rfl⟩
    rw [hρ] at a26 a27 hc hf hgl
    exact relPure hρ (.bool true) (by simp [go_sem, hc, hf, hgl, ↓IntWalk.iteOmega, a26, a27, ocX, *]) rfl
  intro u w7 hb7 hall
  have e28 : u 17 = .bool true := relAll_at hall (i := 17) (by decide +kernel)
  clear hall
  simp only [List.drop_succ_cons, List.drop_zero, List.take_succ_cons, List.take_zero, putAll, Act.put, List.setIfInBounds_toArray, List.set_cons_zero, List.set_cons_succ, Nat.zero_add, Nat.reduceAdd, e28]
  have HB7 := hide (HB1.out.trans (hb7.mono HB1.out.size))
  clear hb7
  go_wp2
  go_ret
  exact ⟨rfl, HB7.out⟩
end Go.Proofs.YtplhnhoijficgaaGreat
