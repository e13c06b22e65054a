import Derived.Test.YtplhnhoijficgaaGreatEw4
import Derived.WalkKit
import Derived.ProofKit
import Derived.OpenShut
import Derived.Below
import Derived.Laws.OwnMore
import Derived.Laws.Rows
import Derived.Laws.MakeOwn
import Derived.Deep.AppendLies
import Derived.Deep.Draws
import Derived.Deep.OwnRows
import Derived.Deep.QuietTactic
import Derived.Maps.AppendAt
import Derived.RegionTactic
import Derived.OwnWalk
import Derived.ChangeSame
import Derived.Outline
import Derived.BigQuiet
import Derived.WalkMore
import Derived.ScopeJumps
import Derived.WalkLawsBesides
import Derived.WalkSpells
import Derived.Deep.Slices
import Derived.Laws.BitsLemmas
import Derived.Laws.BitsAllLaws
import Derived.Deep.Quiet
import Derived.WideKeyArgs
import Derived.Deep.DeepHandedRow
import Derived.Deep.DeepWitnessRowRef
import Derived.Lib.LaidTab
import Derived.Lib.AppendIntMem
import Derived.LaidMore
import Derived.MakeChecks
import Derived.Lib.Itoa
import Derived.Lib.ItoaMem
import Derived.BigRegion
import Derived.Orders
import Derived.OrdersIn
import Derived.RangeFuncCalls
import Derived.Shelf.RegionOpen
import Derived.Lib.PathFns
import Derived.Lib.IndexBytes
import Derived.RangeFuncWrites
import Derived.RangeFuncNested
import Derived.RangeFuncBound
import Derived.RangeFuncLeaves
import Derived.RangeFuncBox
import Derived.Shelf.Abstract
import Derived.OwnWalkIn
import Derived.TacticsInMore
import Derived.LoopNIn
import Derived.LoopIn
import Derived.Lib.SmallJoins
import Derived.Lib.ParseIntBCases
import Derived.Lib.IndexMore
import Derived.Shelf.Vars
import Derived.Lib.AtoiAllCases
import Derived.SliceStrings
import Derived.Deep.RegionLaw
import Derived.Sort.LotA
import Derived.StillTailTactics
import Derived.BigRegionIn
import Derived.Deep.RegionHeld3
import Derived.RangeFuncOwn
import Derived.Sort.WalkA6
import Derived.Sort.WalkB3
import Derived.Sort.WalkC4
import Derived.Sort.WalkA14
import Derived.Sort.Walk11
import Derived.Sort.Walk7
import Derived.Sort.Walk13
import Derived.Sort.Row
import Derived.Lib.Walk
import Derived.Lib.Strings
import Derived.BigGuard
import Derived.BigCall
import Derived.CellFam
import Derived.Deep.LoopGhost
import Derived.Sort.LotC
import Derived.Deep.RegionWith
import Derived.RowKit
import Derived.Sort.LotD3
import Derived.Sort.LotD4
import Derived.Sort.Grow
import Derived.Sort.AtCall
import Derived.Sort.LotD5
import Derived.Laws.Bits64
import Derived.Laws.Bits64b
import Derived.Sort.EncStr
import Derived.Sort.LotD1
import Derived.Sort.LotB
import Derived.Deep.Cut
import Derived.Sort.Walk13a
import Derived.Sort.AssemblyPlain
import Derived.Shelf.Spec.SlicesInsertGrow
import Derived.Deep.MidRow
import Derived.Lib.RowBridge
import Derived.Deep.DeepCutAuto
import Derived.Laws.CopyOwn
import Derived.Lib.AppendZerosOnto
import Derived.Lib.Bytealg
import Derived.Shelf.Strings.SplitShaped
import Derived.Shelf.Strings.Prefix
import Derived.Shelf.Small.Strs
import Derived.Lib.SlTrimSet
import Derived.Shelf.Strings.BuilderK
import Derived.Laws.BytesString
import Derived.Laws.IdiomStrings
set_option linter.unusedSimpArgs false
set_option linter.unusedVariables false
namespace Go.Proofs.YtplhnhoijficgaaGreat
open Go.RowKit Go.WideShapes Go.ChangeShapes
attribute [local go_sem] Oper.semAt_some
def refWireA (cas : Nat) (cid pas : Int) (loc : Bool) (rh rmd : Int) (x : AT) : AT :=
  let n := normA x
  let t := loc || !(pas == (cas : Int))
  let q1 := if t then setB (nmH x.has) 3 else nmH x.has
  let h1 := if t then cid else n.hop
  if pas == (cas : Int) then ⟨(setB q1 5 : Nat), n.org, n.path, h1, n.med, if attB (q1 : Int) 5 then n.pref else 100, n.aas, n.aid, n.comms⟩
  else
    let qa := setB q1 2
    let qb := clrB qa 5
    let k := !loc && attB (qb : Int) 4 && attB rh 4 && (n.med == rmd)
    ⟨((if k then clrB qb 4 else qb : Nat) : Int), n.org, normS (chunkS (List.replicate (timesN 1) cas) ++ n.path), h1, if k then 0 else n.med, if attB (qa : Int) 5 then 0 else n.pref, n.aas, n.aid, n.comms⟩
theorem setB_of {m k : Nat} (h : attB (m : Int) k = true) : setB m k = m := by unfold setB; rw [if_pos h]
theorem setB_not {m k : Nat} (h : attB (m : Int) k = false) : setB m k = m + 2 ^ k := by unfold setB; rw [h]; rfl
theorem clrB_of {m k : Nat} (h : attB (m : Int) k = true) : clrB m k = m - 2 ^ k := by unfold clrB; rw [if_pos h]
theorem clrB_not {m k : Nat} (h : attB (m : Int) k = false) : clrB m k = m := by unfold clrB; rw [h]; rfl
theorem attB_ge : ∀ m : Nat, m < 512 → ∀ k ∈ [1, 2, 3, 4, 5, 6, 7, 8], attB (m : Int) k = true → 2 ^ k ≤ m := by decide +kernel
theorem clrB_int {m k : Nat} (hm : m < 512) (hk : K8 k) (h : attB (m : Int) k = true) : ((clrB m k : Nat) : Int) = (m : Int) - ((2 ^ k : Nat) : Int) := by
  rw [clrB_of h]
  exact Int.ofNat_sub (attB_ge m hm k (k8_mem hk) h)
set_option maxRecDepth 100000 in
set_option maxHeartbeats 4000000 in
theorem refANormX_any (x : AT) (v : Value) (w : World) (hv : AtR w x v) (hn : numS x.path ≤ 10000) (hn2 : x.path.length ≤ 100000) (hm : x.comms.length ≤ 10000) : Calls Tryz.prog 23 #[v] w (AtP (normA x) w) := by
  obtain ⟨A, n, c, B, m, d, rfl, hP, hC⟩ := hv
  obtain ⟨h, o, pl, hp, md, pf, aa, ai, cl⟩ := x
  exact refANorm_any h o A n c hp md pf aa ai B m d pl cl w hP hC hn (by rw [← hP.1]; exact hn2) (by rw [← hC.1]; exact hm)
set_option maxRecDepth 100000 in
set_option maxHeartbeats 16000000 in
theorem refWire_any (cas : Nat) (hcas : cas < 4294967296) (x : CF) (hx : x.asn = (cas : Int)) (y : PE) (r : RT) (X : AT) (v : Value) (w : World) (hv : AtR w X v) (hn : numS X.path ≤ 8000) (hn2 : X.path.length ≤ 100000) (hm : X.comms.length ≤ 10000) :
    Calls Tryz.prog 14 #[.agg (cfC x), .agg (peC y), .agg (rtV r), v] w (AtP (refWireA cas x.id y.asn r.loc r.at_.has r.at_.med X) w) := by
  obtain ⟨A, n, c, B, m, d, rfl, hP, hC⟩ := hv
  obtain ⟨w0, hw0⟩ : ∃ w0, ((((w.alloc (.cells (cfC x) 35)).alloc (.cells (peC y) 48)).alloc (.cells (rtV r) 42)).alloc (.cells (atC X.has X.org A n c X.hop X.med X.pref X.aas X.aid B m d) 40)).alloc (.cells zeroC 40) = w0 := ⟨_, rfl⟩
  have HS : Hid (WS w x y r (atC X.has X.org A n c X.hop X.med X.pref X.aas X.aid B m d) w0) := hide (hw0 ▸ WS.start w x y r _)
  have HNm := hide (refANormX_any X (atV X.has X.org A n c X.hop X.med X.pref X.aas X.aid B m d) w0 ⟨A, n, c, B, m, d, rfl, hP.below sgMono HS.out.bel, hC.below HS.out.bel⟩ (by omega) hn2 hm)
  have HNum : Hid (numS (normA X).path ≤ 8000) := hide (by
    show numS (if attB X.has 2 then normS X.path else []) ≤ 8000
    split
    · have := numS_norm X.path; omega
    · simp [numS])
  have HNl : Hid ((normA X).path.length ≤ 10000) := hide (by
    show (if attB X.has 2 then normS X.path else []).length ≤ 10000
    split
    · have := normS_len X.path; omega
    · simp)
  have HCl : Hid ((normA X).comms.length ≤ 10000) := hide (by
    show (if attB X.has 8 then setOf X.comms else []).length ≤ 10000
    split
    · have := setOf_len X.comms; omega
    · simp)
  obtain ⟨q, hq⟩ : ∃ q, nmH X.has = q := ⟨_, rfl⟩
  have Hq8 : Hid (Own8 q) := hide (hq ▸ own8_nm X.has)
  obtain ⟨XN, hXN⟩ : ∃ Y, normA X = Y := ⟨_, rfl⟩
  have hXh : XN.has = (q : Int) := by rw [← hXN, ← hq]; rfl
  have HRes : Hid (refWireA cas x.id y.asn r.loc r.at_.has r.at_.med X = if (y.asn == x.asn) = true then ⟨(setB (if (r.loc || !(y.asn == x.asn)) = true then setB q 3 else q) 5 : Nat), XN.org, XN.path, if (r.loc || !(y.asn == x.asn)) = true then x.id else XN.hop, XN.med, if attB ((if (r.loc || !(y.asn == x.asn)) = true then setB q 3 else q : Nat) : Int) 5 = true then XN.pref else 100, XN.aas, XN.aid, XN.comms⟩ else
    ⟨((if (!r.loc && attB ((clrB (setB (if (r.loc || !(y.asn == x.asn)) = true then setB q 3 else q) 2) 5 : Nat) : Int) 4 && attB r.at_.has 4 && (XN.med == r.at_.med)) = true then clrB (clrB (setB (if (r.loc || !(y.asn == x.asn)) = true then setB q 3 else q) 2) 5) 4 else clrB (setB (if (r.loc || !(y.asn == x.asn)) = true then setB q 3 else q) 2) 5 : Nat) : Int), XN.org, normS (chunkS (List.replicate (timesN 1) cas) ++ XN.path), if (r.loc || !(y.asn == x.asn)) = true then x.id else XN.hop, if (!r.loc && attB ((clrB (setB (if (r.loc || !(y.asn == x.asn)) = true then setB q 3 else q) 2) 5 : Nat) : Int) 4 && attB r.at_.has 4 && (XN.med == r.at_.med)) = true then 0 else XN.med, if attB ((setB (if (r.loc || !(y.asn == x.asn)) = true then setB q 3 else q) 2 : Nat) : Int) 5 = true then 0 else XN.pref, XN.aas, XN.aid, XN.comms⟩) := hide (by rw [hx, ← hXN, ← hq]; rfl)
  obtain ⟨RES, hRES⟩ : ∃ R, refWireA cas x.id y.asn r.loc r.at_.has r.at_.med X = R := ⟨_, rfl⟩
  rw [hRES] at HRes ⊢
  rw [hXN] at HNm HNum HNl HCl
  have HW0 := hide hw0
  obtain ⟨hh, o1, P, H0, M, F, AA, AI, C⟩ := XN
  simp only at hXh HNum HNl HCl HRes
  subst hXh
  obtain ⟨ib, hib⟩ : ∃ ib, (y.asn == x.asn) = ib := ⟨_, rfl⟩
  rw [hib] at HRes
  have Hcas := hide hcas
  have Hx := hide hx
  have HIb := hide hib
  clear hw0 hP hC hn hn2 hm hq hXN hib hcas hx hRES
  go_enter Tryz.func14, Tryz.ntmps14
  go_wp2_with fail
  rw [HW0.out]
  refine HNm.out.mono ?_
  rintro e w1 ⟨v1, rfl, ho, hb⟩
  obtain ⟨A1, n1, c1, xs1, B1, m1, d1, rfl, hl, hu⟩ := ho
  have hs : (w.heap.size + 1 + 1 + 1 + 1 + 1) ≤ w0.heap.size := HS.out.kz.lt
  have HPU : Hid (PU (w.heap.size + 1 + 1 + 1 + 1 + 1) w1 A1 n1 c1 B1 m1 d1 P C) := hide ⟨⟨xs1, hl.less hs hs⟩, hu.less hs⟩
  have HS := hide (HS.out.call hb)
  clear hl hu hb hs
  obtain ⟨a0, a1, a2, a3, a4, a5, a6, a7, a8⟩ := blk9 HS.out.ka
  have af := fun i => HS.out.ka.frozen i
  go_upto_region 2 with fail
  change Code.wp _ _ _ _ (w1.setCells (w.heap.size + 1 + 1 + 1) 0 [.int .i64 q, .int .i64 o1, .slice A1 n1 c1, .int .u32 H0, .int .u32 M, .int .u32 F, .int .u32 AA, .int .u32 AI, .slice B1 m1 d1])
  obtain ⟨w2, hw2⟩ : ∃ W, w1.setCells (w.heap.size + 1 + 1 + 1) 0 [.int .i64 q, .int .i64 o1, .slice A1 n1 c1, .int .u32 H0, .int .u32 M, .int .u32 F, .int .u32 AA, .int .u32 AI, .slice B1 m1 d1] = W := ⟨_, rfl⟩
  have HS2 : Hid (WS w x y r (atC q o1 A1 n1 c1 H0 M F AA AI B1 m1 d1) w2) := hide (hw2 ▸ WS.sets HS.out)
  have HPU2 : Hid (PU (w.heap.size + 1 + 1 + 1 + 1 + 1) w2 A1 n1 c1 B1 m1 d1 P C) := hide (hw2 ▸ PU.sets _ 0 HPU.out (by omega))
  rw [hw2]
  clear hw2 a0 a1 a2 a3 a4 a5 a6 a7 a8 af HS HPU
  obtain ⟨t, ht⟩ : ∃ t, (r.loc || !ib) = t := ⟨_, rfl⟩
  rw [ht] at HRes
  have HT := hide ht
  have c0 : w2.cell? ⟨w.heap.size, 0, none⟩ = some (.int .u32 x.asn) := HS2.out.kc.cell 0
  have p1 : w2.cell? ⟨w.heap.size + 1, 1, none⟩ = some (.int .u32 y.asn) := HS2.out.kp.cell 1
  have r15 : w2.cell? ⟨w.heap.size + 1 + 1, 15, none⟩ = some (.bool r.loc) := HS2.out.kr.cell 15
  have hib := HIb.out
  go_upto_region 3 with fail
  clear hib c0 p1
  have HS := hide HS2.out
  have HPU := hide HPU2.out
  clear HS2 HPU2
  go_cut [22] (fun s22 wc => s22 = .bool t ∧ WS w x y r (atC q o1 A1 n1 c1 H0 M F AA AI B1 m1 d1) wc ∧ PU (w.heap.size + 1 + 1 + 1 + 1 + 1) wc A1 n1 c1 B1 m1 d1 P C)
  case first =>
    obtain ⟨lc, hlc⟩ : ∃ b, r.loc = b := ⟨_, rfl⟩
    rw [hlc] at r15 ht
    clear hlc
    cases lc
    · go_wp2
      go_meet
      exact ⟨by rw [← ht]; try simp, HS.out, HPU.out⟩
    · go_wp2
      go_meet
      exact ⟨by rw [← ht]; try simp, HS.out, HPU.out⟩
  case rest =>
    obtain ⟨rfl, hcut⟩ := hcut
    obtain ⟨hs, hpu⟩ := hcut
    clear HS HPU
    have HS := hide hs
    have HPU := hide hpu
    clear hs hpu
    obtain ⟨w3, hwx⟩ : ∃ W, W = wc := ⟨_, rfl⟩
    subst hwx
    clear ht
    obtain ⟨q1, hq1⟩ : ∃ v, (if t = true then setB q 3 else q) = v := ⟨_, rfl⟩
    obtain ⟨h1, hh1⟩ : ∃ v, (if t = true then x.id else H0) = v := ⟨_, rfl⟩
    rw [hq1, hh1] at HRes
    have HQ1 := hide hq1
    have HH1 := hide hh1
    have HO1 : Hid (Own8 q1) := hide (by rw [← hq1]; split; exact own8_set Hq8.out ⟨by decide, by decide⟩; exact Hq8.out)
    clear hq1 hh1 r15
    go_upto_if 22 with fail
    go_cut [] (fun wc => WS w x y r (atC q1 o1 A1 n1 c1 h1 M F AA AI B1 m1 d1) wc ∧ PU (w.heap.size + 1 + 1 + 1 + 1 + 1) wc A1 n1 c1 B1 m1 d1 P C)
    case first =>
      have e1 := HQ1.out
      have e2 := HH1.out
      cases t
      · simp only [Bool.false_eq_true, if_false] at e1 e2
        subst e1 e2
        clear HQ1 HH1
        go_wp2
        go_meet
        exact ⟨HS.out, HPU.out⟩
      · simp only [if_true] at e1 e2
        subst e2
        have HE1 := hide e1
        clear HQ1 HH1 e1
        obtain ⟨g3, hg3⟩ : ∃ g, attB (q : Int) 3 = g := ⟨_, rfl⟩
        have HA := hide (refAHas_any 3 ⟨by decide, by decide⟩ q o1 A1 n1 c1 H0 M F AA AI B1 m1 d1 w3)
        rw [hg3] at HA
        have HGg3 := hide hg3
        clear hg3
        obtain ⟨a0, a1, a2, a3, a4, a5, a6, a7, a8⟩ := blk9 HS.out.ka
        go_wp2_with fail
        refine HA.out.mono ?_
        rintro e w4 ⟨rfl, hb⟩
        have HS := hide (HS.out.call hb)
        have HPU := hide (HPU.out.below hb)
        clear hb HA a0 a1 a2 a3 a4 a5 a6 a7 a8
        have c1_ : w4.cell? ⟨w.heap.size, 1, none⟩ = some (.int .u32 x.id) := HS.out.kc.cell 1
        have z0 : w4.cell? ⟨w.heap.size + 1 + 1 + 1, 0, none⟩ = some (.int .i64 (q : Int)) := HS.out.ka.cell 0
        have z3 := HS.out.ka.cell 3
        have zf := fun i => HS.out.ka.frozen i
        have hq9 := Hq8.out.1
        cases g3
        · have e3 : q1 = q + 8 := HE1.out.symm.trans (setB_not HGg3.out)
          have HE3 := hide e3
          clear e3
          go_wp2
          go_meet
          rw [HE3.out]
          exact ⟨(HS.out.set_ 0 _).set_ 3 _, (HPU.out.set_ (by omega) _).set_ (by omega) _⟩
        · have e3 : q1 = q := HE1.out.symm.trans (setB_of HGg3.out)
          have HE3 := hide e3
          clear e3
          go_wp2
          go_meet
          rw [HE3.out]
          exact ⟨HS.out.set_ 3 _, HPU.out.set_ (by omega) _⟩
    case rest =>
      obtain ⟨hs, hpu⟩ := hcut
      clear HS HPU
      have HS := hide hs
      have HPU := hide hpu
      clear hs hpu
      obtain ⟨w5, hwx⟩ : ∃ W, W = wc := ⟨_, rfl⟩
      subst hwx
      clear HQ1 HH1
      cases ib
      · skip
        obtain ⟨qa, hqa⟩ : ∃ v, setB q1 2 = v := ⟨_, rfl⟩
        have hr := HRes.out
        rw [if_neg (by decide)] at hr
        rw [hqa] at hr
        have HOa : Hid (Own8 qa) := hide (by rw [← hqa]; exact own8_set HO1.out ⟨by decide, by decide⟩)
        have HQa := hide hqa
        obtain ⟨qb, hqb⟩ : ∃ v, clrB qa 5 = v := ⟨_, rfl⟩
        rw [hqb] at hr
        have HOb : Hid (Own8 qb) := hide (by rw [← hqb]; exact own8_clr HOa.out ⟨by decide, by decide⟩)
        have HQb := hide hqb
        obtain ⟨F2, hF2⟩ : ∃ v, (if attB (qa : Int) 5 = true then 0 else F) = v := ⟨_, rfl⟩
        rw [hF2] at hr
        have HF2 := hide hF2
        obtain ⟨kp, hkp⟩ : ∃ v, (!r.loc && attB (qb : Int) 4 && attB r.at_.has 4 && (M == r.at_.med)) = v := ⟨_, rfl⟩
        rw [hkp] at hr
        have HKp := hide hkp
        obtain ⟨qc, hqc⟩ : ∃ v, (if kp = true then clrB qb 4 else qb) = v := ⟨_, rfl⟩
        obtain ⟨M2, hM2⟩ : ∃ v, (if kp = true then 0 else M) = v := ⟨_, rfl⟩
        rw [hqc, hM2] at hr
        have HQc := hide hqc
        have HM2 := hide hM2
        obtain ⟨PN, hPN⟩ : ∃ v, normS (chunkS (List.replicate (timesN 1) cas) ++ P) = v := ⟨_, rfl⟩
        rw [hPN] at hr
        have HPN := hide hPN
        have HResO := hide hr
        clear HRes hqa hr hqb hF2 hkp hqc hM2 hPN
        obtain ⟨g2, hg2⟩ : ∃ g, attB (q1 : Int) 2 = g := ⟨_, rfl⟩
        have HA := hide (refAHas_any 2 ⟨by decide, by decide⟩ q1 o1 A1 n1 c1 h1 M F AA AI B1 m1 d1 w5)
        rw [hg2] at HA
        have HGg2 := hide hg2
        clear hg2
        obtain ⟨a0, a1, a2, a3, a4, a5, a6, a7, a8⟩ := blk9 HS.out.ka
        go_wp2_with fail
        refine HA.out.mono ?_
        rintro e w6 ⟨rfl, hb⟩
        have HS := hide (HS.out.call hb)
        have HPU := hide (HPU.out.below hb)
        clear hb HA a0 a1 a2 a3 a4 a5 a6 a7 a8
        go_upto_if 45 with fail
        go_cut [] (fun wc => WS w x y r (atC qa o1 A1 n1 c1 h1 M F AA AI B1 m1 d1) wc ∧ PU (w.heap.size + 1 + 1 + 1 + 1 + 1) wc A1 n1 c1 B1 m1 d1 P C)
        case first =>
          have z0 : w6.cell? ⟨w.heap.size + 1 + 1 + 1, 0, none⟩ = some (.int .i64 (q1 : Int)) := HS.out.ka.cell 0
          have zf := fun i => HS.out.ka.frozen i
          have hq9 := HO1.out.1
          cases g2
          · have e3 : qa = q1 + 4 := HQa.out.symm.trans (setB_not HGg2.out)
            have HE3 := hide e3
            clear e3
            go_wp2
            go_meet
            rw [HE3.out]
            exact ⟨HS.out.set_ 0 _, HPU.out.set_ (by omega) _⟩
          · have e3 : qa = q1 := HQa.out.symm.trans (setB_of HGg2.out)
            have HE3 := hide e3
            clear e3
            go_wp2
            go_meet
            rw [HE3.out]
            exact ⟨HS.out, HPU.out⟩
        case rest =>
          obtain ⟨hs, hpu⟩ := hcut
          clear HS HPU
          have HS := hide hs
          have HPU := hide hpu
          clear hs hpu
          obtain ⟨w7, hwx⟩ : ∃ W, W = wc := ⟨_, rfl⟩
          subst hwx
          have hn1 : n1 ≤ 10000 := by rw [← HPU.out.lst.1]; exact HNl.out
          have HPr := hide (refprepF_any A1 n1 c1 cas 1 P w7 HPU.out.lst Hcas.out (by have := HNum.out; omega) hn1)
          clear hn1
          have c0 : w7.cell? ⟨w.heap.size, 0, none⟩ = some (.int .u32 (cas : Int)) := by rw [← Hx.out]; exact HS.out.kc.cell 0
          have a2 := HS.out.ka.cell 2
          go_wp2_with fail
          refine HPr.out.mono ?_
          intro e w8 hmv
          unfold RefPF at hmv
          obtain ⟨A2, n2, c2, xs2, rfl, hl, hb⟩ := hmv
          rw [HPN.out] at hl
          have hs : (w.heap.size + 1 + 1 + 1 + 1 + 1) ≤ w7.heap.size := HS.out.kz.lt
          have HPU : Hid (PU (w.heap.size + 1 + 1 + 1 + 1 + 1) w8 A2 n2 c2 B1 m1 d1 PN C) := hide ⟨⟨xs2, hl.less hs hs⟩, HPU.out.2.below hb⟩
          have HS := hide (HS.out.call hb)
          clear hl hb hs c0 a2
          have a2 := HS.out.ka.cell 2
          have af := fun i => HS.out.ka.frozen i
          go_upto_region 14 with fail
          obtain ⟨w9, hw9⟩ : ∃ W, w8.setCell ⟨w.heap.size + 1 + 1 + 1, 2, none⟩ (.slice A2 n2 c2) = W := ⟨_, rfl⟩
          have HS9 : Hid (WS w x y r (atC qa o1 A2 n2 c2 h1 M F AA AI B1 m1 d1) w9) := hide (hw9 ▸ HS.out.set_ 2 (.slice A2 n2 c2))
          have HPU9 : Hid (PU (w.heap.size + 1 + 1 + 1 + 1 + 1) w9 A2 n2 c2 B1 m1 d1 PN C) := hide (hw9 ▸ HPU.out.set_ (H := w.heap.size + 1 + 1 + 1) (i := 2) (by omega) (.slice A2 n2 c2))
          rw [hw9]
          clear hw9 a2 af HS HPU
          have HS := hide HS9.out
          have HPU := hide HPU9.out
          clear HS9 HPU9
          obtain ⟨g5, hg5⟩ : ∃ g, attB (qa : Int) 5 = g := ⟨_, rfl⟩
          have HA := hide (refAHas_any 5 ⟨by decide, by decide⟩ qa o1 A2 n2 c2 h1 M F AA AI B1 m1 d1 w9)
          rw [hg5] at HA
          have HGg5 := hide hg5
          clear hg5
          obtain ⟨a0, a1, a2, a3, a4, a5, a6, a7, a8⟩ := blk9 HS.out.ka
          go_wp2_with fail
          refine HA.out.mono ?_
          rintro e w10 ⟨rfl, hb⟩
          have HS := hide (HS.out.call hb)
          have HPU := hide (HPU.out.below hb)
          clear hb HA a0 a1 a2 a3 a4 a5 a6 a7 a8
          go_upto_if 57 with fail
          go_cut [] (fun wc => WS w x y r (atC qb o1 A2 n2 c2 h1 M F2 AA AI B1 m1 d1) wc ∧ PU (w.heap.size + 1 + 1 + 1 + 1 + 1) wc A2 n2 c2 B1 m1 d1 PN C)
          case first =>
            have z0 : w10.cell? ⟨w.heap.size + 1 + 1 + 1, 0, none⟩ = some (.int .i64 (qa : Int)) := HS.out.ka.cell 0
            have z5 := HS.out.ka.cell 5
            have zf := fun i => HS.out.ka.frozen i
            have hq9 := HOa.out.1
            have hf := HF2.out
            rw [HGg5.out] at hf
            cases g5
            · have e3 : qb = qa := HQb.out.symm.trans (clrB_not HGg5.out)
              simp only [Bool.false_eq_true, if_false] at hf
              have HE3 := hide e3
              have HF := hide hf
              clear e3 hf
              go_wp2
              go_meet
              rw [HE3.out, ← HF.out]
              exact ⟨HS.out, HPU.out⟩
            · have e3 : ((qb : Nat) : Int) = (qa : Int) - 32 := by rw [← HQb.out]; exact clrB_int hq9 ⟨by decide, by decide⟩ HGg5.out
              simp only [if_true] at hf
              have HE3 := hide e3
              have HF := hide hf
              clear e3 hf
              go_wp2
              go_meet
              rw [HE3.out, ← HF.out]
              exact ⟨(HS.out.set_ 0 _).set_ 5 _, (HPU.out.set_ (by omega) _).set_ (by omega) _⟩
          case rest =>
            obtain ⟨hs, hpu⟩ := hcut
            clear HS HPU
            have HS := hide hs
            have HPU := hide hpu
            clear hs hpu
            obtain ⟨w11, hwx⟩ : ∃ W, W = wc := ⟨_, rfl⟩
            subst hwx
            have r15 : w11.cell? ⟨w.heap.size + 1 + 1, 15, none⟩ = some (.bool r.loc) := HS.out.kr.cell 15
            go_upto_region 16 with fail
            go_cut [82] (fun s82 wc => s82 = .bool kp ∧ WS w x y r (atC qb o1 A2 n2 c2 h1 M F2 AA AI B1 m1 d1) wc ∧ PU (w.heap.size + 1 + 1 + 1 + 1 + 1) wc A2 n2 c2 B1 m1 d1 PN C)
            case first =>
              have hk := HKp.out
              obtain ⟨lc, hlc⟩ : ∃ b, r.loc = b := ⟨_, rfl⟩
              rw [hlc] at r15 hk
              clear hlc
              have HK := hide hk
              clear hk
              cases lc
              · skip
                obtain ⟨g4, hg4⟩ : ∃ g, attB (qb : Int) 4 = g := ⟨_, rfl⟩
                have HA := hide (refAHas_any 4 ⟨by decide, by decide⟩ qb o1 A2 n2 c2 h1 M F2 AA AI B1 m1 d1 w11)
                rw [hg4] at HA
                have HGg4 := hide hg4
                clear hg4
                obtain ⟨a0, a1, a2, a3, a4, a5, a6, a7, a8⟩ := blk9 HS.out.ka
                go_wp2_with fail
                refine HA.out.mono ?_
                rintro e w12 ⟨rfl, hb⟩
                have HS := hide (HS.out.call hb)
                have HPU := hide (HPU.out.below hb)
                clear hb HA a0 a1 a2 a3 a4 a5 a6 a7 a8
                cases g4
                · go_wp2
                  go_meet
                  exact ⟨by rw [← HK.out, HGg4.out]; try simp, HS.out, HPU.out⟩
                · obtain ⟨r0, r1, r2, r3, r4, r5, r6, r7, r8, r9, r10, r11, r12, r13, r14, r15⟩ := blk16 HS.out.kr
                  obtain ⟨g5', hg5'⟩ : ∃ g, attB r.at_.has 4 = g := ⟨_, rfl⟩
                  have HA := hide (refAHas_any 4 ⟨by decide, by decide⟩ r.at_.has r.at_.org r.A r.n r.c r.at_.hop r.at_.med r.at_.pref r.at_.aas r.at_.aid r.B r.m r.d w12)
                  rw [hg5'] at HA
                  have HG5 := hide hg5'
                  clear hg5'
                  go_wp2_with fail
                  refine HA.out.mono ?_
                  rintro e w13 ⟨rfl, hb⟩
                  have HS := hide (HS.out.call hb)
                  have HPU := hide (HPU.out.below hb)
                  clear hb HA r0 r1 r2 r3 r4 r5 r6 r7 r8 r9 r10 r11 r12 r13 r14 r15
                  have r6 : w13.cell? ⟨w.heap.size + 1 + 1, 6, none⟩ = some (.int .u32 r.at_.med) := HS.out.kr.cell 6
                  have a4 : w13.cell? ⟨w.heap.size + 1 + 1 + 1, 4, none⟩ = some (.int .u32 M) := HS.out.ka.cell 4
                  cases g5'
                  · go_wp2
                    go_meet
                    exact ⟨by rw [← HK.out, HGg4.out, HG5.out]; try simp, HS.out, HPU.out⟩
                  · go_wp2
                    go_meet
                    exact ⟨by rw [← HK.out, HGg4.out, HG5.out]; try simp, HS.out, HPU.out⟩
              · go_wp2
                go_meet
                exact ⟨by rw [← HK.out]; try simp, HS.out, HPU.out⟩
            case rest =>
              obtain ⟨rfl, hcut⟩ := hcut
              obtain ⟨hs, hpu⟩ := hcut
              clear HS HPU
              have HS := hide hs
              have HPU := hide hpu
              clear hs hpu
              obtain ⟨w14, hwx⟩ : ∃ W, W = wc := ⟨_, rfl⟩
              subst hwx
              go_upto_if 82 with fail
              go_cut [] (fun wc => WS w x y r (atC qc o1 A2 n2 c2 h1 M2 F2 AA AI B1 m1 d1) wc ∧ PU (w.heap.size + 1 + 1 + 1 + 1 + 1) wc A2 n2 c2 B1 m1 d1 PN C)
              case first =>
                have z0 : w14.cell? ⟨w.heap.size + 1 + 1 + 1, 0, none⟩ = some (.int .i64 (qb : Int)) := HS.out.ka.cell 0
                have z4 := HS.out.ka.cell 4
                have zf := fun i => HS.out.ka.frozen i
                have hq9 := HOb.out.1
                have h1' := HQc.out
                have h2' := HM2.out
                cases kp
                · simp only [Bool.false_eq_true, if_false] at h1' h2'
                  have H1 := hide h1'
                  have H2 := hide h2'
                  clear h1' h2'
                  go_wp2
                  go_meet
                  rw [← H1.out, ← H2.out]
                  exact ⟨HS.out, HPU.out⟩
                · simp only [if_true] at h1' h2'
                  have hg4 : attB (qb : Int) 4 = true := by
                    have hk := HKp.out
                    simp only [Bool.and_eq_true] at hk
                    exact hk.1.1.2
                  have e3 : ((qc : Nat) : Int) = (qb : Int) - 16 := by rw [← h1']; exact clrB_int hq9 ⟨by decide, by decide⟩ hg4
                  have H1 := hide e3
                  have H2 := hide h2'
                  clear h1' h2' e3 hg4
                  go_wp2
                  go_meet
                  rw [H1.out, ← H2.out]
                  exact ⟨(HS.out.set_ 0 _).set_ 4 _, (HPU.out.set_ (by omega) _).set_ (by omega) _⟩
              case rest =>
                obtain ⟨hs, hpu⟩ := hcut
                clear HS HPU
                have HS := hide hs
                have HPU := hide hpu
                clear hs hpu
                obtain ⟨w15, hwx⟩ : ∃ W, W = wc := ⟨_, rfl⟩
                subst hwx
                obtain ⟨⟨xs9, hl9⟩, hu9⟩ := HPU.out
                have hlt : w.heap.size + 1 + 1 + 1 + 1 < (w.heap.size + 1 + 1 + 1 + 1 + 1) := by omega
                have HO : Hid (AtO (w.heap.size + 1 + 1 + 1 + 1 + 1) w15 RES (atV qc o1 A2 n2 c2 h1 M2 F2 AA AI B1 m1 d1)) := hide (by rw [HResO.out]; exact ⟨A2, n2, c2, xs9, B1, m1, d1, rfl, hl9, hu9⟩)
                clear hl9 hu9
                obtain ⟨a0, a1, a2, a3, a4, a5, a6, a7, a8⟩ := blk9 HS.out.ka
                obtain ⟨z0, z1, z2, z3, z4, z5, z6, z7, z8⟩ := blk9 HS.out.kz
                have zf := fun i => HS.out.kz.frozen i
                go_wp2
                change bodyPost _ _ _ _ _ (w15.setCells (w.heap.size + 1 + 1 + 1 + 1) 0 [.int .i64 qc, .int .i64 o1, .slice A2 n2 c2, .int .u32 h1, .int .u32 M2, .int .u32 F2, .int .u32 AA, .int .u32 AI, .slice B1 m1 d1])
                obtain ⟨wF, hwF⟩ : ∃ x, w15.setCells (w.heap.size + 1 + 1 + 1 + 1) 0 [.int .i64 qc, .int .i64 o1, .slice A2 n2 c2, .int .u32 h1, .int .u32 M2, .int .u32 F2, .int .u32 AA, .int .u32 AI, .slice B1 m1 d1] = x := ⟨_, rfl⟩
                have HFk := hide (hwF ▸ blk9_set HS.out.kz : Blk wF (w.heap.size + 1 + 1 + 1 + 1) 40 (atC qc o1 A2 n2 c2 h1 M2 F2 AA AI B1 m1 d1))
                have HFo := hide (hwF ▸ AtO.sets _ 0 HO.out hlt : AtO (w.heap.size + 1 + 1 + 1 + 1 + 1) wF RES (atV qc o1 A2 n2 c2 h1 M2 F2 AA AI B1 m1 d1))
                have HFb := hide (hwF ▸ below_sets _ 0 HS.out.bel (by omega) : Below w.heap.size w wF)
                rw [hwF]
                clear hwF z0 z1 z2 z3 z4 z5 z6 z7 z8 zf a0 a1 a2 a3 a4 a5 a6 a7 a8
                obtain ⟨z0, z1, z2, z3, z4, z5, z6, z7, z8⟩ := blk9 HFk.out
                exact bodyPost_ret (v := atV qc o1 A2 n2 c2 h1 M2 F2 AA AI B1 m1 d1) (by simp [results, Tryz.results14, go_sem, z0, z1, z2, z3, z4, z5, z6, z7, z8]) rfl ⟨_, rfl, HFo.out.less (b' := w.heap.size) (by omega), HFb.out⟩
      · obtain ⟨F1, hF1⟩ : ∃ v, (if attB (q1 : Int) 5 = true then F else 100) = v := ⟨_, rfl⟩
        have hr := HRes.out
        rw [if_pos (show ((true : Bool) = true) from rfl), hF1] at hr
        have HF1 := hide hF1
        have HResI := hide hr
        clear HRes hF1 hr
        obtain ⟨g5, hg5⟩ : ∃ g, attB (q1 : Int) 5 = g := ⟨_, rfl⟩
        have HA := hide (refAHas_any 5 ⟨by decide, by decide⟩ q1 o1 A1 n1 c1 h1 M F AA AI B1 m1 d1 w5)
        rw [hg5] at HA
        have HGg5 := hide hg5
        clear hg5
        obtain ⟨a0, a1, a2, a3, a4, a5, a6, a7, a8⟩ := blk9 HS.out.ka
        go_wp2_with fail
        refine HA.out.mono ?_
        rintro e w6 ⟨rfl, hb⟩
        have HS := hide (HS.out.call hb)
        have HPU := hide (HPU.out.below hb)
        clear hb HA a0 a1 a2 a3 a4 a5 a6 a7 a8
        go_upto_if 36 with fail
        go_cut [] (fun wc => WS w x y r (atC (setB q1 5 : Nat) o1 A1 n1 c1 h1 M F1 AA AI B1 m1 d1) wc ∧ PU (w.heap.size + 1 + 1 + 1 + 1 + 1) wc A1 n1 c1 B1 m1 d1 P C)
        case first =>
          have z0 : w6.cell? ⟨w.heap.size + 1 + 1 + 1, 0, none⟩ = some (.int .i64 (q1 : Int)) := HS.out.ka.cell 0
          have z5 := HS.out.ka.cell 5
          have zf := fun i => HS.out.ka.frozen i
          have hq9 := HO1.out.1
          have hf := HF1.out
          rw [HGg5.out] at hf
          cases g5
          · have e3 : setB q1 5 = q1 + 32 := setB_not HGg5.out
            simp only [Bool.false_eq_true, if_false] at hf
            have HE3 := hide e3
            have HF := hide hf
            clear e3 hf
            go_wp2
            go_meet
            rw [HE3.out, ← HF.out]
            exact ⟨(HS.out.set_ 0 _).set_ 5 _, (HPU.out.set_ (by omega) _).set_ (by omega) _⟩
          · have e3 : setB q1 5 = q1 := setB_of HGg5.out
            simp only [if_true] at hf
            have HE3 := hide e3
            have HF := hide hf
            clear e3 hf
            go_wp2
            go_meet
            rw [HE3.out, ← HF.out]
            exact ⟨HS.out, HPU.out⟩
        case rest =>
          obtain ⟨hs, hpu⟩ := hcut
          clear HS HPU
          have HS := hide hs
          have HPU := hide hpu
          clear hs hpu
          obtain ⟨w7, hwx⟩ : ∃ W, W = wc := ⟨_, rfl⟩
          subst hwx
          obtain ⟨⟨xs9, hl9⟩, hu9⟩ := HPU.out
          have hlt : w.heap.size + 1 + 1 + 1 + 1 < (w.heap.size + 1 + 1 + 1 + 1 + 1) := by omega
          have HO : Hid (AtO (w.heap.size + 1 + 1 + 1 + 1 + 1) w7 RES (atV (setB q1 5 : Nat) o1 A1 n1 c1 h1 M F1 AA AI B1 m1 d1)) := hide (by rw [HResI.out]; exact ⟨A1, n1, c1, xs9, B1, m1, d1, rfl, hl9, hu9⟩)
          clear hl9 hu9
          obtain ⟨a0, a1, a2, a3, a4, a5, a6, a7, a8⟩ := blk9 HS.out.ka
          obtain ⟨z0, z1, z2, z3, z4, z5, z6, z7, z8⟩ := blk9 HS.out.kz
          have zf := fun i => HS.out.kz.frozen i
          go_wp2
          change bodyPost _ _ _ _ _ (w7.setCells (w.heap.size + 1 + 1 + 1 + 1) 0 [.int .i64 (setB q1 5 : Nat), .int .i64 o1, .slice A1 n1 c1, .int .u32 h1, .int .u32 M, .int .u32 F1, .int .u32 AA, .int .u32 AI, .slice B1 m1 d1])
          obtain ⟨wF, hwF⟩ : ∃ x, w7.setCells (w.heap.size + 1 + 1 + 1 + 1) 0 [.int .i64 (setB q1 5 : Nat), .int .i64 o1, .slice A1 n1 c1, .int .u32 h1, .int .u32 M, .int .u32 F1, .int .u32 AA, .int .u32 AI, .slice B1 m1 d1] = x := ⟨_, rfl⟩
          have HFk := hide (hwF ▸ blk9_set HS.out.kz : Blk wF (w.heap.size + 1 + 1 + 1 + 1) 40 (atC (setB q1 5 : Nat) o1 A1 n1 c1 h1 M F1 AA AI B1 m1 d1))
          have HFo := hide (hwF ▸ AtO.sets _ 0 HO.out hlt : AtO (w.heap.size + 1 + 1 + 1 + 1 + 1) wF RES (atV (setB q1 5 : Nat) o1 A1 n1 c1 h1 M F1 AA AI B1 m1 d1))
          have HFb := hide (hwF ▸ below_sets _ 0 HS.out.bel (by omega) : Below w.heap.size w wF)
          rw [hwF]
          clear hwF z0 z1 z2 z3 z4 z5 z6 z7 z8 zf a0 a1 a2 a3 a4 a5 a6 a7 a8
          obtain ⟨z0, z1, z2, z3, z4, z5, z6, z7, z8⟩ := blk9 HFk.out
          exact bodyPost_ret (v := atV (setB q1 5 : Nat) o1 A1 n1 c1 h1 M F1 AA AI B1 m1 d1) (by simp [results, Tryz.results14, go_sem, z0, z1, z2, z3, z4, z5, z6, z7, z8]) rfl ⟨_, rfl, HFo.out.less (b' := w.heap.size) (by omega), HFb.out⟩
end Go.Proofs.YtplhnhoijficgaaGreat
set_option linter.unusedSimpArgs false
set_option linter.unusedVariables false
namespace Go.Proofs.YtplhnhoijficgaaGreat
open Go.RowKit Go.WideShapes Go.ChangeShapes
theorem ite_id {α : Type} {c : Bool} {v z : α} (h : c = false → v = z) : (if c = true then v else z) = v := by
  cases c
  · exact (h rfl).symm
  · rfl
/-- Attributes in their own form. -/
structure NF (q : Nat) (n : AT) : Prop where
  own : Own8 q
  o : attB (q : Int) 1 = false → n.org = 0
  p : normS n.path = n.path
  p0 : attB (q : Int) 2 = false → n.path = []
  h : attB (q : Int) 3 = false → n.hop = 0
  m : attB (q : Int) 4 = false → n.med = 0
  f : attB (q : Int) 5 = false → n.pref = 0
  a : attB (q : Int) 7 = false → n.aas = 0
  i : attB (q : Int) 7 = false → n.aid = 0
  c : setOf n.comms = n.comms
  c0 : attB (q : Int) 8 = false → n.comms = []
theorem nf_norm (X : AT) : NF (nmH X.has) (normA X) := by
  have e : ∀ k, K8 k → attB (nmH X.has : Int) k = attB X.has k := fun k hk => hb_nm X.has k hk
  refine ⟨own8_nm _, fun h => ?_, ?_, fun h => ?_, fun h => ?_, fun h => ?_, fun h => ?_, fun h => ?_, fun h => ?_, ?_, fun h => ?_⟩
  · rw [e 1 ⟨by decide, by decide⟩] at h; unfold normA; simp [h]
  · show normS (if attB X.has 2 then normS X.path else []) = if attB X.has 2 then normS X.path else []
    split
    · exact normS_idem _
    · rfl
  · rw [e 2 ⟨by decide, by decide⟩] at h; unfold normA; simp [h]
  · rw [e 3 ⟨by decide, by decide⟩] at h; unfold normA; simp [h]
  · rw [e 4 ⟨by decide, by decide⟩] at h; unfold normA; simp [h]
  · rw [e 5 ⟨by decide, by decide⟩] at h; unfold normA; simp [h]
  · rw [e 7 ⟨by decide, by decide⟩] at h; unfold normA; simp [h]
  · rw [e 7 ⟨by decide, by decide⟩] at h; unfold normA; simp [h]
  · show setOf (if attB X.has 8 then setOf X.comms else []) = if attB X.has 8 then setOf X.comms else []
    split
    · exact setOf_idem _
    · rfl
  · rw [e 8 ⟨by decide, by decide⟩] at h; unfold normA; simp [h]
theorem nA {Q : Nat} (hQ : Own8 Q) (o : Int) (P : List SG) (h M F AA AI : Int) (C : List Nat) : normA ⟨(Q : Int), o, P, h, M, F, AA, AI, C⟩ = ⟨(Q : Int), if attB (Q : Int) 1 then o else 0, if attB (Q : Int) 2 then normS P else [], if attB (Q : Int) 3 then h else 0, if attB (Q : Int) 4 then M else 0, if attB (Q : Int) 5 then F else 0, if attB (Q : Int) 7 then AA else 0, if attB (Q : Int) 7 then AI else 0, if attB (Q : Int) 8 then setOf C else []⟩ := by
  unfold normA
  rw [own8_nmH hQ]
theorem wire_eq (cas : Nat) (cid pas : Int) (loc : Bool) (rh rmd : Int) (X : AT) : wireA cas cid pas loc rh rmd X = refWireA cas cid pas loc rh rmd X := by
  have N := nf_norm X
  unfold wireA refWireA
  obtain ⟨q, hq⟩ : ∃ q, nmH X.has = q := ⟨_, rfl⟩
  obtain ⟨n, hn⟩ : ∃ n, normA X = n := ⟨_, rfl⟩
  rw [hq, hn] at N
  simp only [hq, hn]
  obtain ⟨t, ht⟩ : ∃ t, (loc || !(pas == (cas : Int))) = t := ⟨_, rfl⟩
  simp only [ht]
  obtain ⟨q1, hq1⟩ : ∃ v, (if t = true then setB q 3 else q) = v := ⟨_, rfl⟩
  obtain ⟨h1, hh1⟩ : ∃ v, (if t = true then cid else n.hop) = v := ⟨_, rfl⟩
  simp only [hq1, hh1]
  have O1 : Own8 q1 := by rw [← hq1]; split; exact own8_set N.own ⟨by decide, by decide⟩; exact N.own
  have e1 : ∀ k, K8 k → k ≠ 3 → attB (q1 : Int) k = attB (q : Int) k := fun k hk h3 => by
    rw [← hq1]
    split
    · rw [hb_set N.own.1 ⟨by decide, by decide⟩ hk]; simp [h3]
    · rfl
  have e3 : attB (q1 : Int) 3 = false → h1 = 0 := fun h => by
    cases t with
    | true =>
      simp only [if_true] at hq1
      rw [← hq1, hb_set N.own.1 ⟨by decide, by decide⟩ ⟨by decide, by decide⟩] at h
      simp at h
    | false =>
      simp only [Bool.false_eq_true, if_false] at hq1 hh1
      rw [← hq1] at h
      rw [← hh1]
      exact N.h h
  by_cases hin : (pas == (cas : Int)) = true
  · rw [if_pos hin, if_pos hin, nA (own8_set O1 ⟨by decide, by decide⟩)]
    have s : ∀ k, K8 k → k ≠ 5 → attB (setB q1 5 : Nat) k = attB (q1 : Int) k := fun k hk h5 => by rw [hb_set O1.1 ⟨by decide, by decide⟩ hk]; simp [h5]
    have s5 : attB (setB q1 5 : Nat) 5 = true := by rw [hb_set O1.1 ⟨by decide, by decide⟩ ⟨by decide, by decide⟩]; simp
    rw [s5, s 1 ⟨by decide, by decide⟩ (by decide), s 2 ⟨by decide, by decide⟩ (by decide), s 3 ⟨by decide, by decide⟩ (by decide), s 4 ⟨by decide, by decide⟩ (by decide), s 7 ⟨by decide, by decide⟩ (by decide), s 8 ⟨by decide, by decide⟩ (by decide),
      ite_id e3, e1 1 ⟨by decide, by decide⟩ (by decide), e1 2 ⟨by decide, by decide⟩ (by decide), e1 4 ⟨by decide, by decide⟩ (by decide), e1 7 ⟨by decide, by decide⟩ (by decide), e1 8 ⟨by decide, by decide⟩ (by decide),
      N.p, N.c, ite_id N.o, ite_id N.p0, ite_id N.m, ite_id N.a, ite_id N.i, ite_id N.c0]
    rfl
  · rw [if_neg hin, if_neg hin]
    obtain ⟨qa, hqa⟩ : ∃ v, setB q1 2 = v := ⟨_, rfl⟩
    obtain ⟨qb, hqb⟩ : ∃ v, clrB qa 5 = v := ⟨_, rfl⟩
    simp only [hqa, hqb]
    have Oa : Own8 qa := by rw [← hqa]; exact own8_set O1 ⟨by decide, by decide⟩
    have Ob : Own8 qb := by rw [← hqb]; exact own8_clr Oa ⟨by decide, by decide⟩
    have sa : ∀ k, K8 k → attB (qa : Int) k = (decide (k = 2) || attB (q1 : Int) k) := fun k hk => by rw [← hqa]; exact hb_set O1.1 ⟨by decide, by decide⟩ hk
    have sb : ∀ k, K8 k → attB (qb : Int) k = (!decide (k = 5) && attB (qa : Int) k) := fun k hk => by rw [← hqb]; exact hb_clr Oa.1 ⟨by decide, by decide⟩ hk
    obtain ⟨K, hK⟩ : ∃ v, (!loc && attB (qb : Int) 4 && attB rh 4 && (n.med == rmd)) = v := ⟨_, rfl⟩
    simp only [hK]
    obtain ⟨qc, hqc⟩ : ∃ v, (if K = true then clrB qb 4 else qb) = v := ⟨_, rfl⟩
    rw [hqc]
    have Oc : Own8 qc := by rw [← hqc]; split; exact own8_clr Ob ⟨by decide, by decide⟩; exact Ob
    have sc : ∀ k, K8 k → k ≠ 4 → attB (qc : Int) k = attB (qb : Int) k := fun k hk h4 => by
      rw [← hqc]
      split
      · rw [hb_clr Ob.1 ⟨by decide, by decide⟩ hk]; simp [h4]
      · rfl
    have f : ∀ k, K8 k → k ≠ 2 → k ≠ 3 → k ≠ 4 → k ≠ 5 → attB (qc : Int) k = attB (q : Int) k := fun k hk h2 h3 h4 h5 => by
      rw [sc k hk h4, sb k hk, sa k hk, e1 k hk h3]; simp [h2, h5]
    have f2 : attB (qc : Int) 2 = true := by rw [sc 2 ⟨by decide, by decide⟩ (by decide), sb 2 ⟨by decide, by decide⟩, sa 2 ⟨by decide, by decide⟩]; simp
    have f3 : attB (qc : Int) 3 = attB (q1 : Int) 3 := by rw [sc 3 ⟨by decide, by decide⟩ (by decide), sb 3 ⟨by decide, by decide⟩, sa 3 ⟨by decide, by decide⟩]; simp
    have f5 : attB (qc : Int) 5 = false := by rw [sc 5 ⟨by decide, by decide⟩ (by decide), sb 5 ⟨by decide, by decide⟩]; simp
    have f4 : (if attB (qc : Int) 4 = true then n.med else 0) = if K = true then 0 else n.med := by
      cases K with
      | true =>
        simp only [if_true] at hqc
        rw [← hqc, hb_clr Ob.1 ⟨by decide, by decide⟩ ⟨by decide, by decide⟩]
        simp
      | false =>
        simp only [Bool.false_eq_true, if_false] at hqc ⊢
        refine ite_id fun h => N.m ?_
        rw [← hqc, sb 4 ⟨by decide, by decide⟩, sa 4 ⟨by decide, by decide⟩, e1 4 ⟨by decide, by decide⟩ (by decide)] at h
        simpa using h
    have fp : (0 : Int) = if attB (qa : Int) 5 = true then 0 else n.pref := by
      rw [sa 5 ⟨by decide, by decide⟩, e1 5 ⟨by decide, by decide⟩ (by decide)]
      cases h5 : attB (q : Int) 5
      · simp [N.f h5]
      · simp
    have pre : normS (chunkS (List.replicate (timesN 1) cas) ++ n.path) = normS (⟨2, [cas]⟩ :: n.path) := norm_pre (List.replicate (timesN 1) cas) n.path (by rw [List.length_replicate]; exact timesN_le 1)
    rw [nA Oc, f2, f3, f5, f4, f 1 ⟨by decide, by decide⟩ (by decide) (by decide) (by decide) (by decide), f 7 ⟨by decide, by decide⟩ (by decide) (by decide) (by decide) (by decide), f 8 ⟨by decide, by decide⟩ (by decide) (by decide) (by decide) (by decide),
      ite_id e3, N.c, ite_id N.o, ite_id N.a, ite_id N.i, ite_id N.c0, pre, ← fp]
    simp only [if_true, Bool.false_eq_true, if_false, normS_idem]
end Go.Proofs.YtplhnhoijficgaaGreat
set_option linter.unusedSimpArgs false
set_option linter.unusedVariables false
namespace Go.Proofs.YtplhnhoijficgaaGreat
open Go.RowKit Go.WideShapes Go.ChangeShapes
attribute [local go_sem] Oper.semAt_some
set_option maxRecDepth 100000 in
theorem cloneE_seg (A : Option Addr) (c : Nat) (w : World) : Calls Tryz.prog 63 #[.slice A 0 c] w (SegP [] w) := by
  have hnil := fun w => Lib.run_eql_slice_nil (P := Tryz.prog) w
  cases A with
  | none =>
    go_enter Tryz.func63, Tryz.ntmps63
    go_wp2
    go_ret
    exact ⟨none, 0, 0, [], rfl, LOw.nil, Below.refl _ _⟩
  | some a =>
    have HB := hide ((Below.refl w.heap.size w).alloc (Nat.le_refl _) (.cells #[] 59))
    have HL := hide (low_litF w.heap.size w)
    go_enter Tryz.func63, Tryz.ntmps63
    go_wp2
    go_ret
    exact ⟨_, 0, 0, [], rfl, HL.out, HB.out⟩
abbrev clZ : Array Value := #[.int .i64 0, .bool false, .string ⟨#[]⟩, .string ⟨#[]⟩, .string ⟨#[]⟩, .bool false, .int .u32 0, .int .i64 0, .int .u32 0, .int .u32 0, .int .i64 0, .slice none 0 0, .int .u32 0, .int .i64 0]
theorem blk14 {w : World} {g : Nat} {t : TypeId} {v0 v1 v2 v3 v4 v5 v6 v7 v8 v9 v10 v11 v12 v13 : Value} (h : Blk w g t #[v0, v1, v2, v3, v4, v5, v6, v7, v8, v9, v10, v11, v12, v13]) :
    w.cell? ⟨g, 0, none⟩ = some v0 ∧ w.cell? ⟨g, 1, none⟩ = some v1 ∧ w.cell? ⟨g, 2, none⟩ = some v2 ∧ w.cell? ⟨g, 3, none⟩ = some v3 ∧ w.cell? ⟨g, 4, none⟩ = some v4 ∧ w.cell? ⟨g, 5, none⟩ = some v5 ∧ w.cell? ⟨g, 6, none⟩ = some v6 ∧ w.cell? ⟨g, 7, none⟩ = some v7 ∧ w.cell? ⟨g, 8, none⟩ = some v8 ∧ w.cell? ⟨g, 9, none⟩ = some v9 ∧ w.cell? ⟨g, 10, none⟩ = some v10 ∧ w.cell? ⟨g, 11, none⟩ = some v11 ∧ w.cell? ⟨g, 12, none⟩ = some v12 ∧ w.cell? ⟨g, 13, none⟩ = some v13 :=
  ⟨h.cell 0, h.cell 1, h.cell 2, h.cell 3, h.cell 4, h.cell 5, h.cell 6, h.cell 7, h.cell 8, h.cell 9, h.cell 10, h.cell 11, h.cell 12, h.cell 13⟩
set_option maxRecDepth 100000 in
set_option maxHeartbeats 8000000 in
theorem setZn_any (X : AT) (hp0 : X.path = []) (hc0 : X.comms = []) (v : Value) (w : World) (hv : AtR w X v) : Calls Tryz.prog 53 #[.agg clZ, v] w (AtP X w) := by
  obtain ⟨A, n, c, Bb, m, d, rfl, hP, hC⟩ := hv
  obtain rfl : n = 0 := by rw [← hP.1, hp0]; rfl
  obtain rfl : m = 0 := by rw [← hC.1, hc0]; rfl
  rw [hc0] at hC
  obtain ⟨w1, hw1⟩ : ∃ w1, (((w.alloc (.cells clZ 87)).alloc (.cells (bxC X (.slice A 0 c) (.slice Bb 0 d)) 40)).alloc (.cells zeroC 40)) = w1 := ⟨_, rfl⟩
  have hb1 : Below w.heap.size w w1 := hw1 ▸ (((Below.refl _ w).alloc (Nat.le_refl _) _).alloc (by simp) _).alloc (by simp; omega) _
  have HCl : Hid (Blk w1 w.heap.size 87 clZ) := hide (hw1 ▸ ((Blk.new w _ _).alloc _).alloc _)
  have HKb : Hid (Blk w1 (w.heap.size + 1) 40 (bxC X (.slice A 0 c) (.slice Bb 0 d))) := hide (hw1 ▸ (blk_new' _ _ (by simp)).alloc _)
  have HKz : Hid (Blk w1 ((w.heap.size + 1) + 1) 40 zeroC) := hide (hw1 ▸ blk_new' _ _ (by simp))
  have HLt : Hid (w.heap.size + 1 < w1.heap.size) := hide HKb.out.lt
  have HC := hide hC
  have HB1 := hide hb1
  have HW1 := hide hw1
  have HCNb : Hid (∀ y ∈ ([] : List Nat), y < 4294967296) := hide (by simp)
  have HX : Hid (X = ⟨X.has, X.org, [], X.hop, X.med, X.pref, X.aas, X.aid, []⟩) := hide (by obtain ⟨h, o, pl, hp, md, pf, aa, ai, cl⟩ := X; simp only at hp0 hc0; subst hp0 hc0; rfl)
  clear hw1 hb1 hP hC hp0 hc0
  go_enter Tryz.func53, Tryz.ntmps53
  go_upto_region 1 with fail
  rw [HW1.out]
  refine wp_region_relH 10 (w.heap.size + 1) (Nat.le_of_lt HLt.out) [(fun v _ => v = .pointer (some ⟨w.heap.size + 1, 2, none⟩)), (fun v _ => v = .slice A 0 c), (SlA w1.heap.size []), (fun v _ => v = .pointer (some ⟨w.heap.size + 1, 8, none⟩)), (fun v _ => v = .slice Bb 0 d), (SlB w1.heap.size []), (fun v _ => v = .pointer (some ⟨w.heap.size + 1, 2, none⟩)), (fun _ W => StA (w.heap.size + 1) w1.heap.size X [] W ), (fun v _ => v = .pointer (some ⟨w.heap.size + 1, 8, none⟩)), (fun _ W => StB (w.heap.size + 1) w1.heap.size X [] W )] (fun i W => BxA (w.heap.size + 1) X W ∧ (i = 1 → W.cell? ⟨w.heap.size + 1, 2, none⟩ = some (.slice A 0 c)) ∧ (i = 4 → W.cell? ⟨w.heap.size + 1, 8, none⟩ = some (.slice Bb 0 d))) (fun i Wa Wb => if i = 7 then ∃ v, Wb = Wa.setCell ⟨w.heap.size + 1, 2, none⟩ v else if i = 9 then ∃ v, Wb = Wa.setCell ⟨w.heap.size + 1, 8, none⟩ v else Below Wa.heap.size Wa Wb) (by kernel_rfl) (by kernel_rfl) (by kernel_rfl) (by kernel_rfl) (by kernel_rfl) ?hE ?hR ?hP ?h0 ⟨?_, ?_, ?_, ?_, ?_, ?_, ?_, ?_, ?_, ?_, trivial⟩ ?_
  case hE =>
    intro i2 wa wb hB he
    split at he
    · obtain ⟨u, rfl⟩ := he
      exact (Below.refl (w.heap.size + 1) wa).setCell (p := ⟨w.heap.size + 1, 2, none⟩) (Nat.le_refl _) u
    · split at he
      · obtain ⟨u, rfl⟩ := he
        exact (Below.refl (w.heap.size + 1) wa).setCell (p := ⟨w.heap.size + 1, 8, none⟩) (Nat.le_refl _) u
      · exact he.mono hB
  case hR =>
    intro i2 j2 v2 wa wb hij hB he h
    split at he
    · rename_i hj2
      subst hj2
      refine keepAll_at (E := fun wa wb => ∃ v, wb = wa.setCell ⟨w.heap.size + 1, 2, none⟩ v) (x := 7) (k := 0) ?_ (by omega) he h
      exact ⟨fun _ v wa wb he h => h, fun _ v wa wb he h => h, fun _ v wa wb he h => by obtain ⟨u, rfl⟩ := he; exact SlA.setv h HLt.out, fun _ v wa wb he h => h, fun _ v wa wb he h => h, fun _ v wa wb he h => by obtain ⟨u, rfl⟩ := he; exact SlB.setv h HLt.out, fun _ v wa wb he h => h, fun hn => absurd rfl hn, fun _ v wa wb he h => h, fun _ v wa wb he h => by obtain ⟨u, rfl⟩ := he; exact StB.set2 h HLt.out, trivial⟩
    · split at he
      · rename_i hj2
        subst hj2
        refine keepAll_at (E := fun wa wb => ∃ v, wb = wa.setCell ⟨w.heap.size + 1, 8, none⟩ v) (x := 9) (k := 0) ?_ (by omega) he h
        exact ⟨fun _ v wa wb he h => h, fun _ v wa wb he h => h, fun _ v wa wb he h => by obtain ⟨u, rfl⟩ := he; exact SlA.setv h HLt.out, fun _ v wa wb he h => h, fun _ v wa wb he h => h, fun _ v wa wb he h => by obtain ⟨u, rfl⟩ := he; exact SlB.setv h HLt.out, fun _ v wa wb he h => h, fun _ v wa wb he h => by obtain ⟨u, rfl⟩ := he; exact StA.set8 h HLt.out, fun _ v wa wb he h => h, fun hn => absurd rfl hn, trivial⟩
      · refine relMono _ ?_ i2 v2 wa wb he h
        exact ⟨fun _ _ _ _ h => h, fun _ _ _ _ h => h, fun v w2 w3 hb h => SlA.below h hb, fun _ _ _ _ h => h, fun _ _ _ _ h => h, fun v w2 w3 hb h => SlB.below h hb, fun _ _ _ _ h => h, fun v w1 w2 hb h => StA.below h hb, fun _ _ _ _ h => h, fun v w1 w2 hb h => StB.below h hb, trivial⟩
  case hP =>
    intro i2 j2 wa wb hij hnb hB he h
    split at he
    · rename_i hj2
      subst hj2
      obtain ⟨u, rfl⟩ := he
      refine ⟨h.1.set2 u, fun e => ?_, fun e => (cell_set_ne (by decide)).trans (h.2.2 e)⟩
      subst e
      exact absurd hnb (by decide +kernel)
    · split at he
      · rename_i hj2
        subst hj2
        obtain ⟨u, rfl⟩ := he
        refine ⟨h.1.set8 u, fun e => (cell_set_ne (by decide)).trans (h.2.1 e), fun e => ?_⟩
        subst e
        exact absurd hnb (by decide +kernel)
      · exact ⟨h.1.below he, fun e => (he.cell h.1.lt_).trans (h.2.1 e), fun e => (he.cell h.1.lt_).trans (h.2.2 e)⟩
  case h0 =>
    intro j2 hj2
    exact ⟨⟨_, _, HKb.out.drew, HKz.out.drew⟩, fun _ => HKb.out.cell 2, fun _ => HKb.out.cell 8⟩
  · refine relG_plain rfl rfl (fun _ _ h => h) ?_
    intro Ac w5 hp
    have hb := hp.bel
    have a3 : Ac.eval (.tmp 3) = .pointer (some ⟨w.heap.size + 1, 0, none⟩) := hp.out 3 (by rfl)
    have hc := evalC Ac; have hf := evalF Ac; have hgl := evalG Ac
    obtain ⟨ρ, hρ⟩ : ∃ ρ, Ac.eval = ρ := ⟨_, rfl⟩
    rw [hρ] at a3 hc hf hgl
    exact relPure hρ (.pointer (some ⟨w.heap.size + 1, 2, none⟩)) (by simp [go_sem, hc, hf, hgl, ↓IntWalk.iteOmega, a3, *]) rfl
  · refine relG_plain rfl rfl (fun _ _ h => h) ?_
    intro Ac w5 hp
    have hb := hp.bel
    have a6 : Ac.eval (.tmp 6) = .pointer (some ⟨w.heap.size + 1, 2, none⟩) := hp.dep 0 (by kernel_rfl)
    have z2 := hp.pre.2.1 rfl
    have hc := evalC Ac; have hf := evalF Ac; have hgl := evalG Ac
    obtain ⟨ρ, hρ⟩ : ∃ ρ, Ac.eval = ρ := ⟨_, rfl⟩
    rw [hρ] at a6 hc hf hgl
    exact relPure hρ (.slice A 0 c) (by simp [go_sem, hc, hf, hgl, ↓IntWalk.iteOmega, a6, *]) rfl
  · refine relG_plain rfl rfl (fun _ _ h => h) ?_
    intro Ac w5 hp
    have hb := hp.bel
    have a7 : Ac.eval (.tmp 7) = .slice A 0 c := hp.dep 1 (by kernel_rfl)
    have hc := evalC Ac; have hf := evalF Ac; have hgl := evalG Ac
    obtain ⟨ρ, hρ⟩ : ∃ ρ, Ac.eval = ρ := ⟨_, rfl⟩
    rw [hρ] at a7 hc hf hgl
    refine relCall hρ 63 #[.slice A 0 c] (by simp [go_sem, hc, hf, hgl, ↓IntWalk.iteOmega, a7, *]) ?_
    refine (cloneE_seg A c w5).mono ?_
    intro e w6 hmv
    unfold SegP at hmv
    obtain ⟨A6, n6, c6, xs6, rfl, hl6, hb6⟩ := hmv
    exact ⟨_, rfl, ⟨A6, n6, c6, xs6, rfl, hl6.less hp.bel.size hp.bel.size⟩, hb6⟩
  · refine relG_plain rfl rfl (fun _ _ h => h) ?_
    intro Ac w5 hp
    have hb := hp.bel
    have a3 : Ac.eval (.tmp 3) = .pointer (some ⟨w.heap.size + 1, 0, none⟩) := hp.out 3 (by rfl)
    have hc := evalC Ac; have hf := evalF Ac; have hgl := evalG Ac
    obtain ⟨ρ, hρ⟩ : ∃ ρ, Ac.eval = ρ := ⟨_, rfl⟩
    rw [hρ] at a3 hc hf hgl
    exact relPure hρ (.pointer (some ⟨w.heap.size + 1, 8, none⟩)) (by simp [go_sem, hc, hf, hgl, ↓IntWalk.iteOmega, a3, *]) rfl
  · refine relG_plain rfl rfl (fun _ _ h => h) ?_
    intro Ac w5 hp
    have hb := hp.bel
    have a9 : Ac.eval (.tmp 9) = .pointer (some ⟨w.heap.size + 1, 8, none⟩) := hp.dep 3 (by kernel_rfl)
    have z8 := hp.pre.2.2 rfl
    have hc := evalC Ac; have hf := evalF Ac; have hgl := evalG Ac
    obtain ⟨ρ, hρ⟩ : ∃ ρ, Ac.eval = ρ := ⟨_, rfl⟩
    rw [hρ] at a9 hc hf hgl
    exact relPure hρ (.slice Bb 0 d) (by simp [go_sem, hc, hf, hgl, ↓IntWalk.iteOmega, a9, *]) rfl
  · refine relG_plain rfl rfl (fun _ _ h => h) ?_
    intro Ac w5 hp
    have hb := hp.bel
    have a10 : Ac.eval (.tmp 10) = .slice Bb 0 d := hp.dep 4 (by kernel_rfl)
    have hc := evalC Ac; have hf := evalF Ac; have hgl := evalG Ac
    obtain ⟨ρ, hρ⟩ : ∃ ρ, Ac.eval = ρ := ⟨_, rfl⟩
    rw [hρ] at a10 hc hf hgl
    refine relCall hρ 57 #[.slice Bb 0 d] (by simp [go_sem, hc, hf, hgl, ↓IntWalk.iteOmega, a10, *]) ?_
    refine (cloneAll_any Bb 0 d [] w5 (HC.out.below (HB1.out.trans (hp.bel.mono (Nat.le_succ _)))) (by omega)).mono ?_
    rintro e w6 ⟨v6, rfl, ho6, hb6⟩
    obtain ⟨A6, c6, rfl⟩ := own_slice ho6
    exact ⟨_, rfl, ⟨A6, _, c6, rfl, own_u32_fr ho6 HCNb.out hp.bel.size (fun k hk => by cases hk)⟩, hb6⟩
  · refine relG_plain rfl rfl (fun _ _ h => h) ?_
    intro Ac w5 hp
    have hb := hp.bel
    have a3 : Ac.eval (.tmp 3) = .pointer (some ⟨w.heap.size + 1, 0, none⟩) := hp.out 3 (by rfl)
    have hc := evalC Ac; have hf := evalF Ac; have hgl := evalG Ac
    obtain ⟨ρ, hρ⟩ : ∃ ρ, Ac.eval = ρ := ⟨_, rfl⟩
    rw [hρ] at a3 hc hf hgl
    exact relPure hρ (.pointer (some ⟨w.heap.size + 1, 2, none⟩)) (by simp [go_sem, hc, hf, hgl, ↓IntWalk.iteOmega, a3, *]) rfl
  · refine relG_store rfl ?_
    intro Ac w5 hp
    have hb := hp.bel
    have a12 : Ac.eval (.tmp 12) = .pointer (some ⟨w.heap.size + 1, 2, none⟩) := hp.dep 6 (by kernel_rfl)
    obtain ⟨A5, n5, c5, xs5, a8, hl5⟩ := hp.dep 2 (by kernel_rfl)
    change Ac.eval (.tmp 8) = _ at a8
    have a12 : Ac.eval (.tmp 12) = .pointer (some ⟨w.heap.size + 1, 2, none⟩) := hp.dep 6 (by kernel_rfl)
    obtain ⟨A5, n5, c5, xs5, ec, hl5⟩ := hp.dep 2 (by kernel_rfl)
    change Ac.eval (.tmp 8) = _ at ec
    obtain ⟨x2, x8, hk, hz⟩ := hp.pre.1
    have HK := hide hk
    have HZ := hide (hz.far (p := ⟨w.heap.size + 1, 2, none⟩) (by show (w.heap.size + 1) + 1 ≠ w.heap.size + 1; omega) (.slice A5 n5 c5))
    have HL := hide hl5
    clear hp
    refine ⟨w5.setCell ⟨w.heap.size + 1, 2, none⟩ (.slice A5 n5 c5), .inl (exec_store rfl a12 ec (st1A HK.out rfl)), ?_, ⟨_, rfl⟩⟩
    exact ⟨_, x8, HK.out.set_ 2 _, HZ.out, ⟨A5, n5, c5, xs5, rfl, HL.out.set HLt.out HLt.out _⟩⟩
  · refine relG_plain rfl rfl (fun _ _ h => h) ?_
    intro Ac w5 hp
    have hb := hp.bel
    have a3 : Ac.eval (.tmp 3) = .pointer (some ⟨w.heap.size + 1, 0, none⟩) := hp.out 3 (by rfl)
    have hc := evalC Ac; have hf := evalF Ac; have hgl := evalG Ac
    obtain ⟨ρ, hρ⟩ : ∃ ρ, Ac.eval = ρ := ⟨_, rfl⟩
    rw [hρ] at a3 hc hf hgl
    exact relPure hρ (.pointer (some ⟨w.heap.size + 1, 8, none⟩)) (by simp [go_sem, hc, hf, hgl, ↓IntWalk.iteOmega, a3, *]) rfl
  · refine relG_store rfl ?_
    intro Ac w5 hp
    have hb := hp.bel
    have a13 : Ac.eval (.tmp 13) = .pointer (some ⟨w.heap.size + 1, 8, none⟩) := hp.dep 8 (by kernel_rfl)
    obtain ⟨A8, n8, c8, a11, hu8⟩ := hp.dep 5 (by kernel_rfl)
    change Ac.eval (.tmp 11) = _ at a11
    have a13 : Ac.eval (.tmp 13) = .pointer (some ⟨w.heap.size + 1, 8, none⟩) := hp.dep 8 (by kernel_rfl)
    obtain ⟨A8, n8, c8, ec, hu8⟩ := hp.dep 5 (by kernel_rfl)
    change Ac.eval (.tmp 11) = _ at ec
    obtain ⟨x2, x8, hk, hz⟩ := hp.pre.1
    have HK := hide hk
    have HZ := hide (hz.far (p := ⟨w.heap.size + 1, 8, none⟩) (by show (w.heap.size + 1) + 1 ≠ w.heap.size + 1; omega) (.slice A8 n8 c8))
    have HL := hide hu8
    clear hp
    refine ⟨w5.setCell ⟨w.heap.size + 1, 8, none⟩ (.slice A8 n8 c8), .inl (exec_store rfl a13 ec (st1B HK.out rfl)), ?_, ⟨_, rfl⟩⟩
    exact ⟨x2, _, HK.out.set_ 8 _, HZ.out, ⟨A8, n8, c8, rfl, HL.out.set (p := ⟨w.heap.size + 1, 8, none⟩) HLt.out _⟩⟩
  intro u w7 hb7 hall
  have efin : StA (w.heap.size + 1) w1.heap.size X [] w7  := relAll_at hall (i := 7) (by decide +kernel)
  have efin1 : StB (w.heap.size + 1) w1.heap.size X [] w7  := relAll_at hall (i := 9) (by decide +kernel)
  clear hall
  simp only [List.drop_succ_cons, List.drop_zero, List.take_succ_cons, List.take_zero, putAll, Act.put, List.setIfInBounds_toArray, List.set_cons_zero, List.set_cons_succ, Nat.zero_add, Nat.reduceAdd, ]
  obtain ⟨A8, n8, c8, xs8, B8, m8, d8, hk, hz, hl, hu⟩ := st_both efin efin1
  obtain rfl : n8 = 0 := by rw [← (hl.lst (by decide)).1]; rfl
  have HK := hide hk
  have HZ := hide hz
  have HCl := hide (HCl.out.below hb7 (Nat.lt_succ_self _))
  have HB7 := hide (HB1.out.trans (hb7.mono (Nat.le_succ _)))
  have HO := hide (show AtO w1.heap.size w7 ⟨X.has, X.org, [], X.hop, X.med, X.pref, X.aas, X.aid, []⟩ (atV X.has X.org A8 0 c8 X.hop X.med X.pref X.aas X.aid B8 m8 d8) from ⟨A8, 0, c8, xs8, B8, m8, d8, rfl, hl, hu⟩)
  rw [← HX.out] at HO
  clear efin efin1 hk hz hl hu hb7
  have a2 := HK.out.cell 2
  go_wp2
  clear a2
  go_loopw [17] (fun iv wr => iv = .int .i64 0 ∧ wr = w7) (fun _ _ => 0)
  case atStart => exact ⟨rfl, rfl⟩
  case round =>
    obtain ⟨rfl, rfl⟩ := hrel
    obtain ⟨c0, c1, c2, c3, c4, c5, c6, c7, c8_, c9, c10, c11, c12, c13⟩ := blk14 HCl.out
    go_wp2_with fail
    refine (doesZ1 _).mono ?_
    rintro e x0 ⟨rfl, hb⟩
    have HCl := hide (HCl.out.below hb HCl.out.lt)
    have HK := hide (HK.out.below hb HK.out.lt)
    have HZ := hide (HZ.out.below hb HZ.out.lt)
    have HO := hide (HO.out.below hb)
    have HB7 := hide (HB7.out.trans (hb.mono HB7.out.size))
    clear hb c0 c1 c2 c3 c4 c5 c6 c7 c8_ c9 c10 c11 c12 c13
    obtain ⟨c0, c1, c2, c3, c4, c5, c6, c7, c8_, c9, c10, c11, c12, c13⟩ := blk14 HCl.out
    go_wp2_with fail
    refine (doesZ2 _).mono ?_
    rintro e x1 ⟨rfl, hb⟩
    have HCl := hide (HCl.out.below hb HCl.out.lt)
    have HK := hide (HK.out.below hb HK.out.lt)
    have HZ := hide (HZ.out.below hb HZ.out.lt)
    have HO := hide (HO.out.below hb)
    have HB7 := hide (HB7.out.trans (hb.mono HB7.out.size))
    clear hb c0 c1 c2 c3 c4 c5 c6 c7 c8_ c9 c10 c11 c12 c13
    obtain ⟨c0, c1, c2, c3, c4, c5, c6, c7, c8_, c9, c10, c11, c12, c13⟩ := blk14 HCl.out
    go_wp2_with fail
    refine (doesZ4 _).mono ?_
    rintro e x2 ⟨rfl, hb⟩
    have HCl := hide (HCl.out.below hb HCl.out.lt)
    have HK := hide (HK.out.below hb HK.out.lt)
    have HZ := hide (HZ.out.below hb HZ.out.lt)
    have HO := hide (HO.out.below hb)
    have HB7 := hide (HB7.out.trans (hb.mono HB7.out.size))
    clear hb c0 c1 c2 c3 c4 c5 c6 c7 c8_ c9 c10 c11 c12 c13
    obtain ⟨c0, c1, c2, c3, c4, c5, c6, c7, c8_, c9, c10, c11, c12, c13⟩ := blk14 HCl.out
    go_wp2_with fail
    refine (doesZ56 _).mono ?_
    rintro e x3 ⟨rfl, hb⟩
    have HCl := hide (HCl.out.below hb HCl.out.lt)
    have HK := hide (HK.out.below hb HK.out.lt)
    have HZ := hide (HZ.out.below hb HZ.out.lt)
    have HO := hide (HO.out.below hb)
    have HB7 := hide (HB7.out.trans (hb.mono HB7.out.size))
    clear hb c0 c1 c2 c3 c4 c5 c6 c7 c8_ c9 c10 c11 c12 c13
    obtain ⟨c0, c1, c2, c3, c4, c5, c6, c7, c8_, c9, c10, c11, c12, c13⟩ := blk14 HCl.out
    go_wp2_with fail
    refine (doesZ64 _).mono ?_
    rintro e x4 ⟨rfl, hb⟩
    have HCl := hide (HCl.out.below hb HCl.out.lt)
    have HK := hide (HK.out.below hb HK.out.lt)
    have HZ := hide (HZ.out.below hb HZ.out.lt)
    have HO := hide (HO.out.below hb)
    have HB7 := hide (HB7.out.trans (hb.mono HB7.out.size))
    clear hb c0 c1 c2 c3 c4 c5 c6 c7 c8_ c9 c10 c11 c12 c13
    obtain ⟨a0, a1, a2, a3, a4, a5, a6, a7, a8⟩ := blk9 HK.out
    obtain ⟨z0, z1, z2, z3, z4, z5, z6, z7, z8⟩ := blk9 HZ.out
    have zf := fun i => HZ.out.frozen i
    have hlt : w.heap.size + 1 + 1 < w1.heap.size := HKz.out.lt
    go_wp2
    change bodyPost _ _ _ _ _ (x4.setCells (w.heap.size + 1 + 1) 0 [.int .i64 X.has, .int .i64 X.org, .slice A8 0 c8, .int .u32 X.hop, .int .u32 X.med, .int .u32 X.pref, .int .u32 X.aas, .int .u32 X.aid, .slice B8 m8 d8])
    obtain ⟨wF, hwF⟩ : ∃ x, x4.setCells (w.heap.size + 1 + 1) 0 [.int .i64 X.has, .int .i64 X.org, .slice A8 0 c8, .int .u32 X.hop, .int .u32 X.med, .int .u32 X.pref, .int .u32 X.aas, .int .u32 X.aid, .slice B8 m8 d8] = x := ⟨_, rfl⟩
    have HFk := hide (hwF ▸ blk9_set HZ.out : Blk wF (w.heap.size + 1 + 1) 40 (atC X.has X.org A8 0 c8 X.hop X.med X.pref X.aas X.aid B8 m8 d8))
    have HFo := hide (hwF ▸ AtO.sets _ 0 HO.out hlt : AtO w1.heap.size wF X (atV X.has X.org A8 0 c8 X.hop X.med X.pref X.aas X.aid B8 m8 d8))
    have HFb := hide (hwF ▸ below_sets _ 0 HB7.out (by omega) : Below w.heap.size w wF)
    rw [hwF]
    clear hwF z0 z1 z2 z3 z4 z5 z6 z7 z8 zf a0 a1 a2 a3 a4 a5 a6 a7 a8
    obtain ⟨z0, z1, z2, z3, z4, z5, z6, z7, z8⟩ := blk9 HFk.out
    exact bodyPost_ret (v := atV X.has X.org A8 0 c8 X.hop X.med X.pref X.aas X.aid B8 m8 d8) (by simp [results, Tryz.results53, go_sem, z0, z1, z2, z3, z4, z5, z6, z7, z8]) rfl ⟨_, rfl, HFo.out.less (b' := w.heap.size) (by omega), HFb.out⟩
end Go.Proofs.YtplhnhoijficgaaGreat
set_option linter.unusedSimpArgs false
set_option linter.unusedVariables false
namespace Go.Proofs.YtplhnhoijficgaaGreat
open Go.RowKit Go.WideShapes Go.ChangeShapes
attribute [local go_sem] Oper.semAt_some
def EvP (X : AT) (b : Bool) (w : World) (e : Ending) (w' : World) : Prop := ∃ v, e = .returned (.tuple #[v, .bool b]) ∧ AtO w.heap.size w' X v ∧ Below w.heap.size w w'
abbrev liC (L1 L2 L3 L4 : Option Addr × Nat × Nat) : Array Value := #[.slice L1.1 L1.2.1 L1.2.2, .slice L2.1 L2.2.1 L2.2.2, .slice L3.1 L3.2.1 L3.2.2, .slice L4.1 L4.2.1 L4.2.2]
set_option maxRecDepth 100000 in
set_option maxHeartbeats 8000000 in
theorem evalE0_any (L1 L2 L3 L4 : Option Addr × Nat × Nat) (pa pl : Int) (X : AT) (hp0 : X.path = []) (hc0 : X.comms = []) (v : Value) (w : World) (hv : AtR w X v) :
    Calls Tryz.prog 45 #[.agg (liC L1 L2 L3 L4), .string ⟨#[]⟩, .agg #[.int .u32 pa, .int .i64 pl], v] w (EvP X true w) := by
  obtain ⟨A, n, c, B, m, d, rfl, hP, hC⟩ := hv
  obtain ⟨w0, hw0⟩ : ∃ w0, ((((w.alloc (.cells (liC L1 L2 L3 L4) 33)).alloc (.cells #[.int .u32 pa, .int .i64 pl] 24)).alloc (.cells (atC X.has X.org A n c X.hop X.med X.pref X.aas X.aid B m d) 40)).alloc (.cells zeroC 40)) = w0 := ⟨_, rfl⟩
  have hb0 : Below w.heap.size w w0 := hw0 ▸ ((((Below.refl _ w).alloc (Nat.le_refl _) _).alloc (by simp) _).alloc (by simp; omega) _).alloc (by simp; omega) _
  have HK : Hid (Blk w0 (w.heap.size + 1 + 1 + 1) 40 zeroC) := hide (hw0 ▸ blk_new' _ _ (by simp))
  have HN := hide (setZn_any X hp0 hc0 (atV X.has X.org A n c X.hop X.med X.pref X.aas X.aid B m d) w0 ⟨A, n, c, B, m, d, rfl, hP.below sgMono hb0, hC.below hb0⟩)
  have HB0 := hide hb0
  have HW0 := hide hw0
  clear hw0 hb0 hP hC hp0 hc0
  go_enter Tryz.func45, Tryz.ntmps45
  go_wp2_with fail
  rw [HW0.out]
  refine HN.out.mono ?_
  rintro e w1 ⟨v, rfl, ho, hb⟩
  obtain ⟨A1, n1, c1, xs1, B1, m1, d1, rfl, hl, hu⟩ := ho
  have hlt : w.heap.size + 1 + 1 + 1 < w0.heap.size := HK.out.lt
  have HK1 := hide (HK.out.below hb hlt)
  have HB1 := hide (HB0.out.trans (hb.mono HB0.out.size))
  have HO := hide (show AtO w0.heap.size w1 X (atV X.has X.org A1 n1 c1 X.hop X.med X.pref X.aas X.aid B1 m1 d1) from ⟨A1, n1, c1, xs1, B1, m1, d1, rfl, hl, hu⟩)
  obtain ⟨z0, z1, z2, z3, z4, z5, z6, z7, z8⟩ := blk9 HK1.out
  have zf := fun i => HK1.out.frozen i
  clear hl hu hb
  go_wp2
  change bodyPost _ _ _ _ _ (w1.setCells (w.heap.size + 1 + 1 + 1) 0 [.int .i64 X.has, .int .i64 X.org, .slice A1 n1 c1, .int .u32 X.hop, .int .u32 X.med, .int .u32 X.pref, .int .u32 X.aas, .int .u32 X.aid, .slice B1 m1 d1])
  obtain ⟨wF, hwF⟩ : ∃ x, w1.setCells (w.heap.size + 1 + 1 + 1) 0 [.int .i64 X.has, .int .i64 X.org, .slice A1 n1 c1, .int .u32 X.hop, .int .u32 X.med, .int .u32 X.pref, .int .u32 X.aas, .int .u32 X.aid, .slice B1 m1 d1] = x := ⟨_, rfl⟩
  have HFk := hide (hwF ▸ blk9_set HK1.out : Blk wF (w.heap.size + 1 + 1 + 1) 40 (atC X.has X.org A1 n1 c1 X.hop X.med X.pref X.aas X.aid B1 m1 d1))
  have HFo := hide (hwF ▸ AtO.sets _ 0 HO.out hlt : AtO w0.heap.size wF X (atV X.has X.org A1 n1 c1 X.hop X.med X.pref X.aas X.aid B1 m1 d1))
  have HFb := hide (hwF ▸ below_sets _ 0 HB1.out (by omega) : Below w.heap.size w wF)
  rw [hwF]
  clear hwF z0 z1 z2 z3 z4 z5 z6 z7 z8 zf
  obtain ⟨z0, z1, z2, z3, z4, z5, z6, z7, z8⟩ := blk9 HFk.out
  exact bodyPost_ret (v := .tuple #[atV X.has X.org A1 n1 c1 X.hop X.med X.pref X.aas X.aid B1 m1 d1, .bool true]) (by simp [results, Tryz.results45, go_sem, z0, z1, z2, z3, z4, z5, z6, z7, z8]) rfl ⟨_, rfl, HFo.out.less (b' := w.heap.size) (by omega), HFb.out⟩
set_option maxRecDepth 100000 in
set_option maxHeartbeats 8000000 in
theorem EvalE0_any (L1 L2 L3 L4 : Option Addr × Nat × Nat) (pa pl : Int) (X : AT) (hp0 : X.path = []) (hc0 : X.comms = []) (v : Value) (w : World) (hv : AtR w X v) :
    Calls Tryz.prog 38 #[.agg (liC L1 L2 L3 L4), .string ⟨#[]⟩, .agg #[.int .u32 pa, .int .i64 pl], v] w (EvP X true w) := by
  obtain ⟨A, n, c, B, m, d, rfl, hP, hC⟩ := hv
  obtain ⟨w0, hw0⟩ : ∃ w0, ((((w.alloc (.cells (liC L1 L2 L3 L4) 33)).alloc (.cells #[.int .u32 pa, .int .i64 pl] 24)).alloc (.cells (atC X.has X.org A n c X.hop X.med X.pref X.aas X.aid B m d) 40)).alloc (.cells zeroC 40)) = w0 := ⟨_, rfl⟩
  have hb0 : Below w.heap.size w w0 := hw0 ▸ ((((Below.refl _ w).alloc (Nat.le_refl _) _).alloc (by simp) _).alloc (by simp; omega) _).alloc (by simp; omega) _
  have HK : Hid (Blk w0 (w.heap.size + 1 + 1 + 1) 40 zeroC) := hide (hw0 ▸ blk_new' _ _ (by simp))
  have HN := hide (evalE0_any L1 L2 L3 L4 pa pl X hp0 hc0 (atV X.has X.org A n c X.hop X.med X.pref X.aas X.aid B m d) w0 ⟨A, n, c, B, m, d, rfl, hP.below sgMono hb0, hC.below hb0⟩)
  have HB0 := hide hb0
  have HW0 := hide hw0
  clear hw0 hb0 hP hC hp0 hc0
  go_enter Tryz.func38, Tryz.ntmps38
  go_wp2_with fail
  rw [HW0.out]
  refine HN.out.mono ?_
  rintro e w1 ⟨v, rfl, ho, hb⟩
  obtain ⟨A1, n1, c1, xs1, B1, m1, d1, rfl, hl, hu⟩ := ho
  have hlt : w.heap.size + 1 + 1 + 1 < w0.heap.size := HK.out.lt
  have HK1 := hide (HK.out.below hb hlt)
  have HB1 := hide (HB0.out.trans (hb.mono HB0.out.size))
  have HO := hide (show AtO w0.heap.size w1 X (atV X.has X.org A1 n1 c1 X.hop X.med X.pref X.aas X.aid B1 m1 d1) from ⟨A1, n1, c1, xs1, B1, m1, d1, rfl, hl, hu⟩)
  obtain ⟨z0, z1, z2, z3, z4, z5, z6, z7, z8⟩ := blk9 HK1.out
  have zf := fun i => HK1.out.frozen i
  clear hl hu hb
  go_wp2
  change bodyPost _ _ _ _ _ (w1.setCells (w.heap.size + 1 + 1 + 1) 0 [.int .i64 X.has, .int .i64 X.org, .slice A1 n1 c1, .int .u32 X.hop, .int .u32 X.med, .int .u32 X.pref, .int .u32 X.aas, .int .u32 X.aid, .slice B1 m1 d1])
  obtain ⟨wF, hwF⟩ : ∃ x, w1.setCells (w.heap.size + 1 + 1 + 1) 0 [.int .i64 X.has, .int .i64 X.org, .slice A1 n1 c1, .int .u32 X.hop, .int .u32 X.med, .int .u32 X.pref, .int .u32 X.aas, .int .u32 X.aid, .slice B1 m1 d1] = x := ⟨_, rfl⟩
  have HFk := hide (hwF ▸ blk9_set HK1.out : Blk wF (w.heap.size + 1 + 1 + 1) 40 (atC X.has X.org A1 n1 c1 X.hop X.med X.pref X.aas X.aid B1 m1 d1))
  have HFo := hide (hwF ▸ AtO.sets _ 0 HO.out hlt : AtO w0.heap.size wF X (atV X.has X.org A1 n1 c1 X.hop X.med X.pref X.aas X.aid B1 m1 d1))
  have HFb := hide (hwF ▸ below_sets _ 0 HB1.out (by omega) : Below w.heap.size w wF)
  rw [hwF]
  clear hwF z0 z1 z2 z3 z4 z5 z6 z7 z8 zf
  obtain ⟨z0, z1, z2, z3, z4, z5, z6, z7, z8⟩ := blk9 HFk.out
  exact bodyPost_ret (v := .tuple #[atV X.has X.org A1 n1 c1 X.hop X.med X.pref X.aas X.aid B1 m1 d1, .bool true]) (by simp [results, Tryz.results38, go_sem, z0, z1, z2, z3, z4, z5, z6, z7, z8]) rfl ⟨_, rfl, HFo.out.less (b' := w.heap.size) (by omega), HFb.out⟩
theorem keeps_nil (B : Option Addr) (d : Nat) (w : World) : Calls Tryz.prog 44 #[.slice B 0 d] w fun e w' => e = .returned (.tuple #[.bool false, .bool false]) ∧ w' = w := by
  go_enter Tryz.func44, Tryz.ntmps44
  go_wp2
  go_loopw [2, 3, 8] (fun av bv iv wr => av = .bool false ∧ bv = .bool false ∧ iv = .int .i64 0 ∧ wr = w) (fun _ _ _ _ => 0)
  case atStart => exact ⟨rfl, rfl, rfl, rfl⟩
  case round =>
    obtain ⟨rfl, rfl, rfl, rfl⟩ := hrel
    go_wp2
    exact bodyPost_ret (v := .tuple #[.bool false, .bool false]) (by simp [results, Tryz.results44, go_sem]) rfl ⟨rfl, rfl⟩
set_option maxRecDepth 100000 in
set_option maxHeartbeats 4000000 in
theorem barredOwn_any (x : CF) (y : PE) (r : RT) (hl : r.loc = true) (hm : r.m = 0) (hh : attB r.at_.has 8 = false) (w : World) :
    Calls Tryz.prog 37 #[.agg (cfC x), .agg (peC y), .agg (rtV r)] w (GoodP false w) := by
  obtain ⟨pa, pl, X, A, n, c, B, m, d, rp, ra, ri, inn, loc⟩ := r
  simp only at hl hm hh
  subst hl hm
  have h8 : bits .and .i64 X.has 256 = 0 := by
    have e := hb_and X.has 8 ⟨by decide, by decide⟩
    rw [hh] at e
    simpa using e
  have HB := hide ((((Below.refl w.heap.size w).alloc (Nat.le_refl _) (.cells (cfC x) 35)).alloc (by simp) (.cells (peC y) 48)).alloc (by simp; omega) (.cells (rtV ⟨pa, pl, X, A, n, c, B, 0, d, rp, ra, ri, inn, true⟩) 42))
  have HKp := hide (keeps_nil B d)
  clear hh
  go_enter Tryz.func37, Tryz.ntmps37
  go_wp2_with fail
  refine (HKp.out _).mono ?_
  rintro e w1 ⟨rfl, rfl⟩
  go_wp2
  go_ret
  exact ⟨rfl, HB.out⟩
end Go.Proofs.YtplhnhoijficgaaGreat
set_option linter.unusedSimpArgs false
set_option linter.unusedVariables false
namespace Go.Proofs.YtplhnhoijficgaaGreat
open Go.RowKit Go.WideShapes Go.ChangeShapes
attribute [local go_sem] Oper.semAt_some
def ownA (id : Int) : AT := ⟨14, 0, [], id, 0, 0, 0, 0, []⟩
abbrev ownR (asn id pa pl : Int) : Array Value := rtC pa pl 14 0 none 0 0 id 0 0 0 0 none 0 0 id asn id false true
abbrev zeroR : Array Value := rtC 0 0 0 0 none 0 0 0 0 0 0 0 none 0 0 0 0 0 false false
theorem blk16_set {w : World} {g : Nat} {t : TypeId} {u0 u1 u2 u3 u4 u5 u6 u7 u8 u9 u10 u11 u12 u13 u14 u15 v0 v1 v2 v3 v4 v5 v6 v7 v8 v9 v10 v11 v12 v13 v14 v15 : Value} (h : Blk w g t #[u0, u1, u2, u3, u4, u5, u6, u7, u8, u9, u10, u11, u12, u13, u14, u15]) :
    Blk (w.setCells g 0 [v0, v1, v2, v3, v4, v5, v6, v7, v8, v9, v10, v11, v12, v13, v14, v15]) g t #[v0, v1, v2, v3, v4, v5, v6, v7, v8, v9, v10, v11, v12, v13, v14, v15] :=
  blk_sets [v0, v1, v2, v3, v4, v5, v6, v7, v8, v9, v10, v11, v12, v13, v14, v15] [] [u0, u1, u2, u3, u4, u5, u6, u7, u8, u9, u10, u11, u12, u13, u14, u15] h rfl
theorem blkBelow2 (w : World) (a b : Obj) : Below w.heap.size w ((w.alloc a).alloc b) := ((Below.refl _ w).alloc (Nat.le_refl _) _).alloc (by simp) _
theorem blkBelow3 (w : World) (a b c : Obj) : Below w.heap.size w (((w.alloc a).alloc b).alloc c) := (blkBelow2 w a b).alloc (by simp; omega) _
set_option maxRecDepth 100000 in
set_option maxHeartbeats 4000000 in
theorem exLocal_any (x : CF) (pa pl : Int) (w : World) : Calls Tryz.prog 15 #[.agg (cfC x), .agg #[.int .u32 pa, .int .i64 pl]] w fun e w' => e = .returned (.agg (ownR x.asn x.id pa pl)) ∧ Below w.heap.size w w' := by
  have HB := hide (blkBelow3 w (.cells (cfC x) 35) (.cells #[.int .u32 pa, .int .i64 pl] 24) (.cells (ownR x.asn x.id pa pl) 42))
  go_enter Tryz.func15, Tryz.ntmps15
  go_wp2
  exact bodyPost_ret (v := .agg (ownR x.asn x.id pa pl)) (by simp [results, Tryz.results15, go_sem]) rfl ⟨rfl, HB.out⟩
set_option maxRecDepth 100000 in
set_option maxHeartbeats 4000000 in
theorem exLocalX_any (x : CF) (pa pl : Int) (w : World) : Calls Tryz.prog 6 #[.agg (cfC x), .agg #[.int .u32 pa, .int .i64 pl]] w fun e w' => e = .returned (.agg (ownR x.asn x.id pa pl)) ∧ Below w.heap.size w w' := by
  obtain ⟨w0, hw0⟩ : ∃ w0, (((w.alloc (.cells (cfC x) 35)).alloc (.cells #[.int .u32 pa, .int .i64 pl] 24)).alloc (.cells zeroR 42)) = w0 := ⟨_, rfl⟩
  have HB0 : Hid (Below w.heap.size w w0) := hide (hw0 ▸ blkBelow3 w _ _ _)
  have HK : Hid (Blk w0 (w.heap.size + 1 + 1) 42 zeroR) := hide (hw0 ▸ blk_new' _ _ (by simp))
  have HW0 := hide hw0
  clear hw0
  go_enter Tryz.func6, Tryz.ntmps6
  go_wp2_with fail
  rw [HW0.out]
  refine (exLocal_any x pa pl w0).mono ?_
  rintro e w1 ⟨rfl, hb⟩
  have HK1 := hide (HK.out.below hb HK.out.lt)
  have HB1 := hide (HB0.out.trans (hb.mono HB0.out.size))
  clear hb
  obtain ⟨z0, z1, z2, z3, z4, z5, z6, z7, z8, z9, z10, z11, z12, z13, z14, z15⟩ := blk16 HK1.out
  have zf := fun i => HK1.out.frozen i
  go_wp2
  change bodyPost _ _ _ _ _ (w1.setCells (w.heap.size + 1 + 1) 0 [.int .u32 pa, .int .i64 pl, .int .i64 14, .int .i64 0, .slice none 0 0, .int .u32 x.id, .int .u32 0, .int .u32 0, .int .u32 0, .int .u32 0, .slice none 0 0, .int .u32 x.id, .int .u32 x.asn, .int .u32 x.id, .bool false, .bool true])
  obtain ⟨wF, hwF⟩ : ∃ W, w1.setCells (w.heap.size + 1 + 1) 0 [.int .u32 pa, .int .i64 pl, .int .i64 14, .int .i64 0, .slice none 0 0, .int .u32 x.id, .int .u32 0, .int .u32 0, .int .u32 0, .int .u32 0, .slice none 0 0, .int .u32 x.id, .int .u32 x.asn, .int .u32 x.id, .bool false, .bool true] = W := ⟨_, rfl⟩
  have HFk := hide (hwF ▸ blk16_set HK1.out : Blk wF (w.heap.size + 1 + 1) 42 (ownR x.asn x.id pa pl))
  have HFb := hide (hwF ▸ below_sets _ 0 HB1.out (by omega) : Below w.heap.size w wF)
  rw [hwF]
  clear hwF z0 z1 z2 z3 z4 z5 z6 z7 z8 z9 z10 z11 z12 z13 z14 z15 zf
  obtain ⟨z0, z1, z2, z3, z4, z5, z6, z7, z8, z9, z10, z11, z12, z13, z14, z15⟩ := blk16 HFk.out
  exact bodyPost_ret (v := .agg (ownR x.asn x.id pa pl)) (by simp [results, Tryz.results6, go_sem, z0, z1, z2, z3, z4, z5, z6, z7, z8, z9, z10, z11, z12, z13, z14, z15]) rfl ⟨rfl, HFb.out⟩
end Go.Proofs.YtplhnhoijficgaaGreat
set_option linter.unusedSimpArgs false
set_option linter.unusedVariables false
namespace Go.Proofs.YtplhnhoijficgaaGreat
open Go.RowKit Go.WideShapes Go.ChangeShapes
attribute [local go_sem] Oper.semAt_some
theorem blk_setsM {g : Nat} {t : TypeId} (suf : List Value) : ∀ (vs pre old : List Value) {w : World}, Blk w g t (pre ++ (old ++ suf)).toArray → old.length = vs.length → Blk (w.setCells g pre.length vs) g t (pre ++ (vs ++ suf)).toArray
  | [], pre, old, w, h, hl => by
    obtain rfl := List.length_eq_zero_iff.1 hl
    exact h
  | v :: vs, pre, [], w, h, hl => by simp at hl
  | v :: vs, pre, x :: old, w, h, hl => by
    have h1 := h.set_ pre.length v
    rw [List.setIfInBounds_toArray, List.set_append_right _ _ (Nat.le_refl _), Nat.sub_self, List.cons_append, List.set_cons_zero] at h1
    have h2 : Blk (w.setCell ⟨g, pre.length, none⟩ v) g t ((pre ++ [v]) ++ (old ++ suf)).toArray := by rw [List.append_assoc]; exact h1
    have h3 := blk_setsM suf vs (pre ++ [v]) old h2 (by simpa using hl)
    rw [List.length_append, List.append_assoc] at h3
    exact h3
def RtR (w : World) (r : RT) : Prop := LstAt 2 sgR w r.A r.n r.c r.at_.path ∧ U32s w r.B r.m r.d r.at_.comms
theorem RtR.below {w w' : World} {r : RT} (h : RtR w r) (hb : Below w.heap.size w w') : RtR w' r := ⟨h.1.below sgMono hb, h.2.below hb⟩
def cutRT (r : RT) (A : Option Addr) (n c : Nat) (B : Option Addr) (m d : Nat) : RT := ⟨r.pa, r.pl, cutA r.at_, A, n, c, B, m, d, r.rp, r.ra, r.ri, r.inn, r.loc⟩
set_option maxRecDepth 100000 in
set_option maxHeartbeats 8000000 in
theorem lawOne_any (r : RT) (w : World) (hr : RtR w r) : Calls Tryz.prog 10 #[.agg (rtV r)] w fun e w' => ∃ A n c B m d, e = .returned (.agg (rtV (cutRT r A n c B m d))) ∧ PU w.heap.size w' A n c B m d (cutA r.at_).path (cutA r.at_).comms ∧ Below w.heap.size w w' := by
  obtain ⟨w1, hw1⟩ : ∃ w1, (w.alloc (.cells (rtV r) 42)).alloc (.cells zeroR 42) = w1 := ⟨_, rfl⟩
  have hb1 : Below w.heap.size w w1 := hw1 ▸ blkBelow2 w _ _
  have HK : Hid (Blk w1 w.heap.size 42 (rtV r)) := hide (hw1 ▸ (Blk.new w _ _).alloc _)
  have HZ : Hid (Blk w1 (w.heap.size + 1) 42 zeroR) := hide (hw1 ▸ blk_new' _ _ (by simp))
  have HFw := hide (attrsFew_any r.at_ (atV r.at_.has r.at_.org r.A r.n r.c r.at_.hop r.at_.med r.at_.pref r.at_.aas r.at_.aid r.B r.m r.d) w1 ⟨r.A, r.n, r.c, r.B, r.m, r.d, rfl, hr.1.below sgMono hb1, hr.2.below hb1⟩)
  have HB1 := hide hb1
  have HW1 := hide hw1
  clear hw1 hb1 hr
  obtain ⟨X, hX⟩ : ∃ X, cutA r.at_ = X := ⟨_, rfl⟩
  rw [hX] at HFw
  have HX := hide hX
  clear hX
  go_enter Tryz.func10, Tryz.ntmps10
  go_wp2_with fail
  rw [HW1.out]
  refine HFw.out.mono ?_
  rintro e w2 ⟨v, rfl, ho, hb⟩
  obtain ⟨A1, n1, c1, xs1, B1, m1, d1, rfl, hl, hu⟩ := ho
  have hlt : w.heap.size + 1 < w1.heap.size := HZ.out.lt
  have HK2 := hide (HK.out.below hb HK.out.lt)
  have HZ2 := hide (HZ.out.below hb HZ.out.lt)
  have HB2 := hide (HB1.out.trans (hb.mono HB1.out.size))
  have HL2 := hide hl
  have HU2 := hide hu
  clear hl hu hb
  obtain ⟨k0, k1, k2, k3, k4, k5, k6, k7, k8, k9, k10, k11, k12, k13, k14, k15⟩ := blk16 HK2.out
  have kf := fun i => HK2.out.frozen i
  go_upto_region 2 with fail
  change Code.wp _ _ _ _ (w2.setCells w.heap.size 2 [.int .i64 X.has, .int .i64 X.org, .slice A1 n1 c1, .int .u32 X.hop, .int .u32 X.med, .int .u32 X.pref, .int .u32 X.aas, .int .u32 X.aid, .slice B1 m1 d1])
  obtain ⟨w3, hw3⟩ : ∃ x, w2.setCells w.heap.size 2 [.int .i64 X.has, .int .i64 X.org, .slice A1 n1 c1, .int .u32 X.hop, .int .u32 X.med, .int .u32 X.pref, .int .u32 X.aas, .int .u32 X.aid, .slice B1 m1 d1] = x := ⟨_, rfl⟩
  have HK3 := hide (hw3 ▸ blk_setsM [.int .u32 r.rp, .int .u32 r.ra, .int .u32 r.ri, .bool r.inn, .bool r.loc] [.int .i64 X.has, .int .i64 X.org, .slice A1 n1 c1, .int .u32 X.hop, .int .u32 X.med, .int .u32 X.pref, .int .u32 X.aas, .int .u32 X.aid, .slice B1 m1 d1] [.int .u32 r.pa, .int .i64 r.pl] [.int .i64 r.at_.has, .int .i64 r.at_.org, .slice r.A r.n r.c, .int .u32 r.at_.hop, .int .u32 r.at_.med, .int .u32 r.at_.pref, .int .u32 r.at_.aas, .int .u32 r.at_.aid, .slice r.B r.m r.d] HK2.out rfl : Blk w3 w.heap.size 42 ([.int .u32 r.pa, .int .i64 r.pl, .int .i64 X.has, .int .i64 X.org, .slice A1 n1 c1, .int .u32 X.hop, .int .u32 X.med, .int .u32 X.pref, .int .u32 X.aas, .int .u32 X.aid, .slice B1 m1 d1, .int .u32 r.rp, .int .u32 r.ra, .int .u32 r.ri, .bool r.inn, .bool r.loc]).toArray)
  have HZ3 := hide (hw3 ▸ blk_sets_far (H := w.heap.size) (by omega) [.int .i64 X.has, .int .i64 X.org, .slice A1 n1 c1, .int .u32 X.hop, .int .u32 X.med, .int .u32 X.pref, .int .u32 X.aas, .int .u32 X.aid, .slice B1 m1 d1] 2 HZ2.out : Blk w3 (w.heap.size + 1) 42 zeroR)
  have HL3 := hide (hw3 ▸ low_sets [.int .i64 X.has, .int .i64 X.org, .slice A1 n1 c1, .int .u32 X.hop, .int .u32 X.med, .int .u32 X.pref, .int .u32 X.aas, .int .u32 X.aid, .slice B1 m1 d1] 2 HL2.out (by omega) (by omega) : LOw 2 59 sgR w3 w1.heap.size w1.heap.size A1 n1 c1 X.path xs1)
  have HU3 := hide (hw3 ▸ fr_setsB [.int .i64 X.has, .int .i64 X.org, .slice A1 n1 c1, .int .u32 X.hop, .int .u32 X.med, .int .u32 X.pref, .int .u32 X.aas, .int .u32 X.aid, .slice B1 m1 d1] 2 HU2.out (by omega) : FrB w1.heap.size none (fun w => U32s w B1 m1 d1 X.comms) w3)
  have HB3 := hide (hw3 ▸ below_sets [.int .i64 X.has, .int .i64 X.org, .slice A1 n1 c1, .int .u32 X.hop, .int .u32 X.med, .int .u32 X.pref, .int .u32 X.aas, .int .u32 X.aid, .slice B1 m1 d1] 2 HB2.out (Nat.le_refl _) : Below w.heap.size w w3)
  rw [hw3]
  clear hw3 k0 k1 k2 k3 k4 k5 k6 k7 k8 k9 k10 k11 k12 k13 k14 k15 kf HK2 HZ2 HL2 HU2
  obtain ⟨k0, k1, k2, k3, k4, k5, k6, k7, k8, k9, k10, k11, k12, k13, k14, k15⟩ := blk16 HK3.out
  obtain ⟨z0, z1, z2, z3, z4, z5, z6, z7, z8, z9, z10, z11, z12, z13, z14, z15⟩ := blk16 HZ3.out
  have zf := fun i => HZ3.out.frozen i
  go_wp2
  change bodyPost _ _ _ _ _ (w3.setCells (w.heap.size + 1) 0 [.int .u32 r.pa, .int .i64 r.pl, .int .i64 X.has, .int .i64 X.org, .slice A1 n1 c1, .int .u32 X.hop, .int .u32 X.med, .int .u32 X.pref, .int .u32 X.aas, .int .u32 X.aid, .slice B1 m1 d1, .int .u32 r.rp, .int .u32 r.ra, .int .u32 r.ri, .bool r.inn, .bool r.loc])
  obtain ⟨wF, hwF⟩ : ∃ x, w3.setCells (w.heap.size + 1) 0 [.int .u32 r.pa, .int .i64 r.pl, .int .i64 X.has, .int .i64 X.org, .slice A1 n1 c1, .int .u32 X.hop, .int .u32 X.med, .int .u32 X.pref, .int .u32 X.aas, .int .u32 X.aid, .slice B1 m1 d1, .int .u32 r.rp, .int .u32 r.ra, .int .u32 r.ri, .bool r.inn, .bool r.loc] = x := ⟨_, rfl⟩
  have HFk := hide (hwF ▸ blk16_set HZ3.out : Blk wF (w.heap.size + 1) 42 ([.int .u32 r.pa, .int .i64 r.pl, .int .i64 X.has, .int .i64 X.org, .slice A1 n1 c1, .int .u32 X.hop, .int .u32 X.med, .int .u32 X.pref, .int .u32 X.aas, .int .u32 X.aid, .slice B1 m1 d1, .int .u32 r.rp, .int .u32 r.ra, .int .u32 r.ri, .bool r.inn, .bool r.loc]).toArray)
  have HFl := hide (hwF ▸ low_sets [.int .u32 r.pa, .int .i64 r.pl, .int .i64 X.has, .int .i64 X.org, .slice A1 n1 c1, .int .u32 X.hop, .int .u32 X.med, .int .u32 X.pref, .int .u32 X.aas, .int .u32 X.aid, .slice B1 m1 d1, .int .u32 r.rp, .int .u32 r.ra, .int .u32 r.ri, .bool r.inn, .bool r.loc] 0 HL3.out (by omega) (by omega) : LOw 2 59 sgR wF w1.heap.size w1.heap.size A1 n1 c1 X.path xs1)
  have HFu := hide (hwF ▸ fr_setsB [.int .u32 r.pa, .int .i64 r.pl, .int .i64 X.has, .int .i64 X.org, .slice A1 n1 c1, .int .u32 X.hop, .int .u32 X.med, .int .u32 X.pref, .int .u32 X.aas, .int .u32 X.aid, .slice B1 m1 d1, .int .u32 r.rp, .int .u32 r.ra, .int .u32 r.ri, .bool r.inn, .bool r.loc] 0 HU3.out (by omega) : FrB w1.heap.size none (fun w => U32s w B1 m1 d1 X.comms) wF)
  have HFb := hide (hwF ▸ below_sets [.int .u32 r.pa, .int .i64 r.pl, .int .i64 X.has, .int .i64 X.org, .slice A1 n1 c1, .int .u32 X.hop, .int .u32 X.med, .int .u32 X.pref, .int .u32 X.aas, .int .u32 X.aid, .slice B1 m1 d1, .int .u32 r.rp, .int .u32 r.ra, .int .u32 r.ri, .bool r.inn, .bool r.loc] 0 HB3.out (by omega) : Below w.heap.size w wF)
  rw [hwF]
  clear hwF z0 z1 z2 z3 z4 z5 z6 z7 z8 z9 z10 z11 z12 z13 z14 z15 zf k0 k1 k2 k3 k4 k5 k6 k7 k8 k9 k10 k11 k12 k13 k14 k15
  obtain ⟨z0, z1, z2, z3, z4, z5, z6, z7, z8, z9, z10, z11, z12, z13, z14, z15⟩ := blk16 HFk.out
  refine bodyPost_ret (v := .agg ([.int .u32 r.pa, .int .i64 r.pl, .int .i64 X.has, .int .i64 X.org, .slice A1 n1 c1, .int .u32 X.hop, .int .u32 X.med, .int .u32 X.pref, .int .u32 X.aas, .int .u32 X.aid, .slice B1 m1 d1, .int .u32 r.rp, .int .u32 r.ra, .int .u32 r.ri, .bool r.inn, .bool r.loc]).toArray) (by simp [results, Tryz.results10, go_sem, z0, z1, z2, z3, z4, z5, z6, z7, z8, z9, z10, z11, z12, z13, z14, z15]) rfl ⟨A1, n1, c1, B1, m1, d1, ?_, ?_, HFb.out⟩
  · unfold cutRT
    rw [HX.out]
  · rw [HX.out]
    exact (show PU w1.heap.size wF A1 n1 c1 B1 m1 d1 X.path X.comms from ⟨⟨xs1, HFl.out⟩, HFu.out⟩).less (by omega)
end Go.Proofs.YtplhnhoijficgaaGreat
set_option linter.unusedSimpArgs false
set_option linter.unusedVariables false
namespace Go.Proofs.YtplhnhoijficgaaGreat
open Go.RowKit Go.WideShapes Go.ChangeShapes
/-- Attributes handed back with a word, told apart from a block: what lies behind them says nothing of it. -/
def OkM (X : AT) (b : Bool) (v : Value) (ob : Option Nat) (w : World) : Prop := ∃ A n c xs B m d, v = .tuple #[atV X.has X.org A n c X.hop X.med X.pref X.aas X.aid B m d, .bool b] ∧
  w.ownsRow 0 59 2 (.slice A n c) n xs ∧ Chunks 2 (fun w vs x => FrB 0 ob (fun w => sgR w vs x) w) w xs X.path ∧ FrB 0 ob (fun w => U32s w B m d X.comms) w
theorem grownBy_set (w : World) (R i : Nat) (v : Value) : w.grownBy (w.setCell ⟨R, i, none⟩ v) (some R) :=
  ⟨rfl, rfl, rfl, Nat.le_of_eq (by simp), fun k _ hk => Below.heap_setCell _ _ _ k (fun e => hk (by rw [e]))⟩
section
variable {X : AT} {b : Bool} {v : Value} {ob : Option Nat} {w w' : World} {R B0 : Nat}
theorem OkM.below (h : OkM X b v ob w) (hb : Below w.heap.size w w') : OkM X b v ob w' := by
  obtain ⟨A, n, c, xs, B, m, d, e, h1, h2, h3⟩ := h
  exact ⟨A, n, c, xs, B, m, d, e, own_kept h1 hb, chunks_fr_below h2 hb, h3.below hb⟩
theorem fr_any {S : World → Prop} (h : FrB B0 none S w) (hob : ∀ k, ob = some k → k < B0) : FrB 0 ob S w := by
  intro w' ha
  exact h w' ⟨ha.1, fun k o hk ho hc _ => ha.2 k o (Nat.zero_le _) ho hc (fun e => by have := hob k e.symm; omega)⟩
/-- Of what lies from B0 on: apart from a block below. -/
theorem OkM.of_low (h : AtO B0 w X v) (hob : ∀ k, ob = some k → k < B0) : OkM X b (.tuple #[v, .bool b]) ob w := by
  obtain ⟨A, n, c, xs, B, m, d, rfl, h1, h2⟩ := h
  exact ⟨A, n, c, xs, B, m, d, rfl, own_baseLe h1.1 (Nat.zero_le _), ⟨h1.2.1, fun k x hx => fr_any (FrB.none_ (h1.2.2 k x hx)) hob⟩, fr_any h2 hob⟩
theorem fr_newer {S : World → Prop} (h : FrB 0 none S w) (hb : Below w.heap.size w w') (hob : w.heap.size ≤ R) : FrB 0 (some R) S w' := fr_new h hb (fun k e => by cases e; exact hob)
/-- A block comes to memory behind: apart from that. -/
theorem OkM.new (h : OkM X b v none w) (hb : Below w.heap.size w w') (hR : w.heap.size ≤ R) : OkM X b v (some R) w' := by
  obtain ⟨A, n, c, xs, B, m, d, e, h1, h2, h3⟩ := h
  exact ⟨A, n, c, xs, B, m, d, e, own_kept h1 hb, ⟨h2.1, fun k x hx => fr_newer (h2.2 k x hx) hb hR⟩, fr_newer h3 hb hR⟩
theorem own_setsT {base e size n H : Nat} {u : Value} {xs : List Value} {t : TypeId} {cs : Array Value} (hne : e ≠ t) : ∀ (vs : List Value) (i : Nat) {w : World} {cs : Array Value}, w.ownsRow base e size u n xs → Blk w H t cs → (w.setCells H i vs).ownsRow base e size u n xs
  | [], _, _, _, h, _ => h
  | v :: vs, i, _, _, h, hk => own_setsT hne vs (i + 1) (own_set h (own_blk_ne h hk hne) v) (hk.set_ i v) (cs := cs)
theorem fr_sets {S : World → Prop} : ∀ (vs : List Value) (i : Nat) {w : World}, FrB 0 (some R) S w → FrB 0 (some R) S (w.setCells R i vs)
  | [], _, _, h => h
  | v :: vs, i, w, h => fr_sets vs (i + 1) (h.ag (AgB.grown (grownBy_set w R i v)))
theorem OkM.sets {vs : List Value} {cs : Array Value} (h : OkM X b v (some R) w) (hk : Blk w R 40 cs) : OkM X b v (some R) (w.setCells R 0 vs) := by
  obtain ⟨A, n, c, xs, B, m, d, e, h1, h2, h3⟩ := h
  exact ⟨A, n, c, xs, B, m, d, e, own_setsT (cs := cs) (by decide) vs 0 h1 hk, ⟨h2.1, fun k x hx => fr_sets vs 0 (h2.2 k x hx)⟩, fr_sets vs 0 h3⟩
theorem OkM.rd (h : OkM X b v ob w) : ∃ u, v = .tuple #[u, .bool b] ∧ AtR w X u := by
  obtain ⟨A, n, c, xs, B, m, d, e, h1, h2, h3⟩ := h
  exact ⟨_, e, A, n, c, B, m, d, rfl, LstAt.of_own (by decide) h1 ⟨h2.1, fun k x hx => (h2.2 k x hx).here⟩, h3.here⟩
end
/-- What is said of the operations k (the call), k + 1 (its move), k + 2, k + 3 (its parts), k + 4 (the box), k + 5 (the store). -/
structure OkX (k : Nat) (X : AT) (b : Bool) (B0 : Nat) (D : Nat → Bool) (u : Nat → Value) (w : World) : Prop where
  d1 : D (k + 1) = true → D k = true
  d2 : D (k + 2) = true → D k = true
  d3 : D (k + 3) = true → D k = true
  d5 : D (k + 5) = true → D k = true ∧ D (k + 4) = true
  c0 : D k = true → D (k + 4) = false → OkM X b (u k) none w
  c1 : D (k + 1) = true → u (k + 1) = u k
  c2 : D (k + 2) = true → ∃ y z, u k = .tuple #[y, z] ∧ u (k + 2) = y
  c3 : D (k + 3) = true → ∃ y z, u k = .tuple #[y, z] ∧ u (k + 3) = z
  c4 : D (k + 4) = true → ∃ R, u (k + 4) = .pointer (some ⟨R, 0, none⟩) ∧ B0 ≤ R ∧ (∃ cs, Blk w R 40 cs ∧ (D (k + 5) = false → cs = zeroC)) ∧ (D k = true → OkM X b (u k) (some R) w)
  c5 : D (k + 5) = true → ∃ R A n c B m d, u (k + 4) = .pointer (some ⟨R, 0, none⟩) ∧ u k = .tuple #[atV X.has X.org A n c X.hop X.med X.pref X.aas X.aid B m d, .bool b] ∧ Blk w R 40 (atC X.has X.org A n c X.hop X.med X.pref X.aas X.aid B m d)
section
variable {k : Nat} {X : AT} {b : Bool} {B0 : Nat} {D : Nat → Bool} {u : Nat → Value} {w w' : World}
theorem okx_start (u : Nat → Value) (w : World) : OkX k X b B0 (fun _ => false) u w := by
  constructor <;> intro h <;> cases h
theorem okx_below (h : OkX k X b B0 D u w) (hb : Below w.heap.size w w') : OkX k X b B0 D u w' :=
  ⟨h.d1, h.d2, h.d3, h.d5, fun a c => (h.c0 a c).below hb, h.c1, h.c2, h.c3, fun a => by
    obtain ⟨R, e, hR, ⟨cs, hk, hz⟩, hm⟩ := h.c4 a
    exact ⟨R, e, hR, ⟨cs, hk.below hb hk.lt, hz⟩, fun c => (hm c).below hb⟩, fun a => by
    obtain ⟨R, A, n, c, B, m, d, e, e2, hk⟩ := h.c5 a
    exact ⟨R, A, n, c, B, m, d, e, e2, hk.below hb hk.lt⟩⟩
theorem okx_other {i : Nat} (hi : i < k ∨ k + 5 < i) (v : Value) (hb : Below w.heap.size w w') (h : OkX k X b B0 D u w) : OkX k X b B0 (updD D i) (updU u i v) w' := by
  have h' := okx_below h hb
  have e : ∀ j, k ≤ j → j ≤ k + 5 → updD D i j = D j ∧ updU u i v j = u j := fun j h1 h2 => by
    unfold updD updU
    rw [if_neg (by omega), if_neg (by omega)]
    exact ⟨rfl, rfl⟩
  obtain ⟨a0, b0⟩ := e k (by omega) (by omega)
  obtain ⟨a1, b1⟩ := e (k + 1) (by omega) (by omega)
  obtain ⟨a2, b2⟩ := e (k + 2) (by omega) (by omega)
  obtain ⟨a3, b3⟩ := e (k + 3) (by omega) (by omega)
  obtain ⟨a4, b4⟩ := e (k + 4) (by omega) (by omega)
  obtain ⟨a5, b5⟩ := e (k + 5) (by omega) (by omega)
  constructor <;> simp only [a0, a1, a2, a3, a4, a5, b0, b1, b2, b3, b4, b5]
  · exact h'.d1
  · exact h'.d2
  · exact h'.d3
  · exact h'.d5
  · exact h'.c0
  · exact h'.c1
  · exact h'.c2
  · exact h'.c3
  · exact h'.c4
  · exact h'.c5
theorem updD_self (D : Nat → Bool) (i : Nat) : updD D i i = true := by unfold updD; rw [if_pos rfl]
theorem updD_ne (D : Nat → Bool) {i j : Nat} (h : j ≠ i) : updD D i j = D j := by unfold updD; rw [if_neg h]
theorem updU_self (u : Nat → Value) (i : Nat) (v : Value) : updU u i v i = v := by unfold updU; rw [if_pos rfl]
theorem updU_ne (u : Nat → Value) {i j : Nat} (v : Value) (h : j ≠ i) : updU u i v j = u j := by unfold updU; rw [if_neg h]
theorem b_no {p : Prop} {x : Bool} (h : x = false) (h' : x = true) : p := by rw [h] at h'; cases h'
/-- The call. -/
theorem okx_call {y : Value} (h : OkX k X b B0 D u w) (hn : D k = false) (hb : Below w.heap.size w w') (hy : AtO w.heap.size w' X y) : OkX k X b B0 (updD D k) (updU u k (.tuple #[y, .bool b])) w' := by
  constructor <;> simp only [updD_self, updU_self, updD_ne D (show k + 1 ≠ k by omega), updD_ne D (show k + 2 ≠ k by omega), updD_ne D (show k + 3 ≠ k by omega), updD_ne D (show k + 4 ≠ k by omega), updD_ne D (show k + 5 ≠ k by omega), updU_ne u _ (show k + 1 ≠ k by omega), updU_ne u _ (show k + 2 ≠ k by omega), updU_ne u _ (show k + 3 ≠ k by omega), updU_ne u _ (show k + 4 ≠ k by omega)]
  · exact fun _ => trivial
  · exact fun _ => trivial
  · exact fun _ => trivial
  · exact fun e => ⟨trivial, (h.d5 e).2⟩
  · exact fun _ _ => OkM.of_low hy (fun k e => by cases e)
  · exact fun e => b_no hn (h.d1 e)
  · exact fun e => b_no hn (h.d2 e)
  · exact fun e => b_no hn (h.d3 e)
  · intro e
    obtain ⟨R, e1, hR, ⟨cs, hk, hz⟩, hm⟩ := h.c4 e
    exact ⟨R, e1, hR, ⟨cs, hk.below hb hk.lt, hz⟩, fun _ => OkM.of_low hy (fun k e => by cases e; exact hk.lt)⟩
  · exact fun e => b_no hn (h.d5 e).1
theorem okx_move (h : OkX k X b B0 D u w) (hd : D k = true) : OkX k X b B0 (updD D (k + 1)) (updU u (k + 1) (u k)) w := by
  constructor <;> simp only [updD_self, updU_self, updD_ne D (show k ≠ k + 1 by omega), updD_ne D (show k + 2 ≠ k + 1 by omega), updD_ne D (show k + 3 ≠ k + 1 by omega), updD_ne D (show k + 4 ≠ k + 1 by omega), updD_ne D (show k + 5 ≠ k + 1 by omega), updU_ne u _ (show k ≠ k + 1 by omega), updU_ne u _ (show k + 2 ≠ k + 1 by omega), updU_ne u _ (show k + 3 ≠ k + 1 by omega), updU_ne u _ (show k + 4 ≠ k + 1 by omega)]
  · exact fun _ => hd
  · exact h.d2
  · exact h.d3
  · exact h.d5
  · exact h.c0
  · exact fun _ => trivial
  · exact h.c2
  · exact h.c3
  · exact h.c4
  · exact h.c5
theorem okx_ext0 {y z : Value} (h : OkX k X b B0 D u w) (hd : D k = true) (hu : u k = .tuple #[y, z]) : OkX k X b B0 (updD D (k + 2)) (updU u (k + 2) y) w := by
  constructor <;> simp only [updD_self, updU_self, updD_ne D (show k ≠ k + 2 by omega), updD_ne D (show k + 1 ≠ k + 2 by omega), updD_ne D (show k + 3 ≠ k + 2 by omega), updD_ne D (show k + 4 ≠ k + 2 by omega), updD_ne D (show k + 5 ≠ k + 2 by omega), updU_ne u _ (show k ≠ k + 2 by omega), updU_ne u _ (show k + 1 ≠ k + 2 by omega), updU_ne u _ (show k + 3 ≠ k + 2 by omega), updU_ne u _ (show k + 4 ≠ k + 2 by omega)]
  · exact h.d1
  · exact fun _ => hd
  · exact h.d3
  · exact h.d5
  · exact h.c0
  · exact h.c1
  · exact fun _ => ⟨y, z, hu, rfl⟩
  · exact h.c3
  · exact h.c4
  · exact h.c5
theorem okx_ext1 {y z : Value} (h : OkX k X b B0 D u w) (hd : D k = true) (hu : u k = .tuple #[y, z]) : OkX k X b B0 (updD D (k + 3)) (updU u (k + 3) z) w := by
  constructor <;> simp only [updD_self, updU_self, updD_ne D (show k ≠ k + 3 by omega), updD_ne D (show k + 1 ≠ k + 3 by omega), updD_ne D (show k + 2 ≠ k + 3 by omega), updD_ne D (show k + 4 ≠ k + 3 by omega), updD_ne D (show k + 5 ≠ k + 3 by omega), updU_ne u _ (show k ≠ k + 3 by omega), updU_ne u _ (show k + 1 ≠ k + 3 by omega), updU_ne u _ (show k + 2 ≠ k + 3 by omega), updU_ne u _ (show k + 4 ≠ k + 3 by omega)]
  · exact h.d1
  · exact h.d2
  · exact fun _ => hd
  · exact h.d5
  · exact h.c0
  · exact h.c1
  · exact h.c2
  · exact fun _ => ⟨y, z, hu, rfl⟩
  · exact h.c4
  · exact h.c5
/-- The box. -/
theorem okx_alloc (h : OkX k X b B0 D u w) (hn : D (k + 4) = false) (hB : B0 ≤ w.heap.size) : OkX k X b B0 (updD D (k + 4)) (updU u (k + 4) (.pointer (some ⟨w.heap.size, 0, none⟩))) (w.alloc (.cells zeroC 40)) := by
  have hb : Below w.heap.size w (w.alloc (.cells zeroC 40)) := (Below.refl _ w).alloc (Nat.le_refl _) _
  constructor <;> simp only [updD_self, updU_self, updD_ne D (show k ≠ k + 4 by omega), updD_ne D (show k + 1 ≠ k + 4 by omega), updD_ne D (show k + 2 ≠ k + 4 by omega), updD_ne D (show k + 3 ≠ k + 4 by omega), updD_ne D (show k + 5 ≠ k + 4 by omega), updU_ne u _ (show k ≠ k + 4 by omega), updU_ne u _ (show k + 1 ≠ k + 4 by omega), updU_ne u _ (show k + 2 ≠ k + 4 by omega), updU_ne u _ (show k + 3 ≠ k + 4 by omega)]
  · exact h.d1
  · exact h.d2
  · exact h.d3
  · exact fun e => b_no hn (h.d5 e).2
  · exact fun _ e => by cases e
  · exact h.c1
  · exact h.c2
  · exact h.c3
  · exact fun _ => ⟨_, rfl, hB, ⟨_, Blk.new w _ _, fun _ => rfl⟩, fun hc => (h.c0 hc hn).new hb (Nat.le_refl _)⟩
  · exact fun e => b_no hn (h.d5 e).2
/-- The store. -/
theorem okx_store {R : Nat} {A : Option Addr} {n c : Nat} {B : Option Addr} {m d : Nat} (h : OkX k X b B0 D u w) (hd : D k = true) (hd4 : D (k + 4) = true) (hR : u (k + 4) = .pointer (some ⟨R, 0, none⟩)) (hn : D (k + 5) = false)
    (hu : u k = .tuple #[atV X.has X.org A n c X.hop X.med X.pref X.aas X.aid B m d, .bool b]) :
    OkX k X b B0 (updD D (k + 5)) (updU u (k + 5) undef) (w.setCells R 0 [.int .i64 X.has, .int .i64 X.org, .slice A n c, .int .u32 X.hop, .int .u32 X.med, .int .u32 X.pref, .int .u32 X.aas, .int .u32 X.aid, .slice B m d]) := by
  obtain ⟨R', e1, hB, ⟨cs, hk, hz⟩, hm⟩ := h.c4 hd4
  rw [hR] at e1
  simp only [Value.pointer.injEq, Option.some.injEq, Addr.mk.injEq, and_true] at e1
  subst e1
  obtain rfl := hz hn
  have hk2 := blk9_set (v0 := .int .i64 X.has) (v1 := .int .i64 X.org) (v2 := .slice A n c) (v3 := .int .u32 X.hop) (v4 := .int .u32 X.med) (v5 := .int .u32 X.pref) (v6 := .int .u32 X.aas) (v7 := .int .u32 X.aid) (v8 := .slice B m d) hk
  constructor <;> simp only [updD_self, updU_self, updD_ne D (show k ≠ k + 5 by omega), updD_ne D (show k + 1 ≠ k + 5 by omega), updD_ne D (show k + 2 ≠ k + 5 by omega), updD_ne D (show k + 3 ≠ k + 5 by omega), updD_ne D (show k + 4 ≠ k + 5 by omega), updU_ne u _ (show k ≠ k + 5 by omega), updU_ne u _ (show k + 1 ≠ k + 5 by omega), updU_ne u _ (show k + 2 ≠ k + 5 by omega), updU_ne u _ (show k + 3 ≠ k + 5 by omega), updU_ne u _ (show k + 4 ≠ k + 5 by omega)]
  · exact h.d1
  · exact h.d2
  · exact h.d3
  · exact fun _ => ⟨hd, hd4⟩
  · exact fun _ e => b_no e hd4
  · exact h.c1
  · exact h.c2
  · exact h.c3
  · exact fun _ => ⟨R, hR, hB, ⟨_, hk2, fun e => by cases e⟩, fun _ => (hm hd).sets hk⟩
  · exact fun _ => ⟨R, A, n, c, B, m, d, hR, hu, hk2⟩
theorem okx_fin (h : OkX k X b B0 D u w) (hd : D k = true) (hd2 : D (k + 2) = true) (hd3 : D (k + 3) = true) (hd4 : D (k + 4) = true) (hd5 : D (k + 5) = true) :
    ∃ R A n c B m d, u (k + 4) = .pointer (some ⟨R, 0, none⟩) ∧ u (k + 3) = .bool b ∧ B0 ≤ R ∧ Blk w R 40 (atC X.has X.org A n c X.hop X.med X.pref X.aas X.aid B m d) ∧ LstAt 2 sgR w A n c X.path ∧ U32s w B m d X.comms := by
  obtain ⟨R, A, n, c, B, m, d, e1, e2, hk⟩ := h.c5 hd5
  obtain ⟨R', e3, hB, _, hm⟩ := h.c4 hd4
  rw [e1] at e3
  simp only [Value.pointer.injEq, Option.some.injEq, Addr.mk.injEq, and_true] at e3
  subst e3
  obtain ⟨v, hv, ha⟩ := (hm hd).rd
  obtain ⟨y, z, e4, e5⟩ := h.c3 hd3
  rw [e2] at e4 hv
  simp only [Value.tuple.injEq, Array.mk.injEq, List.cons.injEq, and_true] at e4 hv
  obtain ⟨rfl, rfl⟩ := e4
  subst hv
  obtain ⟨A', n', c', B', m', d', e6, hl, hu⟩ := ha
  simp only [Value.agg.injEq, Array.mk.injEq, List.cons.injEq, and_true, true_and, Value.slice.injEq] at e6
  obtain ⟨⟨rfl, rfl, rfl⟩, rfl, rfl, rfl⟩ := e6
  exact ⟨R, A, n, c, B, m, d, e1, e5, hB, hk, hl, hu⟩
end
theorem relPureS {P : Program} {o : Oper} {A : Act} {w : World} {S : Value → World → Prop} {Q : Exit → Act → World → Prop} {ρ : Operand → Value} (hρ : A.eval = ρ) (v : Value) (h : (execOp ρ o).run P w = .ok (.value v) w) (hS : S v w) :
    o.wp P A w (fun A' w' => ∃ v, A' = A.put o.dst v ∧ S v w') Q := by
  subst hρ
  unfold Oper.wp
  rw [h]
  exact ⟨v, rfl, hS⟩
theorem relValS {P : Program} {o : Oper} {A : Act} {w : World} {S : Value → World → Prop} {Q : Exit → Act → World → Prop} {ρ : Operand → Value} (hρ : A.eval = ρ) (v : Value) (w' : World) (h : (execOp ρ o).run P w = .ok (.value v) w') (hS : S v w') :
    o.wp P A w (fun A' w' => ∃ v, A' = A.put o.dst v ∧ S v w') Q := by
  subst hρ
  unfold Oper.wp
  rw [h]
  exact ⟨v, rfl, hS⟩
theorem relCallS {P : Program} {o : Oper} {A : Act} {w : World} {S : Value → World → Prop} {Q : Exit → Act → World → Prop} {ρ : Operand → Value} (hρ : A.eval = ρ) (f : FuncId) (args : Array Value) (h : (execOp ρ o).run P w = .ok (.enter f args) w)
    (hc : Calls P f args w fun e w' => ∃ v, e = .returned v ∧ S v w') :
    o.wp P A w (fun A' w' => ∃ v, A' = A.put o.dst v ∧ S v w') Q := by
  subst hρ
  unfold Oper.wp
  rw [h]
  refine hc.mono ?_
  rintro e w' ⟨v, rfl, hS⟩
  exact ⟨v, rfl, hS⟩
theorem okx_tup {k : Nat} {X : AT} {b : Bool} {B0 : Nat} {D : Nat → Bool} {u : Nat → Value} {w : World} (h : OkX k X b B0 D u w) (hd : D k = true) : ∃ A n c B m d, u k = .tuple #[atV X.has X.org A n c X.hop X.med X.pref X.aas X.aid B m d, .bool b] := by
  cases h4 : D (k + 4) with
  | false =>
    obtain ⟨A, n, c, xs, B, m, d, e, _⟩ := h.c0 hd h4
    exact ⟨A, n, c, B, m, d, e⟩
  | true =>
    obtain ⟨R, _, _, _, hm⟩ := h.c4 h4
    obtain ⟨A, n, c, xs, B, m, d, e, _⟩ := hm hd
    exact ⟨A, n, c, B, m, d, e⟩
set_option maxHeartbeats 1000000 in
theorem storeA {w : World} {R : Nat} {h o : Int} {A : Option Addr} {n c : Nat} {hp md pf aa ai : Int} {B : Option Addr} {m d : Nat} (hk : Blk w R 40 zeroC) :
    (Instr.storeAt 40 (.pointer (some ⟨R, 0, none⟩)) (atV h o A n c hp md pf aa ai B m d)).run Tryz.prog w = .ok () (w.setCells R 0 [.int .i64 h, .int .i64 o, .slice A n c, .int .u32 hp, .int .u32 md, .int .u32 pf, .int .u32 aa, .int .u32 ai, .slice B m d]) := by
  obtain ⟨z0, z1, z2, z3, z4, z5, z6, z7, z8⟩ := blk9 hk
  have zf := fun i => hk.frozen i
  simp [go_sem, z0, z1, z2, z3, z4, z5, z6, z7, z8, zf, World.setCells]
/-- Relations that say nothing of the world. -/
def AllFlat : List (Value → World → Prop) → Prop
  | [] => True
  | R :: r => (∀ (v : Value) (w w' : World), R v w → R v w') ∧ AllFlat r
theorem relFlat : ∀ (Rs : List (Value → World → Prop)) (_ : AllFlat Rs) (i : Nat) (v : Value) (w w' : World), relAt Rs i v w → relAt Rs i v w'
  | [], _, i, v, w, w', h => by unfold relAt; simp
  | R :: r, h, 0, v, w, w', hr => h.1 v w w' hr
  | R :: r, h, i + 1, v, w, w', hr => relFlat r h.2 i v w w' hr
end Go.Proofs.YtplhnhoijficgaaGreat
set_option linter.unusedSimpArgs false
set_option linter.unusedVariables false
namespace Go.Proofs.YtplhnhoijficgaaGreat
open Go.RowKit Go.WideShapes Go.ChangeShapes
attribute [local go_sem] Oper.semAt_some
set_option maxRecDepth 100000 in
set_option maxHeartbeats 8000000 in
theorem exOf_any (cas : Nat) (hcas : cas < 4294967296) (x : CF) (hx : x.asn = (cas : Int)) (y : PE) (r : RT) (hloc : r.loc = true) (hm0 : r.m = 0) (hn0 : r.n = 0) (hcc : r.c ≤ maxLen) (hdd : r.d ≤ maxLen) (hp0 : r.at_.path = []) (hc0 : r.at_.comms = []) (hh : attB r.at_.has 8 = false) (hex : y.ex = ⟨#[]⟩) (w : World) :
    Calls Tryz.prog 26 #[.agg (cfC x), .agg (peC y), .agg (rtV r)] w (EvP (wireA cas x.id y.asn true r.at_.has r.at_.med (normA r.at_)) true w) := by
  obtain ⟨w1, hw1⟩ : ∃ w1, ((((w.alloc (.cells (cfC x) 35)).alloc (.cells (peC y) 48)).alloc (.cells (rtV r) 42)).alloc (.cells zeroC 40)) = w1 := ⟨_, rfl⟩
  have hb1 : Below w.heap.size w w1 := hw1 ▸ (blkBelow3 w _ _ _).alloc (by simp; omega) _
  have HKc0 : Hid (Blk w1 w.heap.size 35 (cfC x)) := hide (hw1 ▸ (((Blk.new w _ _).alloc _).alloc _).alloc _)
  have HKp0 : Hid (Blk w1 (w.heap.size + 1) 48 (peC y)) := hide (hw1 ▸ ((blk_new' _ _ (by simp)).alloc _).alloc _)
  have HKr0 : Hid (Blk w1 (w.heap.size + 1 + 1) 42 (rtV r)) := hide (hw1 ▸ (blk_new' _ _ (by simp)).alloc _)
  have HKz0 : Hid (Blk w1 (w.heap.size + 1 + 1 + 1) 40 zeroC) := hide (hw1 ▸ blk_new' _ _ (by simp))
  have HBa := hide (barredOwn_any x y r hloc hm0 hh w1)
  have HXp : Hid ((normA r.at_).path = []) := hide (by show (if attB r.at_.has 2 then normS r.at_.path else []) = []; rw [hp0]; split <;> rfl)
  have HXc : Hid ((normA r.at_).comms = []) := hide (by show (if attB r.at_.has 8 then setOf r.at_.comms else []) = []; rw [hc0]; split <;> rfl)
  have HNp : Hid (numS r.at_.path ≤ 10000) := hide (by rw [hp0]; simp [numS])
  have HNc : Hid (r.at_.comms.length ≤ 10000) := hide (by rw [hc0]; simp)
  have HAt : Hid (∀ W : World, AtR W r.at_ (atV r.at_.has r.at_.org r.A r.n r.c r.at_.hop r.at_.med r.at_.pref r.at_.aas r.at_.aid r.B r.m r.d)) := hide (fun W => ⟨r.A, r.n, r.c, r.B, r.m, r.d, rfl, by rw [hp0, hn0]; exact ⟨rfl, Nat.zero_le _, hcc, fun h => absurd h (by omega)⟩, by rw [hc0, hm0]; exact ⟨rfl, Nat.zero_le _, hdd, by simp, fun h => absurd h (by omega)⟩⟩)
  have HEx := hide hex
  have HB1 := hide hb1
  have HW1 := hide hw1
  have HLoc := hide hloc
  have Hcas := hide hcas
  have Hx := hide hx
  clear hw1 hb1 hloc hm0 hn0 hcc hdd hp0 hc0 hh hex hcas hx
  go_enter Tryz.func26, Tryz.ntmps26
  go_wp2_with fail
  rw [HW1.out]
  refine HBa.out.mono ?_
  rintro e w2 ⟨rfl, hb⟩
  have HKc := hide (HKc0.out.below hb HKc0.out.lt)
  have HKp := hide (HKp0.out.below hb HKp0.out.lt)
  have HKr := hide (HKr0.out.below hb HKr0.out.lt)
  have HKz := hide (HKz0.out.below hb HKz0.out.lt)
  have HB2 := hide (HB1.out.trans (hb.mono HB1.out.size))
  clear hb HKc0 HKp0 HKr0 HKz0
  go_upto_region 3 with fail
  have Hmn := hide (show AllMono [(fun v _ => v = .pointer (some ⟨w.heap.size, 8, none⟩)), (fun v _ => v = .agg (liC x.L1 x.L2 x.L3 x.L4)), (fun v _ => v = .pointer (some ⟨w.heap.size + 1, 5, none⟩)), (fun v _ => v = .string ⟨#[]⟩), (fun v _ => v = .pointer (some ⟨w.heap.size + 1 + 1, 0, none⟩)), (fun v _ => v = .agg #[.int .u32 r.pa, .int .i64 r.pl]), (fun v _ => v = .pointer (some ⟨w.heap.size + 1 + 1, 2, none⟩)), (fun v _ => v = atV r.at_.has r.at_.org r.A r.n r.c r.at_.hop r.at_.med r.at_.pref r.at_.aas r.at_.aid r.B r.m r.d), (fun v _ => ∃ A c B d, v = atV (normA r.at_).has (normA r.at_).org A 0 c (normA r.at_).hop (normA r.at_).med (normA r.at_).pref (normA r.at_).aas (normA r.at_).aid B 0 d ∧ c ≤ maxLen ∧ d ≤ maxLen), (fun _ _ => True), (fun _ _ => True), (fun _ _ => True), (fun _ _ => True), (fun _ _ => True), (fun _ _ => True)] from ⟨fun _ _ _ _ h => h, fun _ _ _ _ h => h, fun _ _ _ _ h => h, fun _ _ _ _ h => h, fun _ _ _ _ h => h, fun _ _ _ _ h => h, fun _ _ _ _ h => h, fun _ _ _ _ h => h, fun _ _ _ _ h => h, fun _ _ _ _ _ => trivial, fun _ _ _ _ _ => trivial, fun _ _ _ _ _ => trivial, fun _ _ _ _ _ => trivial, fun _ _ _ _ _ => trivial, fun _ _ _ _ _ => trivial, trivial⟩)
  have Hfl := hide (show AllFlat [(fun v _ => v = .pointer (some ⟨w.heap.size, 8, none⟩)), (fun v _ => v = .agg (liC x.L1 x.L2 x.L3 x.L4)), (fun v _ => v = .pointer (some ⟨w.heap.size + 1, 5, none⟩)), (fun v _ => v = .string ⟨#[]⟩), (fun v _ => v = .pointer (some ⟨w.heap.size + 1 + 1, 0, none⟩)), (fun v _ => v = .agg #[.int .u32 r.pa, .int .i64 r.pl]), (fun v _ => v = .pointer (some ⟨w.heap.size + 1 + 1, 2, none⟩)), (fun v _ => v = atV r.at_.has r.at_.org r.A r.n r.c r.at_.hop r.at_.med r.at_.pref r.at_.aas r.at_.aid r.B r.m r.d), (fun v _ => ∃ A c B d, v = atV (normA r.at_).has (normA r.at_).org A 0 c (normA r.at_).hop (normA r.at_).med (normA r.at_).pref (normA r.at_).aas (normA r.at_).aid B 0 d ∧ c ≤ maxLen ∧ d ≤ maxLen), (fun _ _ => True), (fun _ _ => True), (fun _ _ => True), (fun _ _ => True), (fun _ _ => True), (fun _ _ => True)] from ⟨fun _ _ _ h => h, fun _ _ _ h => h, fun _ _ _ h => h, fun _ _ _ h => h, fun _ _ _ h => h, fun _ _ _ h => h, fun _ _ _ h => h, fun _ _ _ h => h, fun _ _ _ h => h, fun _ _ _ h => h, fun _ _ _ h => h, fun _ _ _ h => h, fun _ _ _ h => h, fun _ _ _ h => h, fun _ _ _ h => h, trivial⟩)
  refine wp_region_relX 15 w2.heap.size (Nat.le_refl _) [(fun v _ => v = .pointer (some ⟨w.heap.size, 8, none⟩)), (fun v _ => v = .agg (liC x.L1 x.L2 x.L3 x.L4)), (fun v _ => v = .pointer (some ⟨w.heap.size + 1, 5, none⟩)), (fun v _ => v = .string ⟨#[]⟩), (fun v _ => v = .pointer (some ⟨w.heap.size + 1 + 1, 0, none⟩)), (fun v _ => v = .agg #[.int .u32 r.pa, .int .i64 r.pl]), (fun v _ => v = .pointer (some ⟨w.heap.size + 1 + 1, 2, none⟩)), (fun v _ => v = atV r.at_.has r.at_.org r.A r.n r.c r.at_.hop r.at_.med r.at_.pref r.at_.aas r.at_.aid r.B r.m r.d), (fun v _ => ∃ A c B d, v = atV (normA r.at_).has (normA r.at_).org A 0 c (normA r.at_).hop (normA r.at_).med (normA r.at_).pref (normA r.at_).aas (normA r.at_).aid B 0 d ∧ c ≤ maxLen ∧ d ≤ maxLen), (fun _ _ => True), (fun _ _ => True), (fun _ _ => True), (fun _ _ => True), (fun _ _ => True), (fun _ _ => True)] (OkX 9 (normA r.at_) true w2.heap.size) (by kernel_rfl) (by kernel_rfl) (by kernel_rfl) (by kernel_rfl) (by kernel_rfl) (okx_start _ _) ⟨?_, ?_, ?_, ?_, ?_, ?_, ?_, ?_, ?_, ?_, ?_, ?_, ?_, ?_, ?_, trivial⟩ ?_
  · refine relX_plain rfl rfl Hmn.out (Nat.le_refl _) (fun D u v w w2 hb h => okx_other (by omega) v hb h) ?_
    intro Dn Ac w5 hp
    have hb := hp.bel
    have a3 : Ac.eval (.tmp 3) = .pointer (some ⟨w.heap.size, 0, none⟩) := hp.out 3 (by rfl)
    have hc := evalC Ac; have hf := evalF Ac; have hgl := evalG Ac
    obtain ⟨ρ, hρ⟩ : ∃ ρ, Ac.eval = ρ := ⟨_, rfl⟩
    rw [hρ] at a3 hc hf hgl
    exact relPure hρ (.pointer (some ⟨w.heap.size, 8, none⟩)) (by simp [go_sem, hc, hf, hgl, ↓IntWalk.iteOmega, a3, *]) rfl
  · refine relX_plain rfl rfl Hmn.out (Nat.le_refl _) (fun D u v w w2 hb h => okx_other (by omega) v hb h) ?_
    intro Dn Ac w5 hp
    have hb := hp.bel
    have a16 : Ac.eval (.tmp 16) = .pointer (some ⟨w.heap.size, 8, none⟩) := hp.dep 0 (by kernel_rfl)
    obtain ⟨x0, x1, x2, x3, x4, x5, x6, x7, x8, x9, x10, x11⟩ := blk12 (HKc.out.below hb HKc.out.lt)
    have hc := evalC Ac; have hf := evalF Ac; have hgl := evalG Ac
    obtain ⟨ρ, hρ⟩ : ∃ ρ, Ac.eval = ρ := ⟨_, rfl⟩
    rw [hρ] at a16 hc hf hgl
    exact relPure hρ (.agg (liC x.L1 x.L2 x.L3 x.L4)) (by simp [go_sem, hc, hf, hgl, ↓IntWalk.iteOmega, a16, *]) rfl
  · refine relX_plain rfl rfl Hmn.out (Nat.le_refl _) (fun D u v w w2 hb h => okx_other (by omega) v hb h) ?_
    intro Dn Ac w5 hp
    have hb := hp.bel
    have a4 : Ac.eval (.tmp 4) = .pointer (some ⟨w.heap.size + 1, 0, none⟩) := hp.out 4 (by rfl)
    have hc := evalC Ac; have hf := evalF Ac; have hgl := evalG Ac
    obtain ⟨ρ, hρ⟩ : ∃ ρ, Ac.eval = ρ := ⟨_, rfl⟩
    rw [hρ] at a4 hc hf hgl
    exact relPure hρ (.pointer (some ⟨w.heap.size + 1, 5, none⟩)) (by simp [go_sem, hc, hf, hgl, ↓IntWalk.iteOmega, a4, *]) rfl
  · refine relX_plain rfl rfl Hmn.out (Nat.le_refl _) (fun D u v w w2 hb h => okx_other (by omega) v hb h) ?_
    intro Dn Ac w5 hp
    have hb := hp.bel
    have a18 : Ac.eval (.tmp 18) = .pointer (some ⟨w.heap.size + 1, 5, none⟩) := hp.dep 2 (by kernel_rfl)
    obtain ⟨x0, x1, x2, x3, x4, x5, x6, x7, x8, x9, x10, x11⟩ := blk12 (HKp.out.below hb HKp.out.lt)
    rw [HEx.out] at x5
    have hc := evalC Ac; have hf := evalF Ac; have hgl := evalG Ac
    obtain ⟨ρ, hρ⟩ : ∃ ρ, Ac.eval = ρ := ⟨_, rfl⟩
    rw [hρ] at a18 hc hf hgl
    exact relPure hρ (.string ⟨#[]⟩) (by simp [go_sem, hc, hf, hgl, ↓IntWalk.iteOmega, a18, *]) rfl
  · refine relX_plain rfl rfl Hmn.out (Nat.le_refl _) (fun D u v w w2 hb h => okx_other (by omega) v hb h) ?_
    intro Dn Ac w5 hp
    have hb := hp.bel
    have a5 : Ac.eval (.tmp 5) = .pointer (some ⟨w.heap.size + 1 + 1, 0, none⟩) := hp.out 5 (by rfl)
    have hc := evalC Ac; have hf := evalF Ac; have hgl := evalG Ac
    obtain ⟨ρ, hρ⟩ : ∃ ρ, Ac.eval = ρ := ⟨_, rfl⟩
    rw [hρ] at a5 hc hf hgl
    exact relPure hρ (.pointer (some ⟨w.heap.size + 1 + 1, 0, none⟩)) (by simp [go_sem, hc, hf, hgl, ↓IntWalk.iteOmega, a5, *]) rfl
  · refine relX_plain rfl rfl Hmn.out (Nat.le_refl _) (fun D u v w w2 hb h => okx_other (by omega) v hb h) ?_
    intro Dn Ac w5 hp
    have hb := hp.bel
    have a20 : Ac.eval (.tmp 20) = .pointer (some ⟨w.heap.size + 1 + 1, 0, none⟩) := hp.dep 4 (by kernel_rfl)
    obtain ⟨x0, x1, x2, x3, x4, x5, x6, x7, x8, x9, x10, x11, x12, x13, x14, x15⟩ := blk16 (HKr.out.below hb HKr.out.lt)
    have hc := evalC Ac; have hf := evalF Ac; have hgl := evalG Ac
    obtain ⟨ρ, hρ⟩ : ∃ ρ, Ac.eval = ρ := ⟨_, rfl⟩
    rw [hρ] at a20 hc hf hgl
    exact relPure hρ (.agg #[.int .u32 r.pa, .int .i64 r.pl]) (by simp [go_sem, hc, hf, hgl, ↓IntWalk.iteOmega, a20, *]) rfl
  · refine relX_plain rfl rfl Hmn.out (Nat.le_refl _) (fun D u v w w2 hb h => okx_other (by omega) v hb h) ?_
    intro Dn Ac w5 hp
    have hb := hp.bel
    have a5 : Ac.eval (.tmp 5) = .pointer (some ⟨w.heap.size + 1 + 1, 0, none⟩) := hp.out 5 (by rfl)
    have hc := evalC Ac; have hf := evalF Ac; have hgl := evalG Ac
    obtain ⟨ρ, hρ⟩ : ∃ ρ, Ac.eval = ρ := ⟨_, rfl⟩
    rw [hρ] at a5 hc hf hgl
    exact relPure hρ (.pointer (some ⟨w.heap.size + 1 + 1, 2, none⟩)) (by simp [go_sem, hc, hf, hgl, ↓IntWalk.iteOmega, a5, *]) rfl
  · refine relX_plain rfl rfl Hmn.out (Nat.le_refl _) (fun D u v w w2 hb h => okx_other (by omega) v hb h) ?_
    intro Dn Ac w5 hp
    have hb := hp.bel
    have a22 : Ac.eval (.tmp 22) = .pointer (some ⟨w.heap.size + 1 + 1, 2, none⟩) := hp.dep 6 (by kernel_rfl)
    obtain ⟨x0, x1, x2, x3, x4, x5, x6, x7, x8, x9, x10, x11, x12, x13, x14, x15⟩ := blk16 (HKr.out.below hb HKr.out.lt)
    have hc := evalC Ac; have hf := evalF Ac; have hgl := evalG Ac
    obtain ⟨ρ, hρ⟩ : ∃ ρ, Ac.eval = ρ := ⟨_, rfl⟩
    rw [hρ] at a22 hc hf hgl
    exact relPure hρ (atV r.at_.has r.at_.org r.A r.n r.c r.at_.hop r.at_.med r.at_.pref r.at_.aas r.at_.aid r.B r.m r.d) (by simp [go_sem, hc, hf, hgl, ↓IntWalk.iteOmega, a22, *]) rfl
  · refine relX_plain rfl rfl Hmn.out (Nat.le_refl _) (fun D u v w w2 hb h => okx_other (by omega) v hb h) ?_
    intro Dn Ac w5 hp
    have hb := hp.bel
    have a23 : Ac.eval (.tmp 23) = atV r.at_.has r.at_.org r.A r.n r.c r.at_.hop r.at_.med r.at_.pref r.at_.aas r.at_.aid r.B r.m r.d := hp.dep 7 (by kernel_rfl)
    have hc := evalC Ac; have hf := evalF Ac; have hgl := evalG Ac
    obtain ⟨ρ, hρ⟩ : ∃ ρ, Ac.eval = ρ := ⟨_, rfl⟩
    rw [hρ] at a23 hc hf hgl
    refine relCall hρ 28 #[atV r.at_.has r.at_.org r.A r.n r.c r.at_.hop r.at_.med r.at_.pref r.at_.aas r.at_.aid r.B r.m r.d] (by simp [go_sem, hc, hf, hgl, ↓IntWalk.iteOmega, a23, *]) ?_
    refine (attrNormX_any r.at_ (atV r.at_.has r.at_.org r.A r.n r.c r.at_.hop r.at_.med r.at_.pref r.at_.aas r.at_.aid r.B r.m r.d) w5 (HAt.out w5) HNp.out HNc.out).mono ?_
    rintro e w6 ⟨v6, rfl, ho6, hb6⟩
    obtain ⟨A6, n6, c6, xs6, B6, m6, d6, rfl, hl6, hu6⟩ := ho6
    have hn6 := (hl6.lst (by decide)).1
    have hm6 := hu6.here.1
    rw [HXp.out] at hn6
    rw [HXc.out] at hm6
    obtain rfl : n6 = 0 := hn6.symm
    obtain rfl : m6 = 0 := hm6.symm
    exact ⟨_, rfl, ⟨A6, c6, B6, d6, rfl, (hl6.lst (by decide)).2.2.1, hu6.here.2.2.1⟩, hb6⟩
  · refine relX_op rfl rfl Hmn.out (Nat.le_refl _) ?_
    intro D Ac w5 hp
    have hb := hp.bel
    have a17 : Ac.eval (.tmp 17) = .agg (liC x.L1 x.L2 x.L3 x.L4) := hp.dep 1 (by kernel_rfl)
    have a19 : Ac.eval (.tmp 19) = .string ⟨#[]⟩ := hp.dep 3 (by kernel_rfl)
    have a21 : Ac.eval (.tmp 21) = .agg #[.int .u32 r.pa, .int .i64 r.pl] := hp.dep 5 (by kernel_rfl)
    obtain ⟨A24, c24, B24, d24, a24, hc24, hd24⟩ := hp.dep 8 (by kernel_rfl)
    change Ac.eval (.tmp 24) = _ at a24
    have hx := hp.ext
    have hno := hp.no
    have hc := evalC Ac; have hf := evalF Ac; have hgl := evalG Ac
    obtain ⟨ρ, hρ⟩ : ∃ ρ, Ac.eval = ρ := ⟨_, rfl⟩
    rw [hρ] at a17 a19 a21 a24 hc hf hgl
    refine relCallS hρ 38 #[.agg (liC x.L1 x.L2 x.L3 x.L4), .string ⟨#[]⟩, .agg #[.int .u32 r.pa, .int .i64 r.pl], atV (normA r.at_).has (normA r.at_).org A24 0 c24 (normA r.at_).hop (normA r.at_).med (normA r.at_).pref (normA r.at_).aas (normA r.at_).aid B24 0 d24] (by simp [go_sem, hc, hf, hgl, ↓IntWalk.iteOmega, a17, a19, a21, a24, *]) ?_
    refine (EvalE0_any x.L1 x.L2 x.L3 x.L4 r.pa r.pl (normA r.at_) HXp.out HXc.out _ w5 ⟨A24, 0, c24, B24, 0, d24, rfl, by rw [HXp.out]; exact ⟨rfl, Nat.zero_le _, hc24, fun h => absurd h (by omega)⟩, by rw [HXc.out]; exact ⟨rfl, Nat.zero_le _, hd24, by simp, fun h => absurd h (by omega)⟩⟩).mono ?_
    rintro e w6 ⟨v6, rfl, ho6, hb6⟩
    exact ⟨_, rfl, trivial, hb6, okx_call hx hno hb6 ho6⟩
  · refine relX_op rfl rfl Hmn.out (Nat.le_refl _) ?_
    intro D Ac w5 hp
    have hd : D 9 = true := hp.dn 9 (by kernel_rfl)
    obtain ⟨ρ, hρ⟩ : ∃ ρ, Ac.eval = ρ := ⟨_, rfl⟩
    refine relPureS hρ (Ac.eval (.tmp 25)) (by rw [hρ]; simp [go_sem]) ⟨trivial, Below.refl _ _, ?_⟩
    exact okx_move hp.ext hd
  · refine relX_op rfl rfl Hmn.out (Nat.le_refl _) ?_
    intro D Ac w5 hp
    have hd1 : D 10 = true := hp.dn 10 (by kernel_rfl)
    have hd := hp.ext.d1 hd1
    obtain ⟨A6, n6, c6, B6, m6, d6, hu6⟩ := okx_tup hp.ext hd
    have hu7 := (hp.ext.c1 hd1).trans hu6
    change Ac.eval (.tmp 15) = _ at hu7
    have hx := hp.ext
    obtain ⟨ρ, hρ⟩ : ∃ ρ, Ac.eval = ρ := ⟨_, rfl⟩
    rw [hρ] at hu7
    refine relPureS hρ _ (by simp [go_sem, hu7]) ⟨trivial, Below.refl _ _, okx_ext0 hx hd hu6⟩
  · refine relX_op rfl rfl Hmn.out (Nat.le_refl _) ?_
    intro D Ac w5 hp
    have hd1 : D 10 = true := hp.dn 10 (by kernel_rfl)
    have hd := hp.ext.d1 hd1
    obtain ⟨A6, n6, c6, B6, m6, d6, hu6⟩ := okx_tup hp.ext hd
    have hu7 := (hp.ext.c1 hd1).trans hu6
    change Ac.eval (.tmp 15) = _ at hu7
    have hx := hp.ext
    obtain ⟨ρ, hρ⟩ : ∃ ρ, Ac.eval = ρ := ⟨_, rfl⟩
    rw [hρ] at hu7
    refine relPureS hρ _ (by simp [go_sem, hu7]) ⟨trivial, Below.refl _ _, okx_ext1 hx hd hu6⟩
  · refine relX_op rfl rfl Hmn.out (Nat.le_refl _) ?_
    intro D Ac w5 hp
    obtain ⟨ρ, hρ⟩ : ∃ ρ, Ac.eval = ρ := ⟨_, rfl⟩
    refine relValS hρ (.pointer (some ⟨w5.heap.size, 0, none⟩)) (w5.alloc (.cells zeroC 40)) (by simp [go_sem]) ⟨trivial, (Below.refl _ _).alloc (Nat.le_refl _) _, okx_alloc hp.ext hp.no hp.bel.size⟩
  · refine relX_store rfl ?_
    intro D Ac w5 hp
    have hd4 : D 13 = true := hp.dn 13 (by kernel_rfl)
    have hd2 : D 11 = true := hp.dn 11 (by kernel_rfl)
    have hd := hp.ext.d2 hd2
    obtain ⟨A6, n6, c6, B6, m6, d6, hu6⟩ := okx_tup hp.ext hd
    obtain ⟨y6, z6, hy, hv⟩ := hp.ext.c2 hd2
    rw [hu6] at hy
    simp only [Value.tuple.injEq, Array.mk.injEq, List.cons.injEq, and_true] at hy
    obtain ⟨rfl, rfl⟩ := hy
    obtain ⟨R6, hR6, hB6, ⟨cs6, hk6, hz6⟩, _⟩ := hp.ext.c4 hd4
    obtain rfl := hz6 hp.no
    have hpt := hR6
    change Ac.eval (.tmp 8) = _ at hpt
    change Ac.eval (.tmp 26) = _ at hv
    exact ⟨_, .inl (exec_store rfl hpt hv (storeA hk6)), trivial, below_sets _ 0 (Below.refl _ _) hB6, fun j _ hj => relFlat _ Hfl.out _ _ _ _ (hp.has j hj), okx_store hp.ext hd hd4 hR6 hp.no hu6⟩
  intro u w7 hb7 hall hox
  obtain ⟨R9, A9, n9, c9, B9, m9, d9, hp9, hb9, hB9, hk9, hl9, hu9⟩ := okx_fin hox (by decide) (by decide) (by decide) (by decide) (by decide)
  change u 13 = _ at hp9
  change u 12 = _ at hb9
  clear hall
  simp only [List.drop_succ_cons, List.drop_zero, List.take_succ_cons, List.take_zero, putAll, Act.put, List.setIfInBounds_toArray, List.set_cons_zero, List.set_cons_succ, Nat.zero_add, Nat.reduceAdd, hp9, hb9]
  have HK9 := hide hk9
  have HAt9 := hide (show AtR w7 (normA r.at_) (atV (normA r.at_).has (normA r.at_).org A9 n9 c9 (normA r.at_).hop (normA r.at_).med (normA r.at_).pref (normA r.at_).aas (normA r.at_).aid B9 m9 d9) from ⟨A9, n9, c9, B9, m9, d9, rfl, hl9, hu9⟩)
  have HKc7 := hide (HKc.out.below hb7 HKc.out.lt)
  have HKp7 := hide (HKp.out.below hb7 HKp.out.lt)
  have HKr7 := hide (HKr.out.below hb7 HKr.out.lt)
  have HKz7 := hide (HKz.out.below hb7 HKz.out.lt)
  have HB7 := hide (HB2.out.trans (hb7.mono HB2.out.size))
  have HWi := hide (exWire_any cas Hcas.out x Hx.out y r (normA r.at_) _ w7 HAt9.out (by rw [HXp.out]; simp [numS]) (by rw [HXc.out]; simp))
  rw [HLoc.out] at HWi
  obtain ⟨RES, hRES⟩ : ∃ R, wireA cas x.id y.asn true r.at_.has r.at_.med (normA r.at_) = R := ⟨_, rfl⟩
  rw [hRES] at HWi
  have HRES := hide hRES
  clear hox hk9 hl9 hu9 hp9 hb9 hB9 hb7 hRES
  obtain ⟨XH, hXH⟩ : ∃ X, normA r.at_ = X := ⟨_, rfl⟩
  rw [hXH] at HK9 HWi
  clear hXH
  obtain ⟨a0, a1, a2, a3, a4, a5, a6, a7, a8⟩ := blk9 HK9.out
  obtain ⟨c0, c1, c2, c3, c4, c5, c6, c7, c8, c9_, c10, c11⟩ := blk12 HKc7.out
  obtain ⟨p0, p1, p2, p3, p4, p5, p6, p7, p8, p9, p10, p11⟩ := blk12 HKp7.out
  obtain ⟨r0, r1, r2, r3, r4, r5, r6, r7, r8, r9, r10, r11, r12, r13, r14, r15⟩ := blk16 HKr7.out
  go_wp2_with fail
  refine HWi.out.mono ?_
  rintro e w8 ⟨v8, rfl, ho, hb⟩
  obtain ⟨A1, n1, c1', xs1, B1, m1, d1, rfl, hl, hu⟩ := ho
  have hlt : w.heap.size + 1 + 1 + 1 < w7.heap.size := HKz7.out.lt
  have HK1 := hide (HKz7.out.below hb hlt)
  have HB1 := hide (HB7.out.trans (hb.mono HB7.out.size))
  have HO := hide (show AtO w7.heap.size w8 RES (atV RES.has RES.org A1 n1 c1' RES.hop RES.med RES.pref RES.aas RES.aid B1 m1 d1) from ⟨A1, n1, c1', xs1, B1, m1, d1, rfl, hl, hu⟩)
  clear hl hu hb a0 a1 a2 a3 a4 a5 a6 a7 a8 c0 c1 c2 c3 c4 c5 c6 c7 c8 c9_ c10 c11 p0 p1 p2 p3 p4 p5 p6 p7 p8 p9 p10 p11 r0 r1 r2 r3 r4 r5 r6 r7 r8 r9 r10 r11 r12 r13 r14 r15
  obtain ⟨z0, z1, z2, z3, z4, z5, z6, z7, z8⟩ := blk9 HK1.out
  have zf := fun i => HK1.out.frozen i
  go_wp2
  change bodyPost _ _ _ _ _ (w8.setCells (w.heap.size + 1 + 1 + 1) 0 [.int .i64 RES.has, .int .i64 RES.org, .slice A1 n1 c1', .int .u32 RES.hop, .int .u32 RES.med, .int .u32 RES.pref, .int .u32 RES.aas, .int .u32 RES.aid, .slice B1 m1 d1])
  obtain ⟨wF, hwF⟩ : ∃ x, w8.setCells (w.heap.size + 1 + 1 + 1) 0 [.int .i64 RES.has, .int .i64 RES.org, .slice A1 n1 c1', .int .u32 RES.hop, .int .u32 RES.med, .int .u32 RES.pref, .int .u32 RES.aas, .int .u32 RES.aid, .slice B1 m1 d1] = x := ⟨_, rfl⟩
  have HFk := hide (hwF ▸ blk9_set HK1.out : Blk wF (w.heap.size + 1 + 1 + 1) 40 (atC RES.has RES.org A1 n1 c1' RES.hop RES.med RES.pref RES.aas RES.aid B1 m1 d1))
  have HFo := hide (hwF ▸ AtO.sets _ 0 HO.out hlt : AtO w7.heap.size wF RES (atV RES.has RES.org A1 n1 c1' RES.hop RES.med RES.pref RES.aas RES.aid B1 m1 d1))
  have HFb := hide (hwF ▸ below_sets _ 0 HB1.out (by omega) : Below w.heap.size w wF)
  rw [hwF]
  clear hwF z0 z1 z2 z3 z4 z5 z6 z7 z8 zf
  obtain ⟨z0, z1, z2, z3, z4, z5, z6, z7, z8⟩ := blk9 HFk.out
  exact bodyPost_ret (v := .tuple #[atV RES.has RES.org A1 n1 c1' RES.hop RES.med RES.pref RES.aas RES.aid B1 m1 d1, .bool true]) (by simp [results, Tryz.results26, go_sem, z0, z1, z2, z3, z4, z5, z6, z7, z8]) rfl ⟨_, rfl, by rw [HRES.out]; exact HFo.out.less (b' := w.heap.size) (by omega), HFb.out⟩
set_option maxRecDepth 100000 in
set_option maxHeartbeats 8000000 in
theorem exOfX_any (cas : Nat) (hcas : cas < 4294967296) (x : CF) (hx : x.asn = (cas : Int)) (y : PE) (r : RT) (hloc : r.loc = true) (hm0 : r.m = 0) (hn0 : r.n = 0) (hcc : r.c ≤ maxLen) (hdd : r.d ≤ maxLen) (hp0 : r.at_.path = []) (hc0 : r.at_.comms = []) (hh : attB r.at_.has 8 = false) (hex : y.ex = ⟨#[]⟩) (w : World) :
    Calls Tryz.prog 16 #[.agg (cfC x), .agg (peC y), .agg (rtV r)] w (EvP (wireA cas x.id y.asn true r.at_.has r.at_.med (normA r.at_)) true w) := by
  obtain ⟨w1, hw1⟩ : ∃ w1, ((((w.alloc (.cells (cfC x) 35)).alloc (.cells (peC y) 48)).alloc (.cells (rtV r) 42)).alloc (.cells zeroC 40)) = w1 := ⟨_, rfl⟩
  have HB1 : Hid (Below w.heap.size w w1) := hide (hw1 ▸ (blkBelow3 w _ _ _).alloc (by simp; omega) _)
  have HKz : Hid (Blk w1 (w.heap.size + 1 + 1 + 1) 40 zeroC) := hide (hw1 ▸ blk_new' _ _ (by simp))
  have HOf := hide (exOf_any cas hcas x hx y r hloc hm0 hn0 hcc hdd hp0 hc0 hh hex w1)
  have HW1 := hide hw1
  obtain ⟨RES, hRES⟩ : ∃ R, wireA cas x.id y.asn true r.at_.has r.at_.med (normA r.at_) = R := ⟨_, rfl⟩
  rw [hRES] at HOf ⊢
  clear hw1 hcas hx hloc hm0 hn0 hcc hdd hp0 hc0 hh hex hRES
  go_enter Tryz.func16, Tryz.ntmps16
  go_wp2_with fail
  rw [HW1.out]
  refine HOf.out.mono ?_
  rintro e w8 ⟨v8, rfl, ho, hb⟩
  obtain ⟨A1, n1, c1', xs1, B1, m1, d1, rfl, hl, hu⟩ := ho
  have hlt : w.heap.size + 1 + 1 + 1 < w1.heap.size := HKz.out.lt
  have HK1 := hide (HKz.out.below hb hlt)
  have HB2 := hide (HB1.out.trans (hb.mono HB1.out.size))
  have HO := hide (show AtO w1.heap.size w8 RES (atV RES.has RES.org A1 n1 c1' RES.hop RES.med RES.pref RES.aas RES.aid B1 m1 d1) from ⟨A1, n1, c1', xs1, B1, m1, d1, rfl, hl, hu⟩)
  clear hl hu hb
  obtain ⟨z0, z1, z2, z3, z4, z5, z6, z7, z8⟩ := blk9 HK1.out
  have zf := fun i => HK1.out.frozen i
  go_wp2
  change bodyPost _ _ _ _ _ (w8.setCells (w.heap.size + 1 + 1 + 1) 0 [.int .i64 RES.has, .int .i64 RES.org, .slice A1 n1 c1', .int .u32 RES.hop, .int .u32 RES.med, .int .u32 RES.pref, .int .u32 RES.aas, .int .u32 RES.aid, .slice B1 m1 d1])
  obtain ⟨wF, hwF⟩ : ∃ x, w8.setCells (w.heap.size + 1 + 1 + 1) 0 [.int .i64 RES.has, .int .i64 RES.org, .slice A1 n1 c1', .int .u32 RES.hop, .int .u32 RES.med, .int .u32 RES.pref, .int .u32 RES.aas, .int .u32 RES.aid, .slice B1 m1 d1] = x := ⟨_, rfl⟩
  have HFk := hide (hwF ▸ blk9_set HK1.out : Blk wF (w.heap.size + 1 + 1 + 1) 40 (atC RES.has RES.org A1 n1 c1' RES.hop RES.med RES.pref RES.aas RES.aid B1 m1 d1))
  have HFo := hide (hwF ▸ AtO.sets _ 0 HO.out hlt : AtO w1.heap.size wF RES (atV RES.has RES.org A1 n1 c1' RES.hop RES.med RES.pref RES.aas RES.aid B1 m1 d1))
  have HFb := hide (hwF ▸ below_sets _ 0 HB2.out (by omega) : Below w.heap.size w wF)
  rw [hwF]
  clear hwF z0 z1 z2 z3 z4 z5 z6 z7 z8 zf
  obtain ⟨z0, z1, z2, z3, z4, z5, z6, z7, z8⟩ := blk9 HFk.out
  exact bodyPost_ret (v := .tuple #[atV RES.has RES.org A1 n1 c1' RES.hop RES.med RES.pref RES.aas RES.aid B1 m1 d1, .bool true]) (by simp [results, Tryz.results16, go_sem, z0, z1, z2, z3, z4, z5, z6, z7, z8]) rfl ⟨_, rfl, HFo.out.less (b' := w.heap.size) (by omega), HFb.out⟩
end Go.Proofs.YtplhnhoijficgaaGreat
set_option linter.unusedSimpArgs false
set_option linter.unusedVariables false
namespace Go.Proofs.YtplhnhoijficgaaGreat
open Go.RowKit Go.WideShapes Go.ChangeShapes
attribute [local go_sem] Oper.semAt_some
def lvX : CF := ⟨65000, 7, 0, 0, 0, (none, 0, 0), (none, 0, 0), (none, 0, 0), (none, 0, 0), (none, 0, 0), (none, 0, 0), (none, 0, 0)⟩
def lvY : PE := ⟨5, 65001, 0, false, ⟨#[]⟩, ⟨#[]⟩, ⟨#[]⟩, false, ⟨#[]⟩, ⟨#[]⟩, ⟨#[]⟩, false⟩
def lvY2 : PE := ⟨0, 65000, 0, false, ⟨#[]⟩, ⟨#[]⟩, ⟨#[]⟩, false, ⟨#[]⟩, ⟨#[]⟩, ⟨#[]⟩, false⟩
def lvR : RT := ⟨0, 0, ownA 7, none, 0, 0, none, 0, 0, 7, 65000, 7, false, true⟩
def lvA : AT := wireA 65000 7 65001 true 14 0 (normA (ownA 7))
theorem lvA_path : lvA.path = [⟨2, [65000]⟩] := by kernel_rfl
theorem lvA_hop : lvA.hop = 7 := by decide +kernel
set_option maxRecDepth 100000 in
set_option maxHeartbeats 8000000 in
theorem lives34_any (w : World) : Calls Tryz.prog 9 #[] w (GoodP true w) := by
  obtain ⟨w1, hw1⟩ : ∃ w1, w.alloc (.cells (cfC lvX) 35) = w1 := ⟨_, rfl⟩
  have HB1 : Hid (Below w.heap.size w w1) := hide (hw1 ▸ (Below.refl _ w).alloc (Nat.le_refl _) _)
  have HKc : Hid (Blk w1 w.heap.size 35 (cfC lvX)) := hide (hw1 ▸ Blk.new w _ _)
  have HW1 := hide hw1
  clear hw1
  go_enter Tryz.func9, Tryz.ntmps9
  go_upto_region 2 with fail
  change Code.wp _ _ _ _ (w.alloc (.cells (cfC lvX) 35))
  rw [HW1.out]
  have Hmn := hide (show AllMono [(fun v _ => v = .agg (cfC lvX)), (fun v _ => v = .agg (peC lvY)), (fun v _ => v = .agg (cfC lvX)), (fun v _ => v = .agg #[.int .u32 0, .int .i64 0]), (fun v _ => v = .agg (rtV lvR)), (fun _ _ => True), (fun _ _ => True), (fun _ _ => True), (fun _ _ => True), (fun _ _ => True), (fun _ _ => True)] from ⟨fun _ _ _ _ h => h, fun _ _ _ _ h => h, fun _ _ _ _ h => h, fun _ _ _ _ h => h, fun _ _ _ _ h => h, fun _ _ _ _ _ => trivial, fun _ _ _ _ _ => trivial, fun _ _ _ _ _ => trivial, fun _ _ _ _ _ => trivial, fun _ _ _ _ _ => trivial, fun _ _ _ _ _ => trivial, trivial⟩)
  have Hfl := hide (show AllFlat [(fun v _ => v = .agg (cfC lvX)), (fun v _ => v = .agg (peC lvY)), (fun v _ => v = .agg (cfC lvX)), (fun v _ => v = .agg #[.int .u32 0, .int .i64 0]), (fun v _ => v = .agg (rtV lvR)), (fun _ _ => True), (fun _ _ => True), (fun _ _ => True), (fun _ _ => True), (fun _ _ => True), (fun _ _ => True)] from ⟨fun _ _ _ h => h, fun _ _ _ h => h, fun _ _ _ h => h, fun _ _ _ h => h, fun _ _ _ h => h, fun _ _ _ h => h, fun _ _ _ h => h, fun _ _ _ h => h, fun _ _ _ h => h, fun _ _ _ h => h, fun _ _ _ h => h, trivial⟩)
  refine wp_region_relX 11 w1.heap.size (Nat.le_refl _) [(fun v _ => v = .agg (cfC lvX)), (fun v _ => v = .agg (peC lvY)), (fun v _ => v = .agg (cfC lvX)), (fun v _ => v = .agg #[.int .u32 0, .int .i64 0]), (fun v _ => v = .agg (rtV lvR)), (fun _ _ => True), (fun _ _ => True), (fun _ _ => True), (fun _ _ => True), (fun _ _ => True), (fun _ _ => True)] (OkX 5 lvA true w1.heap.size) (by kernel_rfl) (by kernel_rfl) (by kernel_rfl) (by kernel_rfl) (by kernel_rfl) (okx_start _ _) ⟨?_, ?_, ?_, ?_, ?_, ?_, ?_, ?_, ?_, ?_, ?_, trivial⟩ ?_
  · refine relX_plain rfl rfl Hmn.out (Nat.le_refl _) (fun D u v w w2 hb h => okx_other (by omega) v hb h) ?_
    intro Dn Ac w5 hp
    have hb := hp.bel
    have a1 : Ac.eval (.tmp 1) = .pointer (some ⟨w.heap.size, 0, none⟩) := hp.out 1 (by rfl)
    obtain ⟨x0, x1, x2, x3, x4, x5, x6, x7, x8, x9, x10, x11⟩ := blk12 (HKc.out.below hb HKc.out.lt)
    simp only [lvX] at x0 x1 x2 x3 x4 x5 x6 x7 x8 x9 x10 x11
    have hc := evalC Ac; have hf := evalF Ac; have hgl := evalG Ac
    obtain ⟨ρ, hρ⟩ : ∃ ρ, Ac.eval = ρ := ⟨_, rfl⟩
    rw [hρ] at a1 hc hf hgl
    exact relPure hρ (.agg (cfC lvX)) (by simp [go_sem, hc, hf, hgl, ↓IntWalk.iteOmega, a1, lvX, lvY, *]) rfl
  · refine relX_plain rfl rfl Hmn.out (Nat.le_refl _) (fun D u v w w2 hb h => okx_other (by omega) v hb h) ?_
    intro Dn Ac w5 hp
    have hb := hp.bel
    have hc := evalC Ac; have hf := evalF Ac; have hgl := evalG Ac
    obtain ⟨ρ, hρ⟩ : ∃ ρ, Ac.eval = ρ := ⟨_, rfl⟩
    rw [hρ] at hc hf hgl
    exact relPure hρ (.agg (peC lvY)) (by simp [go_sem, hc, hf, hgl, ↓IntWalk.iteOmega, lvX, lvY, *]) rfl
  · refine relX_plain rfl rfl Hmn.out (Nat.le_refl _) (fun D u v w w2 hb h => okx_other (by omega) v hb h) ?_
    intro Dn Ac w5 hp
    have hb := hp.bel
    have a1 : Ac.eval (.tmp 1) = .pointer (some ⟨w.heap.size, 0, none⟩) := hp.out 1 (by rfl)
    obtain ⟨x0, x1, x2, x3, x4, x5, x6, x7, x8, x9, x10, x11⟩ := blk12 (HKc.out.below hb HKc.out.lt)
    simp only [lvX] at x0 x1 x2 x3 x4 x5 x6 x7 x8 x9 x10 x11
    have hc := evalC Ac; have hf := evalF Ac; have hgl := evalG Ac
    obtain ⟨ρ, hρ⟩ : ∃ ρ, Ac.eval = ρ := ⟨_, rfl⟩
    rw [hρ] at a1 hc hf hgl
    exact relPure hρ (.agg (cfC lvX)) (by simp [go_sem, hc, hf, hgl, ↓IntWalk.iteOmega, a1, lvX, lvY, *]) rfl
  · refine relX_plain rfl rfl Hmn.out (Nat.le_refl _) (fun D u v w w2 hb h => okx_other (by omega) v hb h) ?_
    intro Dn Ac w5 hp
    have hb := hp.bel
    have hc := evalC Ac; have hf := evalF Ac; have hgl := evalG Ac
    obtain ⟨ρ, hρ⟩ : ∃ ρ, Ac.eval = ρ := ⟨_, rfl⟩
    rw [hρ] at hc hf hgl
    exact relPure hρ (.agg #[.int .u32 0, .int .i64 0]) (by simp [go_sem, hc, hf, hgl, ↓IntWalk.iteOmega, lvX, lvY, *]) rfl
  · refine relX_plain rfl rfl Hmn.out (Nat.le_refl _) (fun D u v w w2 hb h => okx_other (by omega) v hb h) ?_
    intro Dn Ac w5 hp
    have hb := hp.bel
    have a8 : Ac.eval (.tmp 8) = .agg (cfC lvX) := hp.dep 2 (by kernel_rfl)
    have a9 : Ac.eval (.tmp 9) = .agg #[.int .u32 0, .int .i64 0] := hp.dep 3 (by kernel_rfl)
    have hc := evalC Ac; have hf := evalF Ac; have hgl := evalG Ac
    obtain ⟨ρ, hρ⟩ : ∃ ρ, Ac.eval = ρ := ⟨_, rfl⟩
    rw [hρ] at a8 a9 hc hf hgl
    refine relCall hρ 6 #[.agg (cfC lvX), .agg #[.int .u32 0, .int .i64 0]] (by simp [go_sem, hc, hf, hgl, ↓IntWalk.iteOmega, a8, a9, lvX, lvY, *]) ?_
    refine (exLocalX_any lvX 0 0 w5).mono ?_
    rintro e w6 ⟨rfl, hb6⟩
    exact ⟨_, rfl, rfl, hb6⟩
  · refine relX_op rfl rfl Hmn.out (Nat.le_refl _) ?_
    intro D Ac w5 hp
    have hb := hp.bel
    have a6 : Ac.eval (.tmp 6) = .agg (cfC lvX) := hp.dep 0 (by kernel_rfl)
    have a7 : Ac.eval (.tmp 7) = .agg (peC lvY) := hp.dep 1 (by kernel_rfl)
    have a10 : Ac.eval (.tmp 10) = .agg (rtV lvR) := hp.dep 4 (by kernel_rfl)
    have hx := hp.ext
    have hno := hp.no
    have hc := evalC Ac; have hf := evalF Ac; have hgl := evalG Ac
    obtain ⟨ρ, hρ⟩ : ∃ ρ, Ac.eval = ρ := ⟨_, rfl⟩
    rw [hρ] at a6 a7 a10 hc hf hgl
    refine relCallS hρ 16 #[.agg (cfC lvX), .agg (peC lvY), .agg (rtV lvR)] (by simp [go_sem, hc, hf, hgl, ↓IntWalk.iteOmega, a6, a7, a10, *]) ?_
    refine (exOfX_any 65000 (by decide) lvX rfl lvY lvR rfl rfl rfl (Nat.zero_le _) (Nat.zero_le _) rfl rfl (by decide +kernel) rfl w5).mono ?_
    rintro e w6 ⟨v6, rfl, ho6, hb6⟩
    exact ⟨_, rfl, trivial, hb6, okx_call hx hno hb6 ho6⟩
  · refine relX_op rfl rfl Hmn.out (Nat.le_refl _) ?_
    intro D Ac w5 hp
    have hd : D 5 = true := hp.dn 5 (by kernel_rfl)
    obtain ⟨ρ, hρ⟩ : ∃ ρ, Ac.eval = ρ := ⟨_, rfl⟩
    refine relPureS hρ (Ac.eval (.tmp 11)) (by rw [hρ]; simp [go_sem]) ⟨trivial, Below.refl _ _, ?_⟩
    exact okx_move hp.ext hd
  · refine relX_op rfl rfl Hmn.out (Nat.le_refl _) ?_
    intro D Ac w5 hp
    have hd1 : D 6 = true := hp.dn 6 (by kernel_rfl)
    have hd := hp.ext.d1 hd1
    obtain ⟨A6, n6, c6, B6, m6, d6, hu6⟩ := okx_tup hp.ext hd
    have hu7 := (hp.ext.c1 hd1).trans hu6
    change Ac.eval (.tmp 5) = _ at hu7
    have hx := hp.ext
    obtain ⟨ρ, hρ⟩ : ∃ ρ, Ac.eval = ρ := ⟨_, rfl⟩
    rw [hρ] at hu7
    refine relPureS hρ _ (by simp [go_sem, hu7]) ⟨trivial, Below.refl _ _, okx_ext0 hx hd hu6⟩
  · refine relX_op rfl rfl Hmn.out (Nat.le_refl _) ?_
    intro D Ac w5 hp
    have hd1 : D 6 = true := hp.dn 6 (by kernel_rfl)
    have hd := hp.ext.d1 hd1
    obtain ⟨A6, n6, c6, B6, m6, d6, hu6⟩ := okx_tup hp.ext hd
    have hu7 := (hp.ext.c1 hd1).trans hu6
    change Ac.eval (.tmp 5) = _ at hu7
    have hx := hp.ext
    obtain ⟨ρ, hρ⟩ : ∃ ρ, Ac.eval = ρ := ⟨_, rfl⟩
    rw [hρ] at hu7
    refine relPureS hρ _ (by simp [go_sem, hu7]) ⟨trivial, Below.refl _ _, okx_ext1 hx hd hu6⟩
  · refine relX_op rfl rfl Hmn.out (Nat.le_refl _) ?_
    intro D Ac w5 hp
    obtain ⟨ρ, hρ⟩ : ∃ ρ, Ac.eval = ρ := ⟨_, rfl⟩
    refine relValS hρ (.pointer (some ⟨w5.heap.size, 0, none⟩)) (w5.alloc (.cells zeroC 40)) (by simp [go_sem]) ⟨trivial, (Below.refl _ _).alloc (Nat.le_refl _) _, okx_alloc hp.ext hp.no hp.bel.size⟩
  · refine relX_store rfl ?_
    intro D Ac w5 hp
    have hd4 : D 9 = true := hp.dn 9 (by kernel_rfl)
    have hd2 : D 7 = true := hp.dn 7 (by kernel_rfl)
    have hd := hp.ext.d2 hd2
    obtain ⟨A6, n6, c6, B6, m6, d6, hu6⟩ := okx_tup hp.ext hd
    obtain ⟨y6, z6, hy, hv⟩ := hp.ext.c2 hd2
    rw [hu6] at hy
    simp only [Value.tuple.injEq, Array.mk.injEq, List.cons.injEq, and_true] at hy
    obtain ⟨rfl, rfl⟩ := hy
    obtain ⟨R6, hR6, hB6, ⟨cs6, hk6, hz6⟩, _⟩ := hp.ext.c4 hd4
    obtain rfl := hz6 hp.no
    have hpt := hR6
    change Ac.eval (.tmp 2) = _ at hpt
    change Ac.eval (.tmp 12) = _ at hv
    exact ⟨_, .inl (exec_store rfl hpt hv (storeA hk6)), trivial, below_sets _ 0 (Below.refl _ _) hB6, fun j _ hj => relFlat _ Hfl.out _ _ _ _ (hp.has j hj), okx_store hp.ext hd hd4 hR6 hp.no hu6⟩
  intro u w7 hb7 hall hox
  obtain ⟨R9, A9, n9, c9, B9, m9, d9, hp9, hb9, hB9, hk9, hl9, hu9⟩ := okx_fin hox (by decide) (by decide) (by decide) (by decide) (by decide)
  change u 9 = _ at hp9
  change u 8 = _ at hb9
  clear hall
  simp only [List.drop_succ_cons, List.drop_zero, List.take_succ_cons, List.take_zero, putAll, Act.put, List.setIfInBounds_toArray, List.set_cons_zero, List.set_cons_succ, Nat.zero_add, Nat.reduceAdd, hp9, hb9]
  rw [lvA_path] at hl9
  obtain rfl : n9 = 1 := hl9.1.symm
  obtain ⟨g, o, b, Bq, m, d, r, rfl, hg, hx, hr, hc0, hc1⟩ := SGat hl9 (k := 0) (by omega)
  simp only [List.getElem?_cons_zero, Option.some.injEq, SG.mk.injEq] at hx
  obtain ⟨rfl, rfl⟩ := hx
  obtain rfl : m = 1 := hr.1.symm
  obtain ⟨g2, o2, y, hB, hg2, hy, hy2, hc2⟩ := hr.at_ (k := 0) (by omega)
  subst hB
  simp only [List.getElem?_cons_zero, Option.some.injEq] at hy
  subst hy
  simp only [Nat.zero_mul, Nat.add_zero] at hc1 hc2
  have p2 : w7.cell? ⟨R9, 2, none⟩ = some (.slice (some ⟨g, o, none⟩) 1 c9) := hk9.cell 2
  have p3 : w7.cell? ⟨R9, 3, none⟩ = some (.int .u32 7) := by rw [← lvA_hop]; exact hk9.cell 3
  have HB7 := hide (HB1.out.trans (hb7.mono HB1.out.size))
  have HKc7 := hide (HKc.out.below hb7 HKc.out.lt)
  obtain ⟨c0, c1, c2, c3, c4, c5, c6, c7, c8, c9', c10, c11⟩ := blk12 HKc7.out
  simp only [lvX] at c0 c1 c2 c3 c4 c5 c6 c7 c8 c9' c10 c11
  have HIn := hide (exInnerX_any lvX lvY2 w7)
  clear hox hk9 hl9 hu9 hp9 hb9 hB9 hb7 hc0 hr hg hg2 hy2
  go_wp2_with fail
  refine HIn.out.mono ?_
  rintro e w8 ⟨rfl, hb⟩
  have HB8 := hide (HB7.out.trans (hb.mono HB7.out.size))
  clear hb
  go_wp2
  go_ret
  exact ⟨by simp [lvX, lvY2], HB8.out⟩
end Go.Proofs.YtplhnhoijficgaaGreat
set_option linter.unusedSimpArgs false
set_option linter.unusedVariables false
namespace Go.Proofs.YtplhnhoijficgaaGreat
open Go.RowKit Go.WideShapes Go.ChangeShapes
attribute [local go_sem] Oper.semAt_some
set_option maxRecDepth 100000 in
set_option maxHeartbeats 8000000 in
theorem refAttrSame_eq (X : AT) (v v' : Value) (w : World) (hv : AtR w X v) (hv' : AtR w X v') (hn : X.path.length ≤ 100000) : Calls Tryz.prog 12 #[v, v'] w (GoodP true w) := by
  obtain ⟨A, n, c, B, m, d, rfl, hP, hC⟩ := hv
  obtain ⟨A2, n2, c2, B2, m2, d2, rfl, hP2, hC2⟩ := hv'
  obtain ⟨w1, hw1⟩ : ∃ w1, (w.alloc (.cells (atC X.has X.org A n c X.hop X.med X.pref X.aas X.aid B m d) 40)).alloc (.cells (atC X.has X.org A2 n2 c2 X.hop X.med X.pref X.aas X.aid B2 m2 d2) 40) = w1 := ⟨_, rfl⟩
  have hb1 : Below w.heap.size w w1 := hw1 ▸ blkBelow2 w _ _
  have HK1 : Hid (Blk w1 w.heap.size 40 (atC X.has X.org A n c X.hop X.med X.pref X.aas X.aid B m d)) := hide (hw1 ▸ (Blk.new w _ _).alloc _)
  have HK2 : Hid (Blk w1 (w.heap.size + 1) 40 (atC X.has X.org A2 n2 c2 X.hop X.med X.pref X.aas X.aid B2 m2 d2)) := hide (hw1 ▸ blk_new' _ _ (by simp))
  have HPs := hide (psame_eq A A2 n c n2 c2 X.path w1 (hP.below sgMono hb1) (hP2.below sgMono hb1) (by rw [← hP.1]; exact hn))
  have HU := hide (fun W (hb : Below w.heap.size w W) => hC.below hb)
  have HU2 := hide (fun W (hb : Below w.heap.size w W) => hC2.below hb)
  have HB1 := hide hb1
  have HW1 := hide hw1
  clear hw1 hb1 hP hP2 hC hC2 hn
  go_enter Tryz.func12, Tryz.ntmps12
  go_wp2_with fail
  rw [HW1.out]
  refine HPs.out.mono ?_
  rintro e w2 ⟨rfl, hb⟩
  have HB2 := hide (HB1.out.trans (hb.mono HB1.out.size))
  have HK1 := hide (HK1.out.below hb HK1.out.lt)
  have HK2 := hide (HK2.out.below hb HK2.out.lt)
  have HSa := hide (refSame_any B m d X.comms B2 m2 d2 X.comms w2 (HU.out w2 HB2.out) (HU2.out w2 HB2.out))
  clear hb
  obtain ⟨a0, a1, a2, a3, a4, a5, a6, a7, a8⟩ := blk9 HK1.out
  obtain ⟨b0, b1, b2, b3, b4, b5, b6, b7, b8⟩ := blk9 HK2.out
  go_wp2_with fail
  refine HSa.out.mono ?_
  rintro e w3 ⟨rfl, hb⟩
  have HB3 := hide (HB2.out.trans (hb.mono HB2.out.size))
  clear hb a0 a1 a2 a3 a4 a5 a6 a7 a8 b0 b1 b2 b3 b4 b5 b6 b7 b8
  go_wp2
  go_ret
  exact ⟨by simp, HB3.out⟩
end Go.Proofs.YtplhnhoijficgaaGreat
set_option linter.unusedSimpArgs false
set_option linter.unusedVariables false
namespace Go.Proofs.YtplhnhoijficgaaGreat
open Go.RowKit Go.WideShapes Go.ChangeShapes
attribute [local go_sem] Oper.semAt_some
def ocX (an id : Int) : CF := ⟨an, id, 0, 0, 0, (none, 0, 0), (none, 0, 0), (none, 0, 0), (none, 0, 0), (none, 0, 0), (none, 0, 0), (none, 0, 0)⟩
end Go.Proofs.YtplhnhoijficgaaGreat
set_option linter.unusedSimpArgs false
set_option linter.unusedVariables false
namespace Go.Proofs.YtplhnhoijficgaaGreat
open Go.RowKit Go.WideShapes Go.ChangeShapes
attribute [local go_sem] Oper.semAt_some
set_option maxRecDepth 100000 in
set_option maxHeartbeats 8000000 in
theorem exWireX_any (cas : Nat) (hcas : cas < 4294967296) (x : CF) (hx : x.asn = (cas : Int)) (y : PE) (r : RT) (X : AT) (v : Value) (w : World) (hv : AtR w X v) (hn : numS X.path ≤ 8000) (hm : X.comms.length ≤ 10000) :
    Calls Tryz.prog 13 #[.agg (cfC x), .agg (peC y), .agg (rtV r), v] w (AtP (wireA cas x.id y.asn r.loc r.at_.has r.at_.med X) w) := by
  obtain ⟨A, n, c, B, m, d, rfl, hP, hC⟩ := hv
  obtain ⟨w0, hw0⟩ : ∃ w0, ((((w.alloc (.cells (cfC x) 35)).alloc (.cells (peC y) 48)).alloc (.cells (rtV r) 42)).alloc (.cells (atC X.has X.org A n c X.hop X.med X.pref X.aas X.aid B m d) 40)).alloc (.cells zeroC 40) = w0 := ⟨_, rfl⟩
  have HS : Hid (WS w x y r (atC X.has X.org A n c X.hop X.med X.pref X.aas X.aid B m d) w0) := hide (hw0 ▸ WS.start w x y r _)
  obtain ⟨XN, hXN⟩ : ∃ XN, wireA cas x.id y.asn r.loc r.at_.has r.at_.med X = XN := ⟨_, rfl⟩
  have HN := hide (exWire_any cas hcas x hx y r X (atV X.has X.org A n c X.hop X.med X.pref X.aas X.aid B m d) w0 ⟨A, n, c, B, m, d, rfl, hP.below sgMono HS.out.bel, hC.below HS.out.bel⟩ hn hm)
  rw [hXN] at HN ⊢
  have HW0 := hide hw0
  clear hw0 hP hC hn hm hXN hx
  go_enter Tryz.func13, Tryz.ntmps13
  go_wp2_with fail
  rw [HW0.out]
  refine HN.out.mono ?_
  rintro e w1 ⟨v, rfl, ho, hb⟩
  obtain ⟨A1, n1, c1, xs1, B1, m1, d1, rfl, hl, hu⟩ := ho
  have hlt : w.heap.size + 1 + 1 + 1 + 1 < w0.heap.size := HS.out.kz.lt
  have HK1 := hide (HS.out.kz.below hb hlt)
  have HB1 := hide (HS.out.bel.trans (hb.mono HS.out.bel.size))
  have HO := hide (show AtO w0.heap.size w1 XN (atV XN.has XN.org A1 n1 c1 XN.hop XN.med XN.pref XN.aas XN.aid B1 m1 d1) from ⟨A1, n1, c1, xs1, B1, m1, d1, rfl, hl, hu⟩)
  obtain ⟨z0, z1, z2, z3, z4, z5, z6, z7, z8⟩ := blk9 HK1.out
  have zf := fun i => HK1.out.frozen i
  clear hl hu hb
  go_wp2
  change bodyPost _ _ _ _ _ (w1.setCells (w.heap.size + 1 + 1 + 1 + 1) 0 [.int .i64 XN.has, .int .i64 XN.org, .slice A1 n1 c1, .int .u32 XN.hop, .int .u32 XN.med, .int .u32 XN.pref, .int .u32 XN.aas, .int .u32 XN.aid, .slice B1 m1 d1])
  obtain ⟨wF, hwF⟩ : ∃ x, w1.setCells (w.heap.size + 1 + 1 + 1 + 1) 0 [.int .i64 XN.has, .int .i64 XN.org, .slice A1 n1 c1, .int .u32 XN.hop, .int .u32 XN.med, .int .u32 XN.pref, .int .u32 XN.aas, .int .u32 XN.aid, .slice B1 m1 d1] = x := ⟨_, rfl⟩
  have HFk := hide (hwF ▸ blk9_set HK1.out : Blk wF (w.heap.size + 1 + 1 + 1 + 1) 40 (atC XN.has XN.org A1 n1 c1 XN.hop XN.med XN.pref XN.aas XN.aid B1 m1 d1))
  have HFo := hide (hwF ▸ AtO.sets _ 0 HO.out hlt : AtO w0.heap.size wF XN (atV XN.has XN.org A1 n1 c1 XN.hop XN.med XN.pref XN.aas XN.aid B1 m1 d1))
  have HFb := hide (hwF ▸ below_sets _ 0 HB1.out (by omega) : Below w.heap.size w wF)
  rw [hwF]
  clear hwF z0 z1 z2 z3 z4 z5 z6 z7 z8 zf
  obtain ⟨z0, z1, z2, z3, z4, z5, z6, z7, z8⟩ := blk9 HFk.out
  exact bodyPost_ret (v := atV XN.has XN.org A1 n1 c1 XN.hop XN.med XN.pref XN.aas XN.aid B1 m1 d1) (by simp [results, Tryz.results13, go_sem, z0, z1, z2, z3, z4, z5, z6, z7, z8]) rfl ⟨_, rfl, HFo.out.less (b' := w.heap.size) (by omega), HFb.out⟩
theorem refWire_len (cas : Nat) (cid pas : Int) (loc : Bool) (rh rmd : Int) (x : AT) (h : numS x.path ≤ 8000) : (refWireA cas cid pas loc rh rmd x).path.length ≤ 100000 := by
  have h1 : numS (normA x).path ≤ 8000 := by
    show numS (if attB x.has 2 then normS x.path else []) ≤ 8000
    split
    · have := numS_norm x.path; omega
    · simp [numS]
  unfold refWireA
  dsimp only
  split
  · show (normA x).path.length ≤ 100000
    show (if attB x.has 2 then normS x.path else []).length ≤ 100000
    split
    · have := normS_len x.path; omega
    · simp
  · show (normS (chunkS (List.replicate (timesN 1) cas) ++ (normA x).path)).length ≤ 100000
    have h2 := normS_len (chunkS (List.replicate (timesN 1) cas) ++ (normA x).path)
    have h3 := timesN_le 1
    rw [numS_app, numS_few _ (by rw [List.length_replicate]; exact h3), List.length_replicate] at h2
    omega
theorem cutA_cut (x : AT) : cutA (cutA x) = cutA x := by
  unfold cutA
  simp only [cutP_cut, List.take_take, Nat.min_self]
abbrev whC (an id : Int) (y : PE) : Array Value := #[.int .u32 an, .int .u32 id, .int .u32 y.ad, .int .u32 y.asn, .int .i64 y.mx, .bool y.pas, .string y.im, .string y.ex, .string y.un, .bool y.df, .string y.dm, .string y.av, .string y.cn, .bool y.non]
abbrev rtL (r : RT) : List Value := [.int .u32 r.pa, .int .i64 r.pl, .int .i64 r.at_.has, .int .i64 r.at_.org, .slice r.A r.n r.c, .int .u32 r.at_.hop, .int .u32 r.at_.med, .int .u32 r.at_.pref, .int .u32 r.at_.aas, .int .u32 r.at_.aid, .slice r.B r.m r.d, .int .u32 r.rp, .int .u32 r.ra, .int .u32 r.ri, .bool r.inn, .bool r.loc]
abbrev atL (h o : Int) (A : Option Addr) (n c : Nat) (hp md pf aa ai : Int) (B : Option Addr) (m d : Nat) : List Value := [.int .i64 h, .int .i64 o, .slice A n c, .int .u32 hp, .int .u32 md, .int .u32 pf, .int .u32 aa, .int .u32 ai, .slice B m d]
set_option maxHeartbeats 4000000 in
theorem storeR2 {w : World} {R : Nat} {r r' : RT} (hk : Blk w R 42 (rtV r')) :
    (Instr.storeAt 42 (.pointer (some ⟨R, 0, none⟩)) (.agg (rtV r))).run Tryz.prog w = .ok () (w.setCells R 0 (rtL r)) := by
  obtain ⟨z0, z1, z2, z3, z4, z5, z6, z7, z8, z9, z10, z11, z12, z13, z14, z15⟩ := blk16 hk
  have zf := fun i => hk.frozen i
  simp [go_sem, z0, z1, z2, z3, z4, z5, z6, z7, z8, z9, z10, z11, z12, z13, z14, z15, zf, World.setCells]
set_option maxHeartbeats 4000000 in
theorem storeA2 {w : World} {R : Nat} {u0 u1 u2 u3 u4 u5 u6 u7 u8 : Value} {h o : Int} {A : Option Addr} {n c : Nat} {hp md pf aa ai : Int} {B : Option Addr} {m d : Nat} (hk : Blk w R 40 #[u0, u1, u2, u3, u4, u5, u6, u7, u8]) :
    (Instr.storeAt 40 (.pointer (some ⟨R, 0, none⟩)) (atV h o A n c hp md pf aa ai B m d)).run Tryz.prog w = .ok () (w.setCells R 0 (atL h o A n c hp md pf aa ai B m d)) := by
  obtain ⟨z0, z1, z2, z3, z4, z5, z6, z7, z8⟩ := blk9 hk
  have zf := fun i => hk.frozen i
  simp [go_sem, z0, z1, z2, z3, z4, z5, z6, z7, z8, zf, World.setCells]
/-- The law's boxes: who, the route, the attributes, the configuration. -/
structure Bx (H : Nat) (an id : Int) (y : PE) (W : World) : Prop where
  kw : Blk W H 50 (whC an id y)
  kr : ∃ r, Blk W (H + 1) 42 (rtV r)
  ka : ∃ h o A n c hp md pf aa ai B m d, Blk W (H + 1 + 1) 40 (atC h o A n c hp md pf aa ai B m d)
  kc : Blk W (H + 1 + 1 + 1) 35 (cfC (ocX an id))
def OwR (b : Nat) (r : RT) (v : Value) (W : World) : Prop := ∃ A n c B m d, v = .agg (rtV (cutRT r A n c B m d)) ∧ PU b W A n c B m d (cutA r.at_).path (cutA r.at_).comms
def OwA (b : Nat) (Y : AT) (v : Value) (W : World) : Prop := ∃ A n c B m d, v = atV Y.has Y.org A n c Y.hop Y.med Y.pref Y.aas Y.aid B m d ∧ PU b W A n c B m d Y.path Y.comms
def StR (H b : Nat) (an id : Int) (y : PE) (r : RT) (W : World) : Prop := Bx H an id y W ∧ ∃ A n c B m d, Blk W (H + 1) 42 (rtV (cutRT r A n c B m d)) ∧ PU b W A n c B m d (cutA r.at_).path (cutA r.at_).comms
def StT (H b : Nat) (an id : Int) (y : PE) (Y : AT) (W : World) : Prop := Bx H an id y W ∧ ∃ A n c B m d, Blk W (H + 1 + 1) 40 (atC Y.has Y.org A n c Y.hop Y.med Y.pref Y.aas Y.aid B m d) ∧ PU b W A n c B m d Y.path Y.comms
section
variable {H b : Nat} {an id : Int} {y : PE} {r r2 : RT} {Y : AT} {v : Value} {W W' : World} {h o hp md pf aa ai : Int} {A B : Option Addr} {n c m d : Nat}
theorem Bx.below (k : Bx H an id y W) (hb : Below W.heap.size W W') : Bx H an id y W' := by
  obtain ⟨k1, ⟨r, k2⟩, ⟨h, o, A, n, c, hp, md, pf, aa, ai, B, m, d, k3⟩, k4⟩ := k
  exact ⟨k1.below hb k1.lt, ⟨r, k2.below hb k2.lt⟩, ⟨h, o, A, n, c, hp, md, pf, aa, ai, B, m, d, k3.below hb k3.lt⟩, k4.below hb k4.lt⟩
theorem Bx.setR (k : Bx H an id y W) : Bx H an id y (W.setCells (H + 1) 0 (rtL r2)) := by
  obtain ⟨k1, ⟨r, k2⟩, ⟨h, o, A, n, c, hp, md, pf, aa, ai, B, m, d, k3⟩, k4⟩ := k
  exact ⟨blk_sets_far (by omega) _ 0 k1, ⟨r2, blk16_set k2⟩, ⟨h, o, A, n, c, hp, md, pf, aa, ai, B, m, d, blk_sets_far (by omega) _ 0 k3⟩, blk_sets_far (by omega) _ 0 k4⟩
theorem Bx.setA (k : Bx H an id y W) : Bx H an id y (W.setCells (H + 1 + 1) 0 (atL h o A n c hp md pf aa ai B m d)) := by
  obtain ⟨k1, ⟨r, k2⟩, ⟨_, _, _, _, _, _, _, _, _, _, _, _, _, k3⟩, k4⟩ := k
  exact ⟨blk_sets_far (by omega) _ 0 k1, ⟨r, blk_sets_far (by omega) _ 0 k2⟩, ⟨h, o, A, n, c, hp, md, pf, aa, ai, B, m, d, blk9_set k3⟩, blk_sets_far (by omega) _ 0 k4⟩
theorem OwR.below (k : OwR b r v W) (hb : Below W.heap.size W W') : OwR b r v W' := by
  obtain ⟨A, n, c, B, m, d, e, k⟩ := k
  exact ⟨A, n, c, B, m, d, e, k.below hb⟩
theorem OwA.below (k : OwA b Y v W) (hb : Below W.heap.size W W') : OwA b Y v W' := by
  obtain ⟨A, n, c, B, m, d, e, k⟩ := k
  exact ⟨A, n, c, B, m, d, e, k.below hb⟩
theorem OwR.sets {G : Nat} (vs : List Value) (k : OwR b r v W) (hG : G < b) : OwR b r v (W.setCells G 0 vs) := by
  obtain ⟨A, n, c, B, m, d, e, k⟩ := k
  exact ⟨A, n, c, B, m, d, e, k.sets vs 0 hG⟩
theorem OwA.sets {G : Nat} (vs : List Value) (k : OwA b Y v W) (hG : G < b) : OwA b Y v (W.setCells G 0 vs) := by
  obtain ⟨A, n, c, B, m, d, e, k⟩ := k
  exact ⟨A, n, c, B, m, d, e, k.sets vs 0 hG⟩
theorem StR.below (k : StR H b an id y r W) (hb : Below W.heap.size W W') : StR H b an id y r W' := by
  obtain ⟨kb, A, n, c, B, m, d, e, k⟩ := k
  exact ⟨kb.below hb, A, n, c, B, m, d, e.below hb e.lt, k.below hb⟩
theorem StT.below (k : StT H b an id y Y W) (hb : Below W.heap.size W W') : StT H b an id y Y W' := by
  obtain ⟨kb, A, n, c, B, m, d, e, k⟩ := k
  exact ⟨kb.below hb, A, n, c, B, m, d, e.below hb e.lt, k.below hb⟩
theorem StR.setA (k : StR H b an id y r W) (hG : H + 1 + 1 < b) : StR H b an id y r (W.setCells (H + 1 + 1) 0 (atL h o A n c hp md pf aa ai B m d)) := by
  obtain ⟨kb, A, n, c, B, m, d, e, k⟩ := k
  exact ⟨kb.setA, A, n, c, B, m, d, blk_sets_far (by omega) _ 0 e, k.sets _ 0 hG⟩
theorem StT.setR (k : StT H b an id y Y W) (hG : H + 1 < b) : StT H b an id y Y (W.setCells (H + 1) 0 (rtL r2)) := by
  obtain ⟨kb, A, n, c, B, m, d, e, k⟩ := k
  exact ⟨kb.setR, A, n, c, B, m, d, blk_sets_far (by omega) _ 0 e, k.sets _ 0 hG⟩
end
end Go.Proofs.YtplhnhoijficgaaGreat
set_option linter.unusedSimpArgs false
set_option linter.unusedVariables false
namespace Go.Proofs.YtplhnhoijficgaaGreat
open Go.RowKit Go.WideShapes Go.ChangeShapes
attribute [local go_sem] Oper.semAt_some
set_option maxRecDepth 100000 in
set_option maxHeartbeats 16000000 in
theorem exportWires_any (cas : Nat) (hcas : cas < 4294967296) (id : Int) (y : PE) (r : RT) (X : AT) (v : Value) (w : World) (hr : RtR w r) (hv : AtR w X v) :
    Calls Tryz.prog 4 #[.agg (whC (cas : Int) id y), .agg (rtV r), v] w (GoodP true w) := by
  obtain ⟨A, n, c, B, m, d, rfl, hP, hC⟩ := hv
  obtain ⟨w1, hw1⟩ : ∃ w1, ((((w.alloc (.cells (whC (cas : Int) id y) 50)).alloc (.cells (rtV r) 42)).alloc (.cells (atC X.has X.org A n c X.hop X.med X.pref X.aas X.aid B m d) 40)).alloc (.cells (cfC (ocX (cas : Int) id)) 35)) = w1 := ⟨_, rfl⟩
  have hb1 : Below w.heap.size w w1 := hw1 ▸ ((((Below.refl _ w).alloc (Nat.le_refl _) _).alloc (by simp) _).alloc (by simp; omega) _).alloc (by simp; omega) _
  have HKw : Hid (Blk w1 w.heap.size 50 (whC (cas : Int) id y)) := hide (hw1 ▸ (((Blk.new w _ _).alloc _).alloc _).alloc _)
  have HKr : Hid (Blk w1 (w.heap.size + 1) 42 (rtV r)) := hide (hw1 ▸ ((blk_new' _ _ (by simp)).alloc _).alloc _)
  have HKa : Hid (Blk w1 (w.heap.size + 1 + 1) 40 (atC X.has X.org A n c X.hop X.med X.pref X.aas X.aid B m d)) := hide (hw1 ▸ (blk_new' _ _ (by simp)).alloc _)
  have HKc : Hid (Blk w1 (w.heap.size + 1 + 1 + 1) 35 (cfC (ocX (cas : Int) id))) := hide (hw1 ▸ blk_new' _ _ (by simp))
  have HL1 : Hid (w.heap.size + 1 < w1.heap.size) := hide HKr.out.lt
  have HL2 : Hid (w.heap.size + 1 + 1 < w1.heap.size) := hide HKa.out.lt
  have HA := hide (show AtR w X (atV X.has X.org A n c X.hop X.med X.pref X.aas X.aid B m d) from ⟨A, n, c, B, m, d, rfl, hP, hC⟩)
  have HR := hide hr
  have Hcas := hide hcas
  have HB1 := hide hb1
  have HW1 := hide hw1
  obtain ⟨Y, hY⟩ : ∃ Y, cutA X = Y := ⟨_, rfl⟩
  have HYc : Hid (cutA Y = Y) := hide (hY ▸ cutA_cut X)
  have HYn : Hid (numS Y.path ≤ 8000) := hide (by rw [← hY]; have := cutP_num X.path; show numS (cutP X.path) ≤ 8000; omega)
  have HYl : Hid (Y.path.length ≤ 100000) := hide (by rw [← hY]; have := cutP_len X.path; show (cutP X.path).length ≤ 100000; omega)
  have HYm : Hid (Y.comms.length ≤ 10000) := hide (by rw [← hY]; show (X.comms.take 260).length ≤ 10000; rw [List.length_take]; omega)
  have HY := hide hY
  clear hw1 hb1 hr hP hC hcas hY
  go_enter Tryz.func4, Tryz.ntmps4
  go_upto_region 2 with fail
  change Code.wp _ _ _ _ ((((w.alloc (.cells (whC (cas : Int) id y) 50)).alloc (.cells (rtV r) 42)).alloc (.cells (atC X.has X.org A n c X.hop X.med X.pref X.aas X.aid B m d) 40)).alloc (.cells (cfC (ocX (cas : Int) id)) 35))
  rw [HW1.out]
  refine wp_region_relH 6 w.heap.size HB1.out.size [(fun v _ => v = .agg (rtV r)), (OwR w1.heap.size r), (fun v _ => v = atV X.has X.org A n c X.hop X.med X.pref X.aas X.aid B m d), (OwA w1.heap.size Y), (fun _ W => StR w.heap.size w1.heap.size (cas : Int) id y r W ), (fun _ W => StT w.heap.size w1.heap.size (cas : Int) id y Y W )] (fun i W => Bx w.heap.size (cas : Int) id y W ∧ (i = 0 → Blk W (w.heap.size + 1) 42 (rtV r)) ∧ (i = 2 → Blk W (w.heap.size + 1 + 1) 40 (atC X.has X.org A n c X.hop X.med X.pref X.aas X.aid B m d))) (fun i wa wb => if i = 4 then ∃ r9, wb = wa.setCells (w.heap.size + 1) 0 (rtL r9) else if i = 5 then ∃ h9 o9 A9 n9 c9 hp9 md9 pf9 aa9 ai9 B9 m9 d9, wb = wa.setCells (w.heap.size + 1 + 1) 0 (atL h9 o9 A9 n9 c9 hp9 md9 pf9 aa9 ai9 B9 m9 d9) else Below wa.heap.size wa wb) (by kernel_rfl) (by kernel_rfl) (by kernel_rfl) (by kernel_rfl) (by kernel_rfl) ?hE ?hR ?hP ?h0 ⟨?_, ?_, ?_, ?_, ?_, ?_, trivial⟩ ?_
  case hE =>
    intro i2 wa wb hB he
    split at he
    · obtain ⟨u, rfl⟩ := he
      exact below_sets _ 0 (Below.refl w.heap.size wa) (by omega)
    · split at he
      · obtain ⟨_, _, _, _, _, _, _, _, _, _, _, _, _, rfl⟩ := he
        exact below_sets _ 0 (Below.refl w.heap.size wa) (by omega)
      · exact he.mono hB
  case hR =>
    intro i2 j2 v2 wa wb hij hB he h
    split at he
    · rename_i hj2
      subst hj2
      refine keepAll_at (E := fun wa wb => ∃ r9, wb = wa.setCells (w.heap.size + 1) 0 (rtL r9)) (x := 4) (k := 0) ?_ (by omega) he h
      exact ⟨fun _ v wa wb he h => h, fun _ v wa wb he h => by obtain ⟨u, rfl⟩ := he; exact OwR.sets _ h HL1.out, fun _ v wa wb he h => h, fun _ v wa wb he h => by obtain ⟨u, rfl⟩ := he; exact OwA.sets _ h HL1.out, fun hn => absurd rfl hn, fun _ v wa wb he h => by obtain ⟨u, rfl⟩ := he; exact StT.setR h HL1.out, trivial⟩
    · split at he
      · rename_i hj2
        subst hj2
        refine keepAll_at (E := fun wa wb => ∃ h9 o9 A9 n9 c9 hp9 md9 pf9 aa9 ai9 B9 m9 d9, wb = wa.setCells (w.heap.size + 1 + 1) 0 (atL h9 o9 A9 n9 c9 hp9 md9 pf9 aa9 ai9 B9 m9 d9)) (x := 5) (k := 0) ?_ (by omega) he h
        exact ⟨fun _ v wa wb he h => h, fun _ v wa wb he h => by obtain ⟨_, _, _, _, _, _, _, _, _, _, _, _, _, rfl⟩ := he; exact OwR.sets _ h HL2.out, fun _ v wa wb he h => h, fun _ v wa wb he h => by obtain ⟨_, _, _, _, _, _, _, _, _, _, _, _, _, rfl⟩ := he; exact OwA.sets _ h HL2.out, fun _ v wa wb he h => by obtain ⟨_, _, _, _, _, _, _, _, _, _, _, _, _, rfl⟩ := he; exact StR.setA h HL2.out, fun hn => absurd rfl hn, trivial⟩
      · refine relMono _ ?_ i2 v2 wa wb he h
        exact ⟨fun _ _ _ _ h => h, fun v w2 w3 hb h => OwR.below h hb, fun _ _ _ _ h => h, fun v w2 w3 hb h => OwA.below h hb, fun v w1 w2 hb h => StR.below h hb, fun v w1 w2 hb h => StT.below h hb, trivial⟩
  case hP =>
    intro i2 j2 wa wb hij hnb hB he h
    split at he
    · rename_i hj2
      subst hj2
      obtain ⟨u, rfl⟩ := he
      refine ⟨h.1.setR, fun e => ?_, fun e => blk_sets_far (by omega) _ 0 (h.2.2 e)⟩
      subst e
      exact absurd hnb (by decide +kernel)
    · split at he
      · rename_i hj2
        subst hj2
        obtain ⟨_, _, _, _, _, _, _, _, _, _, _, _, _, rfl⟩ := he
        refine ⟨h.1.setA, fun e => blk_sets_far (by omega) _ 0 (h.2.1 e), fun e => ?_⟩
        subst e
        exact absurd hnb (by decide +kernel)
      · exact ⟨h.1.below he, fun e => (h.2.1 e).below he (h.2.1 e).lt, fun e => (h.2.2 e).below he (h.2.2 e).lt⟩
  case h0 =>
    intro j2 hj2
    exact ⟨⟨HKw.out.drew, ⟨r, HKr.out.drew⟩, ⟨_, _, _, _, _, _, _, _, _, _, _, _, _, HKa.out.drew⟩, HKc.out.drew⟩, fun _ => HKr.out.drew, fun _ => HKa.out.drew⟩
  · refine relG_plain rfl rfl (fun _ _ h => h) ?_
    intro Ac w5 hp
    have hb := hp.bel
    have a4 : Ac.eval (.tmp 4) = .pointer (some ⟨w.heap.size + 1, 0, none⟩) := hp.out 4 (by rfl)
    obtain ⟨k0, k1, k2, k3, k4, k5, k6, k7, k8, k9, k10, k11, k12, k13, k14, k15⟩ := blk16 (hp.pre.2.1 rfl)
    have hc := evalC Ac; have hf := evalF Ac; have hgl := evalG Ac
    obtain ⟨ρ, hρ⟩ : ∃ ρ, Ac.eval = ρ := ⟨_, rfl⟩
    rw [hρ] at a4 hc hf hgl
    exact relPure hρ (.agg (rtV r)) (by simp [go_sem, hc, hf, hgl, ↓IntWalk.iteOmega, a4, *]) rfl
  · refine relG_plain rfl rfl (fun _ _ h => h) ?_
    intro Ac w5 hp
    have hb := hp.bel
    have a13 : Ac.eval (.tmp 13) = .agg (rtV r) := hp.dep 0 (by kernel_rfl)
    have hc := evalC Ac; have hf := evalF Ac; have hgl := evalG Ac
    obtain ⟨ρ, hρ⟩ : ∃ ρ, Ac.eval = ρ := ⟨_, rfl⟩
    rw [hρ] at a13 hc hf hgl
    refine relCall hρ 10 #[.agg (rtV r)] (by simp [go_sem, hc, hf, hgl, ↓IntWalk.iteOmega, a13, *]) ?_
    refine (lawOne_any r w5 (HR.out.below (HB1.out.trans hp.bel))).mono ?_
    rintro e w6 ⟨A6, n6, c6, B6, m6, d6, rfl, hp6, hb6⟩
    exact ⟨_, rfl, ⟨A6, n6, c6, B6, m6, d6, rfl, hp6.less hp.bel.size⟩, hb6⟩
  · refine relG_plain rfl rfl (fun _ _ h => h) ?_
    intro Ac w5 hp
    have hb := hp.bel
    have a5 : Ac.eval (.tmp 5) = .pointer (some ⟨w.heap.size + 1 + 1, 0, none⟩) := hp.out 5 (by rfl)
    obtain ⟨k0, k1, k2, k3, k4, k5, k6, k7, k8⟩ := blk9 (hp.pre.2.2 rfl)
    have hc := evalC Ac; have hf := evalF Ac; have hgl := evalG Ac
    obtain ⟨ρ, hρ⟩ : ∃ ρ, Ac.eval = ρ := ⟨_, rfl⟩
    rw [hρ] at a5 hc hf hgl
    exact relPure hρ (atV X.has X.org A n c X.hop X.med X.pref X.aas X.aid B m d) (by simp [go_sem, hc, hf, hgl, ↓IntWalk.iteOmega, a5, *]) rfl
  · refine relG_plain rfl rfl (fun _ _ h => h) ?_
    intro Ac w5 hp
    have hb := hp.bel
    have a15 : Ac.eval (.tmp 15) = atV X.has X.org A n c X.hop X.med X.pref X.aas X.aid B m d := hp.dep 2 (by kernel_rfl)
    have hc := evalC Ac; have hf := evalF Ac; have hgl := evalG Ac
    obtain ⟨ρ, hρ⟩ : ∃ ρ, Ac.eval = ρ := ⟨_, rfl⟩
    rw [hρ] at a15 hc hf hgl
    refine relCall hρ 11 #[atV X.has X.org A n c X.hop X.med X.pref X.aas X.aid B m d] (by simp [go_sem, hc, hf, hgl, ↓IntWalk.iteOmega, a15, *]) ?_
    refine (attrsFew_any X (atV X.has X.org A n c X.hop X.med X.pref X.aas X.aid B m d) w5 (HA.out.below (HB1.out.trans hp.bel))).mono ?_
    rintro e w6 ⟨v6, rfl, ho6, hb6⟩
    rw [HY.out] at ho6
    obtain ⟨A6, n6, c6, xs6, B6, m6, d6, rfl, hl6, hu6⟩ := ho6
    exact ⟨_, rfl, ⟨A6, n6, c6, B6, m6, d6, rfl, (show PU w5.heap.size w6 A6 n6 c6 B6 m6 d6 Y.path Y.comms from ⟨⟨xs6, hl6⟩, hu6⟩).less hp.bel.size⟩, hb6⟩
  · refine relG_store rfl ?_
    intro Ac w5 hp
    have hb := hp.bel
    have a4 : Ac.eval (.tmp 4) = .pointer (some ⟨w.heap.size + 1, 0, none⟩) := hp.out 4 (by rfl)
    obtain ⟨A5, n5, c5, B5, m5, d5, a14, ho5⟩ := hp.dep 1 (by kernel_rfl)
    change Ac.eval (.tmp 14) = _ at a14
    obtain ⟨r6, hk6⟩ := hp.pre.1.kr
    have hx := hp.pre.1
    exact ⟨w5.setCells (w.heap.size + 1) 0 (rtL (cutRT r A5 n5 c5 B5 m5 d5)), .inl (exec_store rfl a4 a14 (storeR2 hk6)), ⟨hx.setR, A5, n5, c5, B5, m5, d5, blk16_set hk6, ho5.sets _ 0 HL1.out⟩, ⟨_, rfl⟩⟩
  · refine relG_store rfl ?_
    intro Ac w5 hp
    have hb := hp.bel
    have a5 : Ac.eval (.tmp 5) = .pointer (some ⟨w.heap.size + 1 + 1, 0, none⟩) := hp.out 5 (by rfl)
    obtain ⟨A6, n6, c6, B6, m6, d6, a16, ho6⟩ := hp.dep 3 (by kernel_rfl)
    change Ac.eval (.tmp 16) = _ at a16
    obtain ⟨_, _, _, _, _, _, _, _, _, _, _, _, _, hk6⟩ := hp.pre.1.ka
    have hx := hp.pre.1
    exact ⟨w5.setCells (w.heap.size + 1 + 1) 0 (atL Y.has Y.org A6 n6 c6 Y.hop Y.med Y.pref Y.aas Y.aid B6 m6 d6), .inl (exec_store rfl a5 a16 (storeA2 hk6)), ⟨hx.setA, A6, n6, c6, B6, m6, d6, blk9_set hk6, ho6.sets _ 0 HL2.out⟩, ⟨_, _, _, _, _, _, _, _, _, _, _, _, _, rfl⟩⟩
  intro u w7 hb7 hall
  have efin : StR w.heap.size w1.heap.size (cas : Int) id y r w7  := relAll_at hall (i := 4) (by decide +kernel)
  have efin1 : StT w.heap.size w1.heap.size (cas : Int) id y Y w7  := relAll_at hall (i := 5) (by decide +kernel)
  clear hall
  simp only [List.drop_succ_cons, List.drop_zero, List.take_succ_cons, List.take_zero, putAll, Act.put, List.setIfInBounds_toArray, List.set_cons_zero, List.set_cons_succ, Nat.zero_add, Nat.reduceAdd, ]
  obtain ⟨bx, A5, n5, c5, B5, m5, d5, hkr, hpr⟩ := efin
  obtain ⟨_, A6, n6, c6, B6, m6, d6, hka, hpa⟩ := efin1
  obtain ⟨r2, hr2⟩ : ∃ z, cutRT r A5 n5 c5 B5 m5 d5 = z := ⟨_, rfl⟩
  have HR2 : Hid (RtR w7 r2) := hide (hr2 ▸ (show RtR w7 (cutRT r A5 n5 c5 B5 m5 d5) from ⟨hpr.lst, hpr.u32⟩))
  have HA2 : Hid (AtR w7 Y (atV Y.has Y.org A6 n6 c6 Y.hop Y.med Y.pref Y.aas Y.aid B6 m6 d6)) := hide ⟨A6, n6, c6, B6, m6, d6, rfl, hpa.lst, hpa.u32⟩
  have HKw2 := hide bx.kw
  have HKc2 := hide bx.kc
  have HKr2 : Hid (Blk w7 (w.heap.size + 1) 42 (rtV r2)) := hide (hr2 ▸ hkr)
  have HKa2 := hide hka
  have HB7 := hide (HB1.out.trans hb7)
  obtain ⟨Z, hZ⟩ : ∃ Z, refWireA cas id y.asn r2.loc r2.at_.has r2.at_.med Y = Z := ⟨_, rfl⟩
  have HZl : Hid (Z.path.length ≤ 100000) := hide (hZ ▸ refWire_len cas id y.asn r2.loc r2.at_.has r2.at_.med Y HYn.out)
  have HZ := hide hZ
  clear bx hkr hpr hka hpa hb7 hr2 hZ HKw HKr HKa HKc HR HA HW1 HY
  go_upto_region 3 with fail
  have Hmn := hide (show AllMono [(fun v _ => v = .agg (cfC (ocX (cas : Int) id))), (fun v _ => v = .pointer (some ⟨w.heap.size, 2, none⟩)), (fun v _ => v = .agg (peC y)), (fun v _ => v = .agg (rtV r2)), (fun v _ => ∃ A n c B m d, v = .agg (rtV (cutRT r2 A n c B m d))), (fun v _ => v = atV Y.has Y.org A6 n6 c6 Y.hop Y.med Y.pref Y.aas Y.aid B6 m6 d6), (fun v W => AtR W Y v), (fun v W => AtR W Z v), (fun v _ => v = .agg (cfC (ocX (cas : Int) id))), (fun v _ => v = .pointer (some ⟨w.heap.size, 2, none⟩)), (fun v _ => v = .agg (peC y)), (fun v _ => v = .agg (rtV r2)), (fun v _ => v = atV Y.has Y.org A6 n6 c6 Y.hop Y.med Y.pref Y.aas Y.aid B6 m6 d6), (fun v W => AtR W Z v), (fun v _ => v = .bool true), (fun v _ => v = .bool true), (fun v _ => v = .bool true), (fun v _ => v = .bool true)] from ⟨fun _ _ _ _ h => h, fun _ _ _ _ h => h, fun _ _ _ _ h => h, fun _ _ _ _ h => h, fun _ _ _ _ h => h, fun _ _ _ _ h => h, fun v w2 w3 hb h => AtR.below h hb, fun v w2 w3 hb h => AtR.below h hb, fun _ _ _ _ h => h, fun _ _ _ _ h => h, fun _ _ _ _ h => h, fun _ _ _ _ h => h, fun _ _ _ _ h => h, fun v w2 w3 hb h => AtR.below h hb, fun _ _ _ _ h => h, fun _ _ _ _ h => h, fun _ _ _ _ h => h, fun _ _ _ _ h => h, trivial⟩)
  refine wp_region_relT 18 _ (by kernel_rfl) (by kernel_rfl) (by kernel_rfl) (by kernel_rfl) (by kernel_rfl) (relMono _ Hmn.out) ⟨?_, ?_, ?_, ?_, ?_, ?_, ?_, ?_, ?_, ?_, ?_, ?_, ?_, ?_, ?_, ?_, ?_, ?_, trivial⟩ ?_
  · refine relStep_plain rfl ?_
    intro Ac w5 hp
    have hb := hp.bel
    have a7 : Ac.eval (.tmp 7) = .pointer (some ⟨w.heap.size + 1 + 1 + 1, 0, none⟩) := hp.out 7 (by rfl)
    obtain ⟨x0, x1, x2, x3, x4, x5, x6, x7, x8, x9, x10, x11⟩ := blk12 (HKc2.out.below hb HKc2.out.lt)
    simp only [ocX] at x0 x1 x2 x3 x4 x5 x6 x7 x8 x9 x10 x11
    have hc := evalC Ac; have hf := evalF Ac; have hgl := evalG Ac
    obtain ⟨ρ, hρ⟩ : ∃ ρ, Ac.eval = ρ := ⟨_, rfl⟩
    rw [hρ] at a7 hc hf hgl
    exact relPure hρ (.agg (cfC (ocX (cas : Int) id))) (by simp [go_sem, hc, hf, hgl, ↓IntWalk.iteOmega, a7, ocX, *]) rfl
  · refine relStep_plain rfl ?_
    intro Ac w5 hp
    have hb := hp.bel
    have a3 : Ac.eval (.tmp 3) = .pointer (some ⟨w.heap.size, 0, none⟩) := hp.out 3 (by rfl)
    have hc := evalC Ac; have hf := evalF Ac; have hgl := evalG Ac
    obtain ⟨ρ, hρ⟩ : ∃ ρ, Ac.eval = ρ := ⟨_, rfl⟩
    rw [hρ] at a3 hc hf hgl
    exact relPure hρ (.pointer (some ⟨w.heap.size, 2, none⟩)) (by simp [go_sem, hc, hf, hgl, ↓IntWalk.iteOmega, a3, ocX, *]) rfl
  · refine relStep_plain rfl ?_
    intro Ac w5 hp
    have hb := hp.bel
    have a18 : Ac.eval (.tmp 18) = .pointer (some ⟨w.heap.size, 2, none⟩) := hp.dep 1 (by kernel_rfl)
    obtain ⟨p0, p1, p2, p3, p4, p5, p6, p7, p8, p9, p10, p11, p12, p13⟩ := blk14 (HKw2.out.below hb HKw2.out.lt)
    have hc := evalC Ac; have hf := evalF Ac; have hgl := evalG Ac
    obtain ⟨ρ, hρ⟩ : ∃ ρ, Ac.eval = ρ := ⟨_, rfl⟩
    rw [hρ] at a18 hc hf hgl
    exact relPure hρ (.agg (peC y)) (by simp [go_sem, hc, hf, hgl, ↓IntWalk.iteOmega, a18, ocX, *]) rfl
  · refine relStep_plain rfl ?_
    intro Ac w5 hp
    have hb := hp.bel
    have a4 : Ac.eval (.tmp 4) = .pointer (some ⟨w.heap.size + 1, 0, none⟩) := hp.out 4 (by rfl)
    obtain ⟨k0, k1, k2, k3, k4, k5, k6, k7, k8, k9, k10, k11, k12, k13, k14, k15⟩ := blk16 (HKr2.out.below hb HKr2.out.lt)
    have hc := evalC Ac; have hf := evalF Ac; have hgl := evalG Ac
    obtain ⟨ρ, hρ⟩ : ∃ ρ, Ac.eval = ρ := ⟨_, rfl⟩
    rw [hρ] at a4 hc hf hgl
    exact relPure hρ (.agg (rtV r2)) (by simp [go_sem, hc, hf, hgl, ↓IntWalk.iteOmega, a4, ocX, *]) rfl
  · refine relStep_plain rfl ?_
    intro Ac w5 hp
    have hb := hp.bel
    have a20 : Ac.eval (.tmp 20) = .agg (rtV r2) := hp.dep 3 (by kernel_rfl)
    have hc := evalC Ac; have hf := evalF Ac; have hgl := evalG Ac
    obtain ⟨ρ, hρ⟩ : ∃ ρ, Ac.eval = ρ := ⟨_, rfl⟩
    rw [hρ] at a20 hc hf hgl
    refine relCall hρ 10 #[.agg (rtV r2)] (by simp [go_sem, hc, hf, hgl, ↓IntWalk.iteOmega, a20, ocX, *]) ?_
    refine (lawOne_any r2 w5 (HR2.out.below hp.bel)).mono ?_
    rintro e w6 ⟨A9, n9, c9, B9, m9, d9, rfl, hp6, hb6⟩
    exact ⟨_, rfl, ⟨A9, n9, c9, B9, m9, d9, rfl⟩, hb6⟩
  · refine relStep_plain rfl ?_
    intro Ac w5 hp
    have hb := hp.bel
    have a5 : Ac.eval (.tmp 5) = .pointer (some ⟨w.heap.size + 1 + 1, 0, none⟩) := hp.out 5 (by rfl)
    obtain ⟨k0, k1, k2, k3, k4, k5, k6, k7, k8⟩ := blk9 (HKa2.out.below hb HKa2.out.lt)
    have hc := evalC Ac; have hf := evalF Ac; have hgl := evalG Ac
    obtain ⟨ρ, hρ⟩ : ∃ ρ, Ac.eval = ρ := ⟨_, rfl⟩
    rw [hρ] at a5 hc hf hgl
    exact relPure hρ (atV Y.has Y.org A6 n6 c6 Y.hop Y.med Y.pref Y.aas Y.aid B6 m6 d6) (by simp [go_sem, hc, hf, hgl, ↓IntWalk.iteOmega, a5, ocX, *]) rfl
  · refine relStep_plain rfl ?_
    intro Ac w5 hp
    have hb := hp.bel
    have a22 : Ac.eval (.tmp 22) = atV Y.has Y.org A6 n6 c6 Y.hop Y.med Y.pref Y.aas Y.aid B6 m6 d6 := hp.dep 5 (by kernel_rfl)
    have hc := evalC Ac; have hf := evalF Ac; have hgl := evalG Ac
    obtain ⟨ρ, hρ⟩ : ∃ ρ, Ac.eval = ρ := ⟨_, rfl⟩
    rw [hρ] at a22 hc hf hgl
    refine relCall hρ 11 #[atV Y.has Y.org A6 n6 c6 Y.hop Y.med Y.pref Y.aas Y.aid B6 m6 d6] (by simp [go_sem, hc, hf, hgl, ↓IntWalk.iteOmega, a22, ocX, *]) ?_
    refine (attrsFew_any Y (atV Y.has Y.org A6 n6 c6 Y.hop Y.med Y.pref Y.aas Y.aid B6 m6 d6) w5 (HA2.out.below hp.bel)).mono ?_
    rintro e w6 ⟨v6, rfl, ho6, hb6⟩
    rw [HYc.out] at ho6
    exact ⟨_, rfl, ho6.rd, hb6⟩
  · refine relStep_plain rfl ?_
    intro Ac w5 hp
    have hb := hp.bel
    have a17 : Ac.eval (.tmp 17) = .agg (cfC (ocX (cas : Int) id)) := hp.dep 0 (by kernel_rfl)
    have a19 : Ac.eval (.tmp 19) = .agg (peC y) := hp.dep 2 (by kernel_rfl)
    obtain ⟨A1, n1, c1, B1, m1, d1, a21⟩ := hp.dep 4 (by kernel_rfl)
    change Ac.eval (.tmp 21) = _ at a21
    obtain ⟨A2, n2, c2, B2, m2, d2, a23, hl2, hu2⟩ := hp.dep 6 (by kernel_rfl)
    change Ac.eval (.tmp 23) = _ at a23
    have hc := evalC Ac; have hf := evalF Ac; have hgl := evalG Ac
    obtain ⟨ρ, hρ⟩ : ∃ ρ, Ac.eval = ρ := ⟨_, rfl⟩
    rw [hρ] at a17 a19 a21 a23 hc hf hgl
    refine relCall hρ 13 #[.agg (cfC (ocX (cas : Int) id)), .agg (peC y), .agg (rtV (cutRT r2 A1 n1 c1 B1 m1 d1)), atV Y.has Y.org A2 n2 c2 Y.hop Y.med Y.pref Y.aas Y.aid B2 m2 d2] (by simp [go_sem, hc, hf, hgl, ↓IntWalk.iteOmega, a17, a19, a21, a23, ocX, *]) ?_
    refine (exWireX_any cas Hcas.out (ocX (cas : Int) id) rfl y (cutRT r2 A1 n1 c1 B1 m1 d1) Y (atV Y.has Y.org A2 n2 c2 Y.hop Y.med Y.pref Y.aas Y.aid B2 m2 d2) w5 ⟨A2, n2, c2, B2, m2, d2, rfl, hl2, hu2⟩ HYn.out HYm.out).mono ?_
    rintro e w6 ⟨v6, rfl, ho6, hb6⟩
    have h7 := ho6.rd
    rw [wire_eq] at h7
    have h8 : AtR w6 (refWireA cas id y.asn r2.loc r2.at_.has r2.at_.med Y) v6 := h7
    rw [HZ.out] at h8
    exact ⟨_, rfl, h8, hb6⟩
  · refine relStep_plain rfl ?_
    intro Ac w5 hp
    have hb := hp.bel
    have a7 : Ac.eval (.tmp 7) = .pointer (some ⟨w.heap.size + 1 + 1 + 1, 0, none⟩) := hp.out 7 (by rfl)
    obtain ⟨x0, x1, x2, x3, x4, x5, x6, x7, x8, x9, x10, x11⟩ := blk12 (HKc2.out.below hb HKc2.out.lt)
    simp only [ocX] at x0 x1 x2 x3 x4 x5 x6 x7 x8 x9 x10 x11
    have hc := evalC Ac; have hf := evalF Ac; have hgl := evalG Ac
    obtain ⟨ρ, hρ⟩ : ∃ ρ, Ac.eval = ρ := ⟨_, rfl⟩
    rw [hρ] at a7 hc hf hgl
    exact relPure hρ (.agg (cfC (ocX (cas : Int) id))) (by simp [go_sem, hc, hf, hgl, ↓IntWalk.iteOmega, a7, ocX, *]) rfl
  · refine relStep_plain rfl ?_
    intro Ac w5 hp
    have hb := hp.bel
    have a3 : Ac.eval (.tmp 3) = .pointer (some ⟨w.heap.size, 0, none⟩) := hp.out 3 (by rfl)
    have hc := evalC Ac; have hf := evalF Ac; have hgl := evalG Ac
    obtain ⟨ρ, hρ⟩ : ∃ ρ, Ac.eval = ρ := ⟨_, rfl⟩
    rw [hρ] at a3 hc hf hgl
    exact relPure hρ (.pointer (some ⟨w.heap.size, 2, none⟩)) (by simp [go_sem, hc, hf, hgl, ↓IntWalk.iteOmega, a3, ocX, *]) rfl
  · refine relStep_plain rfl ?_
    intro Ac w5 hp
    have hb := hp.bel
    have a26 : Ac.eval (.tmp 26) = .pointer (some ⟨w.heap.size, 2, none⟩) := hp.dep 9 (by kernel_rfl)
    obtain ⟨p0, p1, p2, p3, p4, p5, p6, p7, p8, p9, p10, p11, p12, p13⟩ := blk14 (HKw2.out.below hb HKw2.out.lt)
    have hc := evalC Ac; have hf := evalF Ac; have hgl := evalG Ac
    obtain ⟨ρ, hρ⟩ : ∃ ρ, Ac.eval = ρ := ⟨_, rfl⟩
    rw [hρ] at a26 hc hf hgl
    exact relPure hρ (.agg (peC y)) (by simp [go_sem, hc, hf, hgl, ↓IntWalk.iteOmega, a26, ocX, *]) rfl
  · refine relStep_plain rfl ?_
    intro Ac w5 hp
    have hb := hp.bel
    have a4 : Ac.eval (.tmp 4) = .pointer (some ⟨w.heap.size + 1, 0, none⟩) := hp.out 4 (by rfl)
    obtain ⟨k0, k1, k2, k3, k4, k5, k6, k7, k8, k9, k10, k11, k12, k13, k14, k15⟩ := blk16 (HKr2.out.below hb HKr2.out.lt)
    have hc := evalC Ac; have hf := evalF Ac; have hgl := evalG Ac
    obtain ⟨ρ, hρ⟩ : ∃ ρ, Ac.eval = ρ := ⟨_, rfl⟩
    rw [hρ] at a4 hc hf hgl
    exact relPure hρ (.agg (rtV r2)) (by simp [go_sem, hc, hf, hgl, ↓IntWalk.iteOmega, a4, ocX, *]) rfl
  · refine relStep_plain rfl ?_
    intro Ac w5 hp
    have hb := hp.bel
    have a5 : Ac.eval (.tmp 5) = .pointer (some ⟨w.heap.size + 1 + 1, 0, none⟩) := hp.out 5 (by rfl)
    obtain ⟨k0, k1, k2, k3, k4, k5, k6, k7, k8⟩ := blk9 (HKa2.out.below hb HKa2.out.lt)
    have hc := evalC Ac; have hf := evalF Ac; have hgl := evalG Ac
    obtain ⟨ρ, hρ⟩ : ∃ ρ, Ac.eval = ρ := ⟨_, rfl⟩
    rw [hρ] at a5 hc hf hgl
    exact relPure hρ (atV Y.has Y.org A6 n6 c6 Y.hop Y.med Y.pref Y.aas Y.aid B6 m6 d6) (by simp [go_sem, hc, hf, hgl, ↓IntWalk.iteOmega, a5, ocX, *]) rfl
  · refine relStep_plain rfl ?_
    intro Ac w5 hp
    have hb := hp.bel
    have a25 : Ac.eval (.tmp 25) = .agg (cfC (ocX (cas : Int) id)) := hp.dep 8 (by kernel_rfl)
    have a27 : Ac.eval (.tmp 27) = .agg (peC y) := hp.dep 10 (by kernel_rfl)
    have a28 : Ac.eval (.tmp 28) = .agg (rtV r2) := hp.dep 11 (by kernel_rfl)
    have a29 : Ac.eval (.tmp 29) = atV Y.has Y.org A6 n6 c6 Y.hop Y.med Y.pref Y.aas Y.aid B6 m6 d6 := hp.dep 12 (by kernel_rfl)
    have hc := evalC Ac; have hf := evalF Ac; have hgl := evalG Ac
    obtain ⟨ρ, hρ⟩ : ∃ ρ, Ac.eval = ρ := ⟨_, rfl⟩
    rw [hρ] at a25 a27 a28 a29 hc hf hgl
    refine relCall hρ 14 #[.agg (cfC (ocX (cas : Int) id)), .agg (peC y), .agg (rtV r2), atV Y.has Y.org A6 n6 c6 Y.hop Y.med Y.pref Y.aas Y.aid B6 m6 d6] (by simp [go_sem, hc, hf, hgl, ↓IntWalk.iteOmega, a25, a27, a28, a29, ocX, *]) ?_
    refine (refWire_any cas Hcas.out (ocX (cas : Int) id) rfl y r2 Y (atV Y.has Y.org A6 n6 c6 Y.hop Y.med Y.pref Y.aas Y.aid B6 m6 d6) w5 (HA2.out.below hp.bel) HYn.out HYl.out HYm.out).mono ?_
    rintro e w6 ⟨v6, rfl, ho6, hb6⟩
    have h7 := ho6.rd
    have h8 : AtR w6 (refWireA cas id y.asn r2.loc r2.at_.has r2.at_.med Y) v6 := h7
    rw [HZ.out] at h8
    exact ⟨_, rfl, h8, hb6⟩
  · refine relStep_plain rfl ?_
    intro Ac w5 hp
    have hb := hp.bel
    obtain ⟨A3, n3, c3, B3, m3, d3, a24, hl3, hu3⟩ := hp.dep 7 (by kernel_rfl)
    change Ac.eval (.tmp 24) = _ at a24
    obtain ⟨A4, n4, c4, B4, m4, d4, a30, hl4, hu4⟩ := hp.dep 13 (by kernel_rfl)
    change Ac.eval (.tmp 30) = _ at a30
    have hc := evalC Ac; have hf := evalF Ac; have hgl := evalG Ac
    obtain ⟨ρ, hρ⟩ : ∃ ρ, Ac.eval = ρ := ⟨_, rfl⟩
    rw [hρ] at a24 a30 hc hf hgl
    refine relCall hρ 12 #[atV Z.has Z.org A3 n3 c3 Z.hop Z.med Z.pref Z.aas Z.aid B3 m3 d3, atV Z.has Z.org A4 n4 c4 Z.hop Z.med Z.pref Z.aas Z.aid B4 m4 d4] (by simp [go_sem, hc, hf, hgl, ↓IntWalk.iteOmega, a24, a30, ocX, *]) ?_
    refine (refAttrSame_eq Z (atV Z.has Z.org A3 n3 c3 Z.hop Z.med Z.pref Z.aas Z.aid B3 m3 d3) (atV Z.has Z.org A4 n4 c4 Z.hop Z.med Z.pref Z.aas Z.aid B4 m4 d4) w5 ⟨A3, n3, c3, B3, m3, d3, rfl, hl3, hu3⟩ ⟨A4, n4, c4, B4, m4, d4, rfl, hl4, hu4⟩ HZl.out).mono ?_
    rintro e w6 ⟨rfl, hb6⟩
    exact ⟨_, rfl, rfl, hb6⟩
  · refine relStep_plain rfl ?_
    intro Ac w5 hp
    have hb := hp.bel
    have a31 : Ac.eval (.tmp 31) = .bool true := hp.dep 14 (by kernel_rfl)
    have hc := evalC Ac; have hf := evalF Ac; have hgl := evalG Ac
    obtain ⟨ρ, hρ⟩ : ∃ ρ, Ac.eval = ρ := ⟨_, rfl⟩
    rw [hρ] at a31 hc hf hgl
    exact relPure hρ (.bool true) (by simp [go_sem, hc, hf, hgl, ↓IntWalk.iteOmega, a31, ocX, *]) rfl
  · refine relStep_guard (g := 15) (b := true) (x := true) rfl (by kernel_rfl) rfl (by kernel_rfl) rfl (fun _ _ h => h) ?_
    intro Ac w5 hp
    have hb := hp.bel
    have hc := evalC Ac; have hf := evalF Ac; have hgl := evalG Ac
    obtain ⟨ρ, hρ⟩ : ∃ ρ, Ac.eval = ρ := ⟨_, rfl⟩
    rw [hρ] at hc hf hgl
    refine relCall hρ 9 #[] (by simp [go_sem, hc, hf, hgl, ↓IntWalk.iteOmega, ocX, *]) ?_
    refine (lives34_any w5).mono ?_
    rintro e w6 ⟨rfl, hb6⟩
    exact ⟨_, rfl, rfl, hb6⟩
  · refine relStep_plain rfl ?_
    intro Ac w5 hp
    have hb := hp.bel
    have a32 : Ac.eval (.tmp 32) = .bool true := hp.dep 15 (by kernel_rfl)
    have a33 : Ac.eval (.tmp 33) = .bool true := hp.dep 16 (by kernel_rfl)
    have hc := evalC Ac; have hf := evalF Ac; have hgl := evalG Ac
    obtain ⟨ρ, hρ⟩ : ∃ ρ, Ac.eval = ρ := ⟨_, rfl⟩
    rw [hρ] at a32 a33 hc hf hgl
    exact relPure hρ (.bool true) (by simp [go_sem, hc, hf, hgl, ↓IntWalk.iteOmega, a32, a33, ocX, *]) rfl
  intro u w8 hb7 hall
  have e34 : u 17 = .bool true := relAll_at hall (i := 17) (by decide +kernel)
  clear hall
  simp only [List.drop_succ_cons, List.drop_zero, List.take_succ_cons, List.take_zero, putAll, Act.put, List.setIfInBounds_toArray, List.set_cons_zero, List.set_cons_succ, Nat.zero_add, Nat.reduceAdd, e34]
  have HB8 := hide (HB7.out.trans (hb7.mono HB7.out.size))
  clear hb7
  go_wp2
  go_ret
  exact ⟨rfl, HB8.out⟩
end Go.Proofs.YtplhnhoijficgaaGreat
set_option linter.unusedSimpArgs false
set_option linter.unusedVariables false
namespace Go.Proofs.YtplhnhoijficgaaGreat
open Go.RowKit Go.WideShapes Go.ChangeShapes
set_option maxRecDepth 100000 in
theorem u32s_opens {H : Type} {enc : TypeId × Value → H} {W : World} {f : Nat} {v : Value} {x : DataW H × List MemPlace} (h : DataW.trod enc Tryz.prog W 0 (fun _ => true) true f 38 [v] = some x) :
    ∃ A n c l, v = .slice A n c ∧ U32s W A n c l := by
  have h1' : ∃ A n c, v = .slice A n c := by
    rcases DataW.trod_slice Tryz.underlying38 h with ⟨e, _⟩ | ⟨a, len, cap, elems, rest, n, _, e, _⟩
    · exact ⟨none, 0, 0, by simpa using e⟩
    · exact ⟨some a, len, cap, by simpa using e⟩
  obtain ⟨A, m, c, rfl⟩ := h1'
  obtain ⟨l, hl⟩ := u32s_open (A := A) (n := m) (c := c) ⟨f, by simpa [Value.cells] using h⟩
  exact ⟨A, m, c, l, rfl, hl⟩
set_option maxRecDepth 100000 in
theorem segs_open {H : Type} {enc : TypeId × Value → H} {W : World} {A : Option Addr} {n c : Nat} {d : DataW H} {p : List MemPlace}
    (h : DataW.Trod enc Tryz.prog W 0 (fun _ => true) true 37 (.slice A n c) d p) : ∃ l : List SG, LstAt 2 sgR W A n c l := by
  obtain ⟨fuel, hf⟩ := h
  obtain ⟨A', n', c', l, e, hl⟩ := lst_open (R := sgR) (sz := 2) Tryz.underlying37 (by kernel_rfl) (by decide) (fun f cs x hx => by
    obtain ⟨z0, z1, n, _, hl, g0, g1⟩ := trod_struct2 Tryz.underlying59 hx
    have c2 : Tryz.prog.cellsOf 59 = 2 := by kernel_rfl
    have ci : Tryz.prog.cellsOf 3 = 1 := by kernel_rfl
    have cs1 : Tryz.prog.cellsOf 38 = 1 := by kernel_rfl
    rw [c2] at hl
    match cs, hl with
    | [v0, v1], _ =>
      simp only [ci, cs1, List.drop_zero, List.drop_succ_cons, List.take_succ_cons, List.take_zero] at g0 g1
      obtain ⟨k, e0, _⟩ := DataW.trod_int Tryz.underlying3 g0
      obtain ⟨A, m, c, l, rfl, hl⟩ := u32s_opens g1
      simp only [List.cons.injEq, and_true] at e0
      subst e0
      exact ⟨⟨k, l⟩, A, m, c, rfl, hl⟩) hf
  obtain ⟨rfl, rfl, rfl⟩ : A = A' ∧ n = n' ∧ c = c' := by simpa [Value.cells] using e
  exact ⟨l, hl⟩
end Go.Proofs.YtplhnhoijficgaaGreat
set_option linter.unusedSimpArgs false
set_option linter.unusedVariables false
namespace Go.Proofs.YtplhnhoijficgaaGreat
open Go.RowKit Go.WideShapes Go.ChangeShapes Go.ChangeAt
theorem segs_opens {H : Type} {enc : TypeId × Value → H} {W : World} {f : Nat} {v : Value} {x : DataW H × List MemPlace} (h : DataW.trod enc Tryz.prog W 0 (fun _ => true) true f 37 [v] = some x) :
    ∃ A n c l, v = .slice A n c ∧ LstAt 2 sgR W A n c l := by
  have h1' : ∃ A n c, v = .slice A n c := by
    rcases DataW.trod_slice Tryz.underlying37 h with ⟨e, _⟩ | ⟨a, len, cap, elems, rest, n, _, e, _⟩
    · exact ⟨none, 0, 0, by simpa using e⟩
    · exact ⟨some a, len, cap, by simpa using e⟩
  obtain ⟨A, m, c, rfl⟩ := h1'
  obtain ⟨l, hl⟩ := segs_open (A := A) (n := m) (c := c) ⟨f, by simpa [Value.cells] using h⟩
  exact ⟨A, m, c, l, rfl, hl⟩
set_option maxRecDepth 100000 in
set_option maxHeartbeats 4000000 in
theorem at_opens {H : Type} {enc : TypeId × Value → H} {W : World} {f : Nat} {cs : List Value} {x : DataW H × List MemPlace} (h : DataW.trod enc Tryz.prog W 0 (fun _ => true) true f 40 cs = some x) : ∃ (X : AT) (A : Option Addr) (n c : Nat) (B : Option Addr) (m d : Nat), cs = atL X.has X.org A n c X.hop X.med X.pref X.aas X.aid B m d ∧ LstAt 2 sgR W A n c X.path ∧ U32s W B m d X.comms := by
  obtain ⟨xs, f2, _, rfl, hl, hlen, hf⟩ := DataW.trod_struct Tryz.underlying40 h
  have c9 : Tryz.prog.cellsOf 40 = 9 := by kernel_rfl
  rw [c9] at hl
  match xs, hlen with
  | [y0, y1, y2, y3, y4, y5, y6, y7, y8], _ =>
  match cs, hl with
  | [v0, v1, v2, v3, v4, v5, v6, v7, v8], _ =>
    have h0 : DataW.trod enc Tryz.prog W 0 (fun _ => true) true f2 3 [v0] = some y0 := hf 0 _ rfl
    have h1 : DataW.trod enc Tryz.prog W 0 (fun _ => true) true f2 3 [v1] = some y1 := hf 1 _ rfl
    have h2 : DataW.trod enc Tryz.prog W 0 (fun _ => true) true f2 37 [v2] = some y2 := hf 2 _ rfl
    have h3 : DataW.trod enc Tryz.prog W 0 (fun _ => true) true f2 22 [v3] = some y3 := hf 3 _ rfl
    have h4 : DataW.trod enc Tryz.prog W 0 (fun _ => true) true f2 22 [v4] = some y4 := hf 4 _ rfl
    have h5 : DataW.trod enc Tryz.prog W 0 (fun _ => true) true f2 22 [v5] = some y5 := hf 5 _ rfl
    have h6 : DataW.trod enc Tryz.prog W 0 (fun _ => true) true f2 22 [v6] = some y6 := hf 6 _ rfl
    have h7 : DataW.trod enc Tryz.prog W 0 (fun _ => true) true f2 22 [v7] = some y7 := hf 7 _ rfl
    have h8 : DataW.trod enc Tryz.prog W 0 (fun _ => true) true f2 38 [v8] = some y8 := hf 8 _ rfl
    clear hf
    obtain ⟨q0, e0, _, j0⟩ := DataW.trod_int Tryz.underlying3 h0
    obtain ⟨q1, e1, _, j1⟩ := DataW.trod_int Tryz.underlying3 h1
    obtain ⟨A, n, c, pl, rfl, hP⟩ := segs_opens h2
    obtain ⟨q3, e3, _, j3⟩ := DataW.trod_int Tryz.underlying22 h3
    obtain ⟨q4, e4, _, j4⟩ := DataW.trod_int Tryz.underlying22 h4
    obtain ⟨q5, e5, _, j5⟩ := DataW.trod_int Tryz.underlying22 h5
    obtain ⟨q6, e6, _, j6⟩ := DataW.trod_int Tryz.underlying22 h6
    obtain ⟨q7, e7, _, j7⟩ := DataW.trod_int Tryz.underlying22 h7
    obtain ⟨B, m, d, cl, rfl, hC⟩ := u32s_opens h8
    simp only [List.cons.injEq, and_true] at e0 e1 e3 e4 e5 e6 e7
    subst e0 e1 e3 e4 e5 e6 e7
    exact ⟨⟨q0, q1, pl, q3, q4, q5, q6, q7, cl⟩, A, n, c, B, m, d, rfl, hP, hC⟩
set_option maxRecDepth 100000 in
set_option maxHeartbeats 4000000 in
theorem pe_opens {H : Type} {enc : TypeId × Value → H} {W : World} {f : Nat} {cs : List Value} {x : DataW H × List MemPlace} (h : DataW.trod enc Tryz.prog W 0 (fun _ => true) true f 48 cs = some x) : ∃ y : PE, cs = (peC y).toList := by
  obtain ⟨xs, f2, _, rfl, hl, hlen, hf⟩ := DataW.trod_struct Tryz.underlying48 h
  have c9 : Tryz.prog.cellsOf 48 = 12 := by kernel_rfl
  rw [c9] at hl
  match xs, hlen with
  | [y0, y1, y2, y3, y4, y5, y6, y7, y8, y9, y10, y11], _ =>
  match cs, hl with
  | [v0, v1, v2, v3, v4, v5, v6, v7, v8, v9, v10, v11], _ =>
    have h0 : DataW.trod enc Tryz.prog W 0 (fun _ => true) true f2 22 [v0] = some y0 := hf 0 _ rfl
    have h1 : DataW.trod enc Tryz.prog W 0 (fun _ => true) true f2 22 [v1] = some y1 := hf 1 _ rfl
    have h2 : DataW.trod enc Tryz.prog W 0 (fun _ => true) true f2 3 [v2] = some y2 := hf 2 _ rfl
    have h3 : DataW.trod enc Tryz.prog W 0 (fun _ => true) true f2 4 [v3] = some y3 := hf 3 _ rfl
    have h4 : DataW.trod enc Tryz.prog W 0 (fun _ => true) true f2 9 [v4] = some y4 := hf 4 _ rfl
    have h5 : DataW.trod enc Tryz.prog W 0 (fun _ => true) true f2 9 [v5] = some y5 := hf 5 _ rfl
    have h6 : DataW.trod enc Tryz.prog W 0 (fun _ => true) true f2 9 [v6] = some y6 := hf 6 _ rfl
    have h7 : DataW.trod enc Tryz.prog W 0 (fun _ => true) true f2 4 [v7] = some y7 := hf 7 _ rfl
    have h8 : DataW.trod enc Tryz.prog W 0 (fun _ => true) true f2 9 [v8] = some y8 := hf 8 _ rfl
    have h9 : DataW.trod enc Tryz.prog W 0 (fun _ => true) true f2 9 [v9] = some y9 := hf 9 _ rfl
    have h10 : DataW.trod enc Tryz.prog W 0 (fun _ => true) true f2 9 [v10] = some y10 := hf 10 _ rfl
    have h11 : DataW.trod enc Tryz.prog W 0 (fun _ => true) true f2 4 [v11] = some y11 := hf 11 _ rfl
    clear hf
    obtain ⟨q0, e0, _, j0⟩ := DataW.trod_int Tryz.underlying22 h0
    obtain ⟨q1, e1, _, j1⟩ := DataW.trod_int Tryz.underlying22 h1
    obtain ⟨q2, e2, _, j2⟩ := DataW.trod_int Tryz.underlying3 h2
    obtain ⟨q3, e3, _⟩ := DataW.trod_bool Tryz.underlying4 h3
    obtain ⟨q4, e4, _, _⟩ := DataW.trod_string Tryz.underlying9 h4
    obtain ⟨q5, e5, _, _⟩ := DataW.trod_string Tryz.underlying9 h5
    obtain ⟨q6, e6, _, _⟩ := DataW.trod_string Tryz.underlying9 h6
    obtain ⟨q7, e7, _⟩ := DataW.trod_bool Tryz.underlying4 h7
    obtain ⟨q8, e8, _, _⟩ := DataW.trod_string Tryz.underlying9 h8
    obtain ⟨q9, e9, _, _⟩ := DataW.trod_string Tryz.underlying9 h9
    obtain ⟨q10, e10, _, _⟩ := DataW.trod_string Tryz.underlying9 h10
    obtain ⟨q11, e11, _⟩ := DataW.trod_bool Tryz.underlying4 h11
    simp only [List.cons.injEq, and_true] at e0 e1 e2 e3 e4 e5 e6 e7 e8 e9 e10 e11
    subst e0 e1 e2 e3 e4 e5 e6 e7 e8 e9 e10 e11
    exact ⟨⟨q0, q1, q2, q3, q4, q5, q6, q7, q8, q9, q10, q11⟩, rfl⟩
set_option maxRecDepth 100000 in
set_option maxHeartbeats 4000000 in
theorem pf_opens {H : Type} {enc : TypeId × Value → H} {W : World} {f : Nat} {cs : List Value} {x : DataW H × List MemPlace} (h : DataW.trod enc Tryz.prog W 0 (fun _ => true) true f 24 cs = some x) : ∃ a b : Int, cs = [.int .u32 a, .int .i64 b] := by
  obtain ⟨xs, f2, _, rfl, hl, hlen, hf⟩ := DataW.trod_struct Tryz.underlying24 h
  have c9 : Tryz.prog.cellsOf 24 = 2 := by kernel_rfl
  rw [c9] at hl
  match xs, hlen with
  | [y0, y1], _ =>
  match cs, hl with
  | [v0, v1], _ =>
    have h0 : DataW.trod enc Tryz.prog W 0 (fun _ => true) true f2 22 [v0] = some y0 := hf 0 _ rfl
    have h1 : DataW.trod enc Tryz.prog W 0 (fun _ => true) true f2 3 [v1] = some y1 := hf 1 _ rfl
    clear hf
    obtain ⟨q0, e0, _, j0⟩ := DataW.trod_int Tryz.underlying22 h0
    obtain ⟨q1, e1, _, j1⟩ := DataW.trod_int Tryz.underlying3 h1
    simp only [List.cons.injEq, and_true] at e0 e1
    subst e0 e1
    exact ⟨q0, q1, rfl⟩
set_option maxRecDepth 100000 in
set_option maxHeartbeats 4000000 in
theorem rt_opens {H : Type} {enc : TypeId × Value → H} {W : World} {f : Nat} {cs : List Value} {x : DataW H × List MemPlace} (h : DataW.trod enc Tryz.prog W 0 (fun _ => true) true f 42 cs = some x) : ∃ r : RT, cs = rtL r ∧ RtR W r := by
  obtain ⟨xs, f2, _, rfl, hl, hlen, hf⟩ := DataW.trod_struct Tryz.underlying42 h
  have c9 : Tryz.prog.cellsOf 42 = 16 := by kernel_rfl
  have cP : Tryz.prog.cellsOf 24 = 2 := by kernel_rfl
  have cA : Tryz.prog.cellsOf 40 = 9 := by kernel_rfl
  rw [c9] at hl
  match xs, hlen with
  | [y0, y1, y2, y3, y4, y5, y6], _ =>
  match cs, hl with
  | [v0, v1, v2, v3, v4, v5, v6, v7, v8, v9, v10, v11, v12, v13, v14, v15], _ =>
    have h0 : DataW.trod enc Tryz.prog W 0 (fun _ => true) true f2 24 [v0, v1] = some y0 := hf 0 _ rfl
    have h1 : DataW.trod enc Tryz.prog W 0 (fun _ => true) true f2 40 [v2, v3, v4, v5, v6, v7, v8, v9, v10] = some y1 := hf 1 _ rfl
    have h2 : DataW.trod enc Tryz.prog W 0 (fun _ => true) true f2 22 [v11] = some y2 := hf 2 _ rfl
    have h3 : DataW.trod enc Tryz.prog W 0 (fun _ => true) true f2 22 [v12] = some y3 := hf 3 _ rfl
    have h4 : DataW.trod enc Tryz.prog W 0 (fun _ => true) true f2 22 [v13] = some y4 := hf 4 _ rfl
    have h5 : DataW.trod enc Tryz.prog W 0 (fun _ => true) true f2 4 [v14] = some y5 := hf 5 _ rfl
    have h6 : DataW.trod enc Tryz.prog W 0 (fun _ => true) true f2 4 [v15] = some y6 := hf 6 _ rfl
    clear hf
    obtain ⟨q2, e2, _, j2⟩ := DataW.trod_int Tryz.underlying22 h2
    obtain ⟨q3, e3, _, j3⟩ := DataW.trod_int Tryz.underlying22 h3
    obtain ⟨q4, e4, _, j4⟩ := DataW.trod_int Tryz.underlying22 h4
    obtain ⟨q5, e5, _⟩ := DataW.trod_bool Tryz.underlying4 h5
    obtain ⟨q6, e6, _⟩ := DataW.trod_bool Tryz.underlying4 h6
    simp only [List.cons.injEq, and_true] at e2 e3 e4 e5 e6
    subst e2 e3 e4 e5 e6
    obtain ⟨pa, pl, ep⟩ := pf_opens h0
    obtain ⟨X, A, n, c, B, m, d, ea, hP, hC⟩ := at_opens h1
    simp only [List.cons.injEq, and_true] at ep ea
    obtain ⟨rfl, rfl⟩ := ep
    obtain ⟨rfl, rfl, rfl, rfl, rfl, rfl, rfl, rfl, rfl⟩ := ea
    exact ⟨⟨pa, pl, X, A, n, c, B, m, d, q2, q3, q4, q5, q6⟩, rfl, hP, hC⟩
set_option maxRecDepth 100000 in
set_option maxHeartbeats 4000000 in
theorem who_opens {H : Type} {enc : TypeId × Value → H} {W : World} {f : Nat} {cs : List Value} {x : DataW H × List MemPlace} (h : DataW.trod enc Tryz.prog W 0 (fun _ => true) true f 50 cs = some x) : ∃ (a : Nat) (b : Int) (y : PE), cs = (whC (a : Int) b y).toList ∧ a < 4294967296 := by
  obtain ⟨xs, f2, _, rfl, hl, hlen, hf⟩ := DataW.trod_struct Tryz.underlying50 h
  have c9 : Tryz.prog.cellsOf 50 = 14 := by kernel_rfl
  have cE : Tryz.prog.cellsOf 48 = 12 := by kernel_rfl
  rw [c9] at hl
  match xs, hlen with
  | [y0, y1, y2], _ =>
  match cs, hl with
  | [v0, v1, v2, v3, v4, v5, v6, v7, v8, v9, v10, v11, v12, v13], _ =>
    have h0 : DataW.trod enc Tryz.prog W 0 (fun _ => true) true f2 22 [v0] = some y0 := hf 0 _ rfl
    have h1 : DataW.trod enc Tryz.prog W 0 (fun _ => true) true f2 22 [v1] = some y1 := hf 1 _ rfl
    have h2 : DataW.trod enc Tryz.prog W 0 (fun _ => true) true f2 48 [v2, v3, v4, v5, v6, v7, v8, v9, v10, v11, v12, v13] = some y2 := hf 2 _ rfl
    clear hf
    obtain ⟨q0, e0, _, j0⟩ := DataW.trod_int Tryz.underlying22 h0
    obtain ⟨q1, e1, _, j1⟩ := DataW.trod_int Tryz.underlying22 h1
    simp only [List.cons.injEq, and_true] at e0 e1
    subst e0 e1
    obtain ⟨y, ey⟩ := pe_opens h2
    simp only [List.cons.injEq, and_true] at ey
    obtain ⟨rfl, rfl, rfl, rfl, rfl, rfl, rfl, rfl, rfl, rfl, rfl, rfl⟩ := ey
    have b0 : 0 ≤ q0 ∧ q0 ≤ 4294967295 := by simpa [Lit.wf, IntKind.min, IntKind.max, IntKind.signed, IntKind.bits] using j0
    obtain ⟨a, rfl⟩ := Int.eq_ofNat_of_zero_le b0.1
    exact ⟨a, q1, y, rfl, by omega⟩
set_option maxRecDepth 100000 in
theorem at_open {H : Type} {enc : TypeId × Value → H} {W : World} {r0 : Reach} {b0 : Nat} {v : Value} {d0 : DataW H} {p0 : List MemPlace} (hv : Value.okWide Tryz.prog W r0 b0 40 v)
    (h : DataW.Trod enc Tryz.prog W 0 (fun _ => true) true 40 v d0 p0) : ∃ X, AtR W X v := by
  obtain ⟨cs, rfl, hsz⟩ := okWide_struct Tryz.underlying40 hv
  obtain ⟨fuel, hf⟩ := h
  obtain ⟨X, A, n, c, B, m, d, e, hP, hC⟩ := at_opens hf
  have e3 : cs = (atL X.has X.org A n c X.hop X.med X.pref X.aas X.aid B m d).toArray := by
    have e2 : cs.toList = _ := e
    rw [← e2]
  exact ⟨X, A, n, c, B, m, d, by rw [e3], hP, hC⟩
set_option maxRecDepth 100000 in
theorem rt_open {H : Type} {enc : TypeId × Value → H} {W : World} {r0 : Reach} {b0 : Nat} {v : Value} {d0 : DataW H} {p0 : List MemPlace} (hv : Value.okWide Tryz.prog W r0 b0 42 v)
    (h : DataW.Trod enc Tryz.prog W 0 (fun _ => true) true 42 v d0 p0) : ∃ r, v = .agg (rtV r) ∧ RtR W r := by
  obtain ⟨cs, rfl, hsz⟩ := okWide_struct Tryz.underlying42 hv
  obtain ⟨fuel, hf⟩ := h
  obtain ⟨r, e, hr⟩ := rt_opens hf
  have e3 : cs = (rtL r).toArray := by
    have e2 : cs.toList = _ := e
    rw [← e2]
  exact ⟨r, by rw [e3], hr⟩
set_option maxRecDepth 100000 in
theorem who_open {H : Type} {enc : TypeId × Value → H} {W : World} {r0 : Reach} {b0 : Nat} {v : Value} {d0 : DataW H} {p0 : List MemPlace} (hv : Value.okWide Tryz.prog W r0 b0 50 v)
    (h : DataW.Trod enc Tryz.prog W 0 (fun _ => true) true 50 v d0 p0) : ∃ (a : Nat) (b : Int) (y : PE), v = .agg (whC (a : Int) b y) ∧ a < 4294967296 := by
  obtain ⟨cs, rfl, hsz⟩ := okWide_struct Tryz.underlying50 hv
  obtain ⟨fuel, hf⟩ := h
  obtain ⟨a, b, y, e, hr⟩ := who_opens hf
  have e3 : cs = (whC (a : Int) b y) := by
    have e2 : cs.toList = _ := e
    exact Array.toList_inj.1 e2
  exact ⟨a, b, y, by rw [e3], hr⟩
end Go.Proofs.YtplhnhoijficgaaGreat
