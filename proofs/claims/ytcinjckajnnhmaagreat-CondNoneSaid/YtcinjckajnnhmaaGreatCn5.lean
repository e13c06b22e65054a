import Derived.Test.YtcinjckajnnhmaaGreatCn4
import Derived.WalkKit
import Derived.ProofKit
import Derived.OpenShut
import Derived.Below
import Derived.Laws.OwnMore
import Derived.Laws.Rows
import Derived.Laws.MakeOwn
import Derived.Deep.AppendLies
import Derived.Deep.Draws
import Derived.Deep.OwnRows
import Derived.Deep.QuietTactic
import Derived.Maps.AppendAt
import Derived.RegionTactic
import Derived.OwnWalk
import Derived.ChangeSame
import Derived.Outline
import Derived.BigQuiet
import Derived.WalkMore
import Derived.ScopeJumps
import Derived.WalkLawsBesides
import Derived.WalkSpells
import Derived.Laws.BitsLemmas
import Derived.Laws.BitsAllLaws
import Derived.WideKeyArgs
import Derived.Deep.DeepHandedRow
import Derived.Deep.DeepWitnessRowRef
import Derived.Lib.LaidTab
import Derived.Lib.AppendIntMem
import Derived.LaidMore
import Derived.MakeChecks
import Derived.Lib.Itoa
import Derived.Lib.ItoaMem
import Derived.Deep.Quiet
import Derived.Deep.Slices
import Derived.BigRegion
import Derived.Orders
import Derived.OrdersIn
import Derived.RangeFuncCalls
import Derived.Shelf.RegionOpen
import Derived.StillTailTactics
import Derived.Lib.PathFns
import Derived.Lib.IndexBytes
import Derived.RangeFuncWrites
import Derived.RangeFuncNested
import Derived.RangeFuncBound
import Derived.RangeFuncLeaves
import Derived.RangeFuncBox
import Derived.Shelf.Abstract
import Derived.OwnWalkIn
import Derived.TacticsInMore
import Derived.LoopNIn
import Derived.LoopIn
import Derived.Lib.SmallJoins
import Derived.Lib.ParseIntBCases
import Derived.Lib.IndexMore
import Derived.Shelf.Vars
import Derived.Lib.AtoiAllCases
import Derived.SliceStrings
import Derived.Deep.RegionLaw
import Derived.Sort.LotA
import Derived.BigRegionIn
import Derived.Deep.RegionHeld3
import Derived.RangeFuncOwn
import Derived.Sort.WalkA6
import Derived.Sort.WalkB3
import Derived.Sort.WalkC4
import Derived.Sort.WalkA14
import Derived.Sort.Walk11
import Derived.Sort.Walk7
import Derived.Sort.Walk13
import Derived.Sort.Row
import Derived.Lib.Walk
import Derived.Lib.Strings
import Derived.BigGuard
import Derived.BigCall
import Derived.CellFam
import Derived.Deep.LoopGhost
import Derived.Sort.LotC
import Derived.Deep.RegionWith
import Derived.RowKit
import Derived.Sort.LotD3
import Derived.Sort.LotD4
import Derived.Sort.Grow
import Derived.Sort.AtCall
import Derived.Sort.LotD5
import Derived.Laws.Bits64
import Derived.Laws.Bits64b
import Derived.Sort.EncStr
import Derived.Sort.LotD1
import Derived.Sort.LotB
import Derived.Deep.Cut
import Derived.Sort.Walk13a
import Derived.Sort.AssemblyPlain
import Derived.Shelf.Spec.SlicesInsertGrow
import Derived.Deep.MidRow
import Derived.Lib.RowBridge
import Derived.Laws.CopyOwn
import Derived.Lib.AppendZerosOnto
import Derived.Deep.DeepCutAuto
import Derived.Lib.Bytealg
import Derived.Shelf.Strings.SplitShaped
import Derived.Shelf.Strings.Prefix
import Derived.Shelf.Small.Strs
import Derived.Lib.QuietBelow
import Derived.Shelf.SlSortCmp.WholeK
import Derived.Maps.Own
import Derived.Lib.SlTrimSet
import Derived.Shelf.Strings.BuilderK
import Derived.Laws.BytesString
import Derived.Laws.IdiomStrings
set_option linter.unusedSimpArgs false
set_option linter.unusedVariables false
namespace Go.Proofs.YtcinjckajnnhmaaGreat
open Go.RowKit Go.WideShapes Go.ChangeShapes Go.Maps
attribute [local go_sem] Oper.semAt_some
set_option maxRecDepth 100000 in
theorem waysNil (s : ByteArray) (w : World) : Calls Tryz.prog 74 #[.pointer none, .string s] w fun e w' => e = .returned (.pointer none) ∧ w' = w := by
  go_enter Tryz.func74, Tryz.ntmps74
  go_wp2
  go_ret
  exact ⟨rfl, rfl⟩
set_option maxRecDepth 100000 in
theorem holdsNil (s : ByteArray) (w : World) : Calls Tryz.prog 14 #[.pointer none, .string s] w fun e w' => e = .returned (.bool false) ∧ w' = w := by
  go_enter Tryz.func14, Tryz.ntmps14
  go_wp2_with fail
  refine (waysNil s w).mono ?_
  rintro e w1 ⟨rfl, rfl⟩
  go_wp2_with fail
  refine (blenNil _).mono ?_
  rintro e w2 ⟨rfl, rfl⟩
  go_wp2
  go_ret
  exact ⟨rfl, rfl⟩
set_option maxRecDepth 100000 in
theorem countNil (s : ByteArray) (w : World) : Calls Tryz.prog 15 #[.pointer none, .string s] w fun e w' => e = .returned (.int .i64 0) ∧ w' = w := by
  go_enter Tryz.func15, Tryz.ntmps15
  go_wp2_with fail
  refine (waysNil s w).mono ?_
  rintro e w1 ⟨rfl, rfl⟩
  go_wp2_with fail
  refine (blenNil _).mono ?_
  rintro e w2 ⟨rfl, rfl⟩
  go_wp2
  go_ret
  exact ⟨rfl, rfl⟩
set_option maxRecDepth 100000 in
theorem wwaysNil (s : ByteArray) (w : World) : Calls Tryz.prog 16 #[.pointer none, .string s] w fun e w' => e = .returned (.slice none 0 0) ∧ Below w.heap.size w w' := by
  go_enter Tryz.func16, Tryz.ntmps16
  go_wp2_with fail
  refine (waysNil s w).mono ?_
  rintro e w1 ⟨rfl, rfl⟩
  go_wp2_with fail
  refine (ballNil _).mono ?_
  rintro e w2 ⟨rfl, hb⟩
  go_wp2
  go_ret
  exact ⟨rfl, hb⟩
set_option maxRecDepth 100000 in
theorem namesNil (w : World) : Calls Tryz.prog 17 #[.pointer none] w fun e w' => e = .returned (.slice none 0 0) ∧ w' = w := by
  go_enter Tryz.func17, Tryz.ntmps17
  go_wp2
  go_ret
  exact ⟨rfl, rfl⟩
set_option maxRecDepth 100000 in
theorem cloneS_nil (w : World) : Calls Tryz.prog 77 #[.slice none 0 0] w fun e w' => e = .returned (.slice none 0 0) ∧ w' = w := by
  have hnil := fun w => Lib.run_eql_slice_nil (P := Tryz.prog) w
  go_enter Tryz.func77, Tryz.ntmps77
  go_wp2
  go_ret
  exact ⟨rfl, rfl⟩
set_option maxRecDepth 100000 in
theorem ways_at (tb mb : Nat) (A : Option Addr) (k c : Nat) (w : World) (hk : Blk w tb 107 #[.slice none 0 0, .slice none 0 0, .slice none 0 0, .slice none 0 0, .slice A k c, .map (some mb)]) (s : ByteArray) (q : Value) (hq : (Instr.lookup 105 (.map (some mb)) (.string s) false).run Tryz.prog w = .ok q w) : Calls Tryz.prog 74 #[.pointer (some ⟨tb, 0, none⟩), .string s] w fun e w' => e = .returned q ∧ w' = w := by
  have t5 : w.cell? ⟨tb, 5, none⟩ = some (.map (some mb)) := hk.cell 5
  clear hk
  go_enter Tryz.func74, Tryz.ntmps74
  go_wp2
  go_ret
  exact ⟨rfl, rfl⟩
set_option maxRecDepth 100000 in
theorem names0 (tb mb : Nat) (w : World) (hk : Blk w tb 107 #[.slice none 0 0, .slice none 0 0, .slice none 0 0, .slice none 0 0, .slice none 0 0, .map (some mb)]) : Calls Tryz.prog 17 #[.pointer (some ⟨tb, 0, none⟩)] w fun e w' => e = .returned (.slice none 0 0) ∧ w' = w := by
  have t4 : w.cell? ⟨tb, 4, none⟩ = some (.slice none 0 0) := hk.cell 4
  clear hk
  go_enter Tryz.func17, Tryz.ntmps17
  go_wp2_with fail
  refine (cloneS_nil w).mono ?_
  rintro e w1 ⟨rfl, rfl⟩
  go_wp2
  go_ret
  exact ⟨rfl, rfl⟩
set_option maxRecDepth 100000 in
theorem holds_nil (tb mb : Nat) (A : Option Addr) (k c : Nat) (w : World) (hk : Blk w tb 107 #[.slice none 0 0, .slice none 0 0, .slice none 0 0, .slice none 0 0, .slice A k c, .map (some mb)]) (s : ByteArray) (hq : (Instr.lookup 105 (.map (some mb)) (.string s) false).run Tryz.prog w = .ok (.pointer none) w) : Calls Tryz.prog 14 #[.pointer (some ⟨tb, 0, none⟩), .string s] w fun e w' => e = .returned (.bool false) ∧ w' = w := by
  have H := hide (ways_at tb mb A k c w hk s _ hq)
  clear hk hq
  go_enter Tryz.func14, Tryz.ntmps14
  go_wp2_with fail
  refine H.out.mono ?_
  rintro e w1 ⟨rfl, rfl⟩
  go_wp2_with fail
  refine (blenNil _).mono ?_
  rintro e w2 ⟨rfl, rfl⟩
  go_wp2
  go_ret
  exact ⟨rfl, rfl⟩
set_option maxRecDepth 100000 in
theorem wcount_at (tb mb : Nat) (A : Option Addr) (k c : Nat) (w : World) (hk : Blk w tb 107 #[.slice none 0 0, .slice none 0 0, .slice none 0 0, .slice none 0 0, .slice A k c, .map (some mb)]) (s : ByteArray) (g : Nat) (t : Tr Nat) (hg : Blk w g 192 #[trPtr t]) (ht : TrW 1 249 (fun _ => False) RU w t) (hq : (Instr.lookup 105 (.map (some mb)) (.string s) false).run Tryz.prog w = .ok (.pointer (some ⟨g, 0, none⟩)) w) : Calls Tryz.prog 15 #[.pointer (some ⟨tb, 0, none⟩), .string s] w fun e w' => e = .returned (.int .i64 (trCnt t : Int)) ∧ w' = w := by
  have H := hide (ways_at tb mb A k c w hk s _ hq)
  have HL := hide (tlenB_any (F := fun _ => False) (R := RU) g t w hg ht)
  clear hk hq hg ht
  go_enter Tryz.func15, Tryz.ntmps15
  go_wp2_with fail
  refine H.out.mono ?_
  rintro e w1 ⟨rfl, hw1⟩
  have hw1' := hw1.symm
  subst hw1'
  clear hw1
  go_wp2_with fail
  refine HL.out.mono ?_
  rintro e w2 ⟨rfl, rfl⟩
  go_wp2
  go_ret
  exact ⟨rfl, rfl⟩
set_option maxRecDepth 100000 in
theorem holds_at (tb mb : Nat) (A : Option Addr) (k c : Nat) (w : World) (hk : Blk w tb 107 #[.slice none 0 0, .slice none 0 0, .slice none 0 0, .slice none 0 0, .slice A k c, .map (some mb)]) (s : ByteArray) (g : Nat) (t : Tr Nat) (hg : Blk w g 192 #[trPtr t]) (ht : TrW 1 249 (fun _ => False) RU w t) (q : Bool) (hqq : decide (0 < trCnt t) = q) (hq : (Instr.lookup 105 (.map (some mb)) (.string s) false).run Tryz.prog w = .ok (.pointer (some ⟨g, 0, none⟩)) w) : Calls Tryz.prog 14 #[.pointer (some ⟨tb, 0, none⟩), .string s] w fun e w' => e = .returned (.bool q) ∧ w' = w := by
  have H := hide (ways_at tb mb A k c w hk s _ hq)
  have HL := hide (tlenB_any (F := fun _ => False) (R := RU) g t w hg ht)
  have HQ := hide hqq
  clear hk hq hg ht hqq
  go_enter Tryz.func14, Tryz.ntmps14
  go_wp2_with fail
  refine H.out.mono ?_
  rintro e w1 ⟨rfl, hw1⟩
  have hw1' := hw1.symm
  subst hw1'
  clear hw1
  go_wp2_with fail
  refine HL.out.mono ?_
  rintro e w2 ⟨rfl, rfl⟩
  go_wp2
  go_ret
  exact ⟨by rw [← HQ.out]; rfl, rfl⟩
set_option maxRecDepth 100000 in
theorem turned0 (tb mb : Nat) (pa pl : Int) (f : Value) (w : World) (hk : Blk w tb 107 #[.slice none 0 0, .slice none 0 0, .slice none 0 0, .slice none 0 0, .slice none 0 0, .map (some mb)]) : Calls Tryz.prog 69 #[.pointer (some ⟨tb, 0, none⟩), .agg #[.int .u32 pa, .int .i64 pl], f] w fun e w' => e = .returned (.slice none 0 0) ∧ Below w.heap.size w w' := by
  obtain ⟨w1, hw1⟩ : ∃ w1, w.alloc (.cells #[.int .u32 pa, .int .i64 pl] 24) = w1 := ⟨_, rfl⟩
  have hb1 : Below w.heap.size w w1 := hw1 ▸ blkBelow1 w _
  have t4 : w1.cell? ⟨tb, 4, none⟩ = some (.slice none 0 0) := (hk.below hb1 hk.lt).cell 4
  have HB1 := hide hb1
  have HW1 := hide hw1
  clear hw1 hk hb1
  go_enter Tryz.func69, Tryz.ntmps69
  go_upto_region 1 with fail
  rw [HW1.out]
  go_wp2
  go_loopw [7, 15] (fun ov iv wr => ov = .slice none 0 0 ∧ iv = .int .i64 0 ∧ wr = w1) (fun _ _ _ => 0)
  case atStart => exact ⟨rfl, rfl, rfl⟩
  case round =>
  obtain ⟨rfl, rfl, hwr⟩ := hrel
  have hwr' := hwr.symm
  subst hwr'
  clear hwr
  go_wp2
  go_ret
  exact ⟨rfl, HB1.out⟩
set_option maxRecDepth 100000 in
theorem wcutNil (pa pl : Int) (w : World) : Calls Tryz.prog 13 #[.pointer none, .agg #[.int .u32 pa, .int .i64 pl]] w fun e w' => e = .returned (.slice none 0 0) ∧ Below w.heap.size w w' := by
  have HB := hide (blkBelow1 w (.cells #[.int .u32 pa, .int .i64 pl] 24))
  go_enter Tryz.func13, Tryz.ntmps13
  go_wp2
  go_ret
  exact ⟨rfl, HB.out⟩
set_option maxRecDepth 100000 in
theorem wputNil (r : RT) (w : World) : Calls Tryz.prog 11 #[.pointer none, .agg (rtV r)] w fun e w' => e = .returned (.slice none 0 0) ∧ Below w.heap.size w w' := by
  have HB := hide (blkBelow2 w (.cells #[.pointer none] 31) (.cells (rtV r) 30))
  go_enter Tryz.func11, Tryz.ntmps11
  go_wp2
  go_ret
  exact ⟨rfl, HB.out⟩
set_option maxRecDepth 100000 in
set_option maxHeartbeats 8000000 in
theorem wput0 (tb mb : Nat) (r : RT) (a : Nat) (w : World) (hk : Blk w tb 107 #[.slice none 0 0, .slice none 0 0, .slice none 0 0, .slice none 0 0, .slice none 0 0, .map (some mb)]) (hpa : r.pa = (a : Int)) (ha : a < 4294967296) (hl1 : -9223372036854775808 ≤ r.pl) (hl2 : r.pl ≤ 9223372036854775807) (hr : RtR w r) (hn : numS r.at_.path ≤ 10000) (hm : r.at_.comms.length ≤ 10000) :
    Calls Tryz.prog 11 #[.pointer (some ⟨tb, 0, none⟩), .agg (rtV r)] w fun e w' => e = .returned (.slice none 0 0) ∧ Below w.heap.size w w' := by
  obtain ⟨w1, hw1⟩ : ∃ w1, (w.alloc (.cells #[.pointer (some ⟨tb, 0, none⟩)] 31)).alloc (.cells (rtV r) 30) = w1 := ⟨_, rfl⟩
  have hb1 : Below w.heap.size w w1 := hw1 ▸ blkBelow2 w _ _
  have HT1 : Hid (Blk w1 w.heap.size 31 #[.pointer (some ⟨tb, 0, none⟩)]) := hide (hw1 ▸ (Blk.new w _ _).alloc _)
  have HR1 : Hid (Blk w1 (w.heap.size + 1) 30 (rtV r)) := hide (hw1 ▸ blk_new' _ _ (by simp))
  have HK1 := hide (hk.below hb1 hk.lt)
  have HGd := hide (Good_any a r.pl ha hl1 hl2)
  unfold pfx at HGd
  rw [← hpa] at HGd
  have HNm := hide (fun W (hb : Below w1.heap.size w1 W) => attrNormX_any r.at_ (atV r.at_.has r.at_.org r.A r.n r.c r.at_.hop r.at_.med r.at_.pref r.at_.aas r.at_.aid r.B r.m r.d) W ⟨r.A, r.n, r.c, r.B, r.m, r.d, rfl, (hr.1.below sgMono hb1).below sgMono hb, (hr.2.below hb1).below hb⟩ hn hm)
  have HB1 := hide hb1
  have HW1 := hide hw1
  clear hw1 hb1 hk hr hpa hn hm
  obtain ⟨q, hq⟩ : ∃ q, goodB a r.pl = q := ⟨_, rfl⟩
  rw [hq] at HGd
  clear hq
  have p0 : w1.cell? ⟨w.heap.size, 0, none⟩ = some (.pointer (some ⟨tb, 0, none⟩)) := HT1.out.cell 0
  obtain ⟨k0, k1, k2, k3, k4, k5, k6, k7, k8, k9, k10, k11, k12, k13, k14, k15⟩ := blk16 HR1.out
  go_enter Tryz.func11, Tryz.ntmps11
  go_wp2_with fail
  rw [HW1.out]
  refine (HGd.out _).mono ?_
  rintro e w2 ⟨rfl, hb2⟩
  have HB2 := hide (HB1.out.trans (hb2.mono HB1.out.size))
  have HT2 := hide (HT1.out.below hb2 HT1.out.lt)
  have HR2 := hide (HR1.out.below hb2 HR1.out.lt)
  have HK2 := hide (HK1.out.below hb2 HK1.out.lt)
  have HNm2 := hide (HNm.out w2 hb2)
  clear p0 k0 k1 k2 k3 k4 k5 k6 k7 k8 k9 k10 k11 k12 k13 k14 k15 hb2
  obtain ⟨k0, k1, k2, k3, k4, k5, k6, k7, k8, k9, k10, k11, k12, k13, k14, k15⟩ := blk16 HR2.out
  cases q with
  | false =>
    go_wp2
    go_ret
    exact ⟨rfl, HB2.out⟩
  | true =>
    go_wp2_with fail
    refine HNm2.out.mono ?_
    rintro e w3 ⟨v, rfl, ⟨A1, n1, c1, xs1, B1, m1, d1, rfl, _, _⟩, hb3⟩
    have HB3 := hide (HB2.out.trans (hb3.mono HB2.out.size))
    have HT3 := hide (HT2.out.below hb3 HT2.out.lt)
    have HR3 := hide (HR2.out.below hb3 HR2.out.lt)
    have HK3 := hide (HK2.out.below hb3 HK2.out.lt)
    clear k0 k1 k2 k3 k4 k5 k6 k7 k8 k9 k10 k11 k12 k13 k14 k15 hb3
    go_upto_region 4 with fail
    have HB4 : Hid (∀ o, Below w.heap.size w (w3.alloc o)) := hide (fun o => HB3.out.alloc HB3.out.size o)
    have HT4 : Hid (∀ o, Blk (w3.alloc o) w.heap.size 31 #[.pointer (some ⟨tb, 0, none⟩)]) := hide (fun o => HT3.out.alloc o)
    have HR4 : Hid (∀ o, Blk (w3.alloc o) (w.heap.size + 1) 30 (rtV r)) := hide (fun o => HR3.out.alloc o)
    have HK4 : Hid (∀ o, Blk (w3.alloc o) tb 107 #[.slice none 0 0, .slice none 0 0, .slice none 0 0, .slice none 0 0, .slice none 0 0, .map (some mb)]) := hide (fun o => HK3.out.alloc o)
    obtain ⟨w4, hw4⟩ : ∃ x, w3.alloc (.cells (atC (normA r.at_).has (normA r.at_).org A1 n1 c1 (normA r.at_).hop (normA r.at_).med (normA r.at_).pref (normA r.at_).aas (normA r.at_).aid B1 m1 d1) 28) = x := ⟨_, rfl⟩
    change Code.wp _ _ _ _ (w3.alloc (.cells (atC (normA r.at_).has (normA r.at_).org A1 n1 c1 (normA r.at_).hop (normA r.at_).med (normA r.at_).pref (normA r.at_).aas (normA r.at_).aid B1 m1 d1) 28))
    rw [hw4]
    have p0 : w4.cell? ⟨w.heap.size, 0, none⟩ = some (.pointer (some ⟨tb, 0, none⟩)) := hw4 ▸ (HT4.out _).cell 0
    obtain ⟨k0, k1, k2, k3, k4, k5, k6, k7, k8, k9, k10, k11, k12, k13, k14, k15⟩ := blk16 (hw4 ▸ HR4.out _ : Blk w4 (w.heap.size + 1) 30 (rtV r))
    have HK5 : Hid (Blk w4 tb 107 #[.slice none 0 0, .slice none 0 0, .slice none 0 0, .slice none 0 0, .slice none 0 0, .map (some mb)]) := hide (hw4 ▸ HK4.out _)
    have HB5 : Hid (Below w.heap.size w w4) := hide (hw4 ▸ HB4.out _)
    clear hw4
    go_wp2_with fail
    refine (turned0 tb mb _ _ _ w4 HK5.out).mono ?_
    rintro e w6 ⟨rfl, hb6⟩
    have HB6 := hide (HB5.out.trans (hb6.mono HB5.out.size))
    clear hb6 p0 k0 k1 k2 k3 k4 k5 k6 k7 k8 k9 k10 k11 k12 k13 k14 k15
    go_wp2
    go_ret
    exact ⟨rfl, HB6.out⟩
end Go.Proofs.YtcinjckajnnhmaaGreat
set_option linter.unusedSimpArgs false
set_option linter.unusedVariables false
namespace Go.Proofs.YtcinjckajnnhmaaGreat
open Go.RowKit Go.WideShapes Go.ChangeShapes Go.Maps
attribute [local go_sem] Oper.semAt_some
set_option maxRecDepth 100000 in
set_option maxHeartbeats 8000000 in
theorem bcut0 (g a n : Nat) (w : World) (ha : PG a n) (hg : Blk w g 192 #[.pointer none]) : Calls Tryz.prog 166 #[.pointer (some ⟨g, 0, none⟩), .agg #[.int .u32 (a : Int), .int .i64 (n : Int)]] w fun e w' => e = .returned (.tuple #[.bool false, .bool false]) ∧ Below w.heap.size w w' := by
  obtain ⟨w1, hw1⟩ : ∃ w1, w.alloc (.cells #[.int .u32 (a : Int), .int .i64 (n : Int)] 24) = w1 := ⟨_, rfl⟩
  have hb1 : Below w.heap.size w w1 := hw1 ▸ blkBelow1 w _
  have HX : Hid (Blk w1 w.heap.size 24 #[.int .u32 (a : Int), .int .i64 (n : Int)]) := hide (hw1 ▸ Blk.new w _ _)
  have x0 : w1.cell? ⟨w.heap.size, 0, none⟩ = some (.int .u32 (a : Int)) := HX.out.cell 0
  have x1 : w1.cell? ⟨w.heap.size, 1, none⟩ = some (.int .i64 (n : Int)) := HX.out.cell 1
  have HF := hide (findB_any (F := fun _ => False) (R := RU) g a n (.nil : Tr Nat) w1 ha (hg.below hb1 hg.lt) trivial trivial)
  have HB1 := hide hb1
  have HW1 := hide hw1
  clear hw1 hb1 hg ha
  go_enter Tryz.func166, Tryz.ntmps166
  go_wp2_with fail
  rw [HW1.out]
  refine HF.out.mono ?_
  rintro e w2 ⟨rfl, hb2⟩
  have e0 : trPtr (trFind a n (.nil : Tr Nat)) = .pointer none := rfl
  rw [e0]
  have HB2 := hide (HB1.out.trans (hb2.mono HB1.out.size))
  clear x0 x1 hb2 e0
  go_wp2
  exact bodyPost_ret (v := .tuple #[.bool false, .bool false]) (by simp [results, Tryz.results166, go_sem]) rfl ⟨rfl, HB2.out⟩
theorem mpw_chg {w w' : World} {b n g : Nat} {D : DataW Unit} (h : MpW w b n D) (hc : ChgS (fun k => k = g) w w') (hne : b ≠ g) : MpW w' b n D := by
  obtain ⟨es, cl, h1, h2⟩ := h
  exact ⟨es, cl, (hc.block b (World.ownsMap.lt ⟨es, cl, h1, h2⟩) hne).trans h1, h2⟩
/-- A watch whose first name's tree has one prefix. -/
structure WT2 (w : World) (B tb mb : Nat) (A : Option Addr) (c : Nat) (g h bb a n : Nat) : Prop where
  ft : Blk w tb 107 #[.slice none 0 0, .slice none 0 0, .slice none 0 0, .slice none 0 0, .slice A 2 c, .map (some mb)]
  own : w.ownsRow B 9 1 (.slice A 2 c) 2 [.string ⟨#[]⟩, .string ⟨#[120]⟩]
  mp : MpW w mb 2 (((DataW.map []).put kE (DP g)).put kX (DP h))
  tg : Blk w g 192 #[.pointer (some ⟨bb, 0, none⟩)]
  ta : TrA 1 249 (fun _ => False) RU w (.nd bb a n (some 0) .nil .nil)
  th : Blk w h 192 #[.pointer none]
theorem WT2.below {w w' : World} {B tb mb : Nat} {A : Option Addr} {c g h bb a n : Nat} (k : WT2 w B tb mb A c g h bb a n) (hb : Below w.heap.size w w') : WT2 w' B tb mb A c g h bb a n :=
  ⟨k.ft.below hb k.ft.lt, own_below k.own hb, mpw_below k.mp hb, k.tg.below hb k.tg.lt, tra_below k.ta hb, k.th.below hb k.th.lt⟩
theorem own_chgT {w w' : World} {base n size g : Nat} {e t : TypeId} {v : Value} {xs : List Value} {cs : Array Value} (h : w.ownsRow base e size v n xs) (hk : Blk w g t cs) (hne : t ≠ e) (hc : ChgS (fun k => k = g) w w') : w'.ownsRow base e size v n xs := by
  refine ⟨h.1, ?_⟩
  rcases h.2 with h2 | ⟨r, cap, cur, h1, h2, h3, h4⟩
  · exact .inl h2
  · exact .inr ⟨r, cap, cur, h1, h2, chg_blk (t := e) (cs := cur) hc h3 (fun hr => by subst hr; exact Blk.ne_ (t := e) (cs := cur) h3 hk (fun h => hne h.symm) rfl), h4⟩
set_option maxRecDepth 100000 in
set_option maxHeartbeats 8000000 in
theorem turnE (B tb mb : Nat) (A : Option Addr) (c g h a n : Nat) (w : World) (hw : WT w B tb mb A 2 c [.string ⟨#[]⟩, .string ⟨#[120]⟩] (((DataW.map []).put kE (DP g)).put kX (DP h)) [g, h]) (hgh : g < h) (hmg : mb ≠ g) (ha : PG a n) : Calls Tryz.prog 132 #[.pointer (some ⟨tb, 0, none⟩), .string ⟨#[]⟩, .agg #[.int .u32 (a : Int), .int .i64 (n : Int)], .bool true] w fun e w' => e = .returned (.bool true) ∧ ∃ bb, WT2 w' B tb mb A c g h bb a n ∧ ChgS (fun k => k = g) w w' := by
  obtain ⟨w1, hw1⟩ : ∃ w1, w.alloc (.cells #[.int .u32 (a : Int), .int .i64 (n : Int)] 24) = w1 := ⟨_, rfl⟩
  have hb1 : Below w.heap.size w w1 := hw1 ▸ blkBelow1 w _
  have HX : Hid (Blk w1 w.heap.size 24 #[.int .u32 (a : Int), .int .i64 (n : Int)]) := hide (hw1 ▸ Blk.new w _ _)
  have x0 : w1.cell? ⟨w.heap.size, 0, none⟩ = some (.int .u32 (a : Int)) := HX.out.cell 0
  have x1 : w1.cell? ⟨w.heap.size, 1, none⟩ = some (.int .i64 (n : Int)) := HX.out.cell 1
  have HK1 := hide (hw.below hb1)
  have t5 : w1.cell? ⟨tb, 5, none⟩ = some (.map (some mb)) := HK1.out.ft.cell 5
  have hget := mp_get2E HK1.out.mp
  have HL1 := hide (tlenB_any (F := fun _ => False) (R := RU) g (.nil : Tr Nat) w1 (HK1.out.tr g (by simp)) trivial)
  have HP1 := hide (puteB_any (F := fun _ => False) (R := RU) g a n 0 true w1 ha (HK1.out.tr g (by simp)) (fun _ h => h.elim) ru_frs (fun h => h))
  have HB1 := hide hb1
  have HW1 := hide hw1
  have Hgh := hide hgh
  have Hmg := hide hmg
  clear hw1 hb1 hw ha hgh hmg
  go_enter Tryz.func132, Tryz.ntmps132
  go_upto_region 1 with fail
  rw [HW1.out]
  go_wp2_with fail
  refine HL1.out.mono ?_
  rintro e w2 ⟨rfl, hq⟩
  have hq' := hq.symm
  subst hq'
  clear hq
  have e0 : ((trCnt (.nil : Tr Nat) : Nat) : Int) = 0 := rfl
  rw [e0]
  clear e0
  go_wp2_with fail
  refine HP1.out.mono ?_
  rintro e w3 ⟨rfl, bb, hbb, hg3, ht3, hc3⟩
  have hn : ∀ {g2 : Nat} {T : TypeId} {cs : Array Value}, Blk w1 g2 T cs → T ≠ 192 → ¬ (g2 = g) := by
    rintro g2 T cs hb h1 rfl
    exact hb.ne_ (HK1.out.tr g2 (by simp)) h1 rfl
  have HK3 : Hid (WT2 w3 B tb mb A c g h bb a n) := hide ⟨chg_blk hc3 HK1.out.ft (hn HK1.out.ft (by decide)), own_chgT HK1.out.own (HK1.out.tr g (by simp)) (by decide) hc3, mpw_chg HK1.out.mp hc3 Hmg.out, hg3, ht3, chg_blk hc3 (HK1.out.tr h (by simp)) (fun e => by have := Hgh.out; omega)⟩
  have HC3 : Hid (ChgS (fun k => k = g) w w3) := hide (chg_trans (chg_below (S := fun k => k = g) HB1.out) hc3 (fun k h => .inl h))
  have HL3 := hide (tlenB_any (F := fun _ => False) (R := RU) g (.nd bb a n (some 0) .nil .nil : Tr Nat) w3 HK3.out.tg HK3.out.ta.mem)
  clear hbb hg3 ht3 hc3 hn x0 x1 t5 hget
  go_wp2_with fail
  refine HL3.out.mono ?_
  rintro e w4 ⟨rfl, hq⟩
  have hq' := hq.symm
  subst hq'
  clear hq
  have e0 : ((trCnt (.nd bb a n (some 0) .nil .nil : Tr Nat) : Nat) : Int) = 1 := rfl
  rw [e0]
  clear e0
  go_wp2
  go_ret
  exact ⟨rfl, bb, HK3.out, HC3.out⟩
set_option maxRecDepth 100000 in
set_option maxHeartbeats 8000000 in
theorem turnX (B tb mb : Nat) (A : Option Addr) (c g h bb a n : Nat) (w : World) (hw : WT2 w B tb mb A c g h bb a n) (ha : PG a n) : Calls Tryz.prog 132 #[.pointer (some ⟨tb, 0, none⟩), .string ⟨#[120]⟩, .agg #[.int .u32 (a : Int), .int .i64 (n : Int)], .bool false] w fun e w' => e = .returned (.bool false) ∧ Below w.heap.size w w' := by
  obtain ⟨w1, hw1⟩ : ∃ w1, w.alloc (.cells #[.int .u32 (a : Int), .int .i64 (n : Int)] 24) = w1 := ⟨_, rfl⟩
  have hb1 : Below w.heap.size w w1 := hw1 ▸ blkBelow1 w _
  have HX : Hid (Blk w1 w.heap.size 24 #[.int .u32 (a : Int), .int .i64 (n : Int)]) := hide (hw1 ▸ Blk.new w _ _)
  have x0 : w1.cell? ⟨w.heap.size, 0, none⟩ = some (.int .u32 (a : Int)) := HX.out.cell 0
  have x1 : w1.cell? ⟨w.heap.size, 1, none⟩ = some (.int .i64 (n : Int)) := HX.out.cell 1
  have HK1 := hide (hw.below hb1)
  have t5 : w1.cell? ⟨tb, 5, none⟩ = some (.map (some mb)) := HK1.out.ft.cell 5
  have hget := mp_get2X HK1.out.mp
  have HL1 := hide (fun W (hb : Below w1.heap.size w1 W) => tlenB_any (F := fun _ => False) (R := RU) h (.nil : Tr Nat) W (HK1.out.th.below hb HK1.out.th.lt) trivial)
  have HP1 := hide (bcut0 h a n w1 ha HK1.out.th)
  have HB1 := hide hb1
  have HW1 := hide hw1
  clear hw1 hb1 hw ha
  go_enter Tryz.func132, Tryz.ntmps132
  go_upto_region 1 with fail
  rw [HW1.out]
  go_wp2_with fail
  refine (HL1.out w1 (Below.refl _ _)).mono ?_
  rintro e w2 ⟨rfl, hq⟩
  have hq' := hq.symm
  subst hq'
  clear hq
  have e0 : ((trCnt (.nil : Tr Nat) : Nat) : Int) = 0 := rfl
  rw [e0]
  clear e0
  go_wp2_with fail
  refine HP1.out.mono ?_
  rintro e w3 ⟨rfl, hb3⟩
  have HB3 := hide (HB1.out.trans (hb3.mono HB1.out.size))
  have HL3 := hide (HL1.out w3 hb3)
  clear hb3 x0 x1 t5 hget
  go_wp2_with fail
  refine HL3.out.mono ?_
  rintro e w4 ⟨rfl, hq⟩
  have hq' := hq.symm
  subst hq'
  clear hq
  have e0 : ((trCnt (.nil : Tr Nat) : Nat) : Int) = 0 := rfl
  rw [e0]
  clear e0
  go_wp2
  go_ret
  exact ⟨rfl, HB3.out⟩
end Go.Proofs.YtcinjckajnnhmaaGreat
set_option linter.unusedSimpArgs false
set_option linter.unusedVariables false
namespace Go.Proofs.YtcinjckajnnhmaaGreat
open Go.RowKit Go.WideShapes Go.ChangeShapes Go.Maps
attribute [local go_sem] Oper.semAt_some
set_option maxRecDepth 100000 in
set_option maxHeartbeats 8000000 in
theorem clsE (b0 b1 b5 tb mb a n : Nat) (A : Option Addr) (k c : Nat) (X : AT) (A1 B1 : Option Addr) (n1 c1 m1 d1 : Nat) (w : World) (hp0 : X.path = []) (hc0 : X.comms = []) (hP : Blk w b0 31 #[.pointer (some ⟨tb, 0, none⟩)]) (hT : Blk w tb 107 #[.slice none 0 0, .slice none 0 0, .slice none 0 0, .slice none 0 0, .slice A k c, .map (some mb)]) (hR : Blk w b1 30 #[.int .u32 (a : Int), .int .i64 (n : Int), .int .i64 0, .int .i64 0, .slice none 0 0, .int .u32 0, .int .u32 0, .int .u32 0, .int .u32 0, .int .u32 0, .slice none 0 0, .int .u32 0, .int .u32 0, .int .u32 0, .bool false, .bool false]) (hA : Blk w b5 28 (atC X.has X.org A1 n1 c1 X.hop X.med X.pref X.aas X.aid B1 m1 d1)) (hl : ∀ W, LstAt 2 sgR W A1 n1 c1 X.path) (hu : ∀ W, U32s W B1 m1 d1 X.comms) :
    Calls Tryz.prog 70 #[.string ⟨#[]⟩, .pointer (some ⟨b0, 0, none⟩), .pointer (some ⟨b1, 0, none⟩), .pointer (some ⟨b5, 0, none⟩)] w (GoodP true w) := by
  have HP := hide hP
  have HT := hide hT
  have HR := hide hR
  have HA := hide hA
  have HPm : Hid (∀ W, Calls Tryz.prog 71 #[.agg #[.slice none 0 0, .slice none 0 0, .slice none 0 0, .slice none 0 0], .string ⟨#[]⟩, .agg #[.int .u32 (a : Int), .int .i64 (n : Int)], .agg #[.int .i64 X.has, .int .i64 X.org, .slice A1 n1 c1, .int .u32 X.hop, .int .u32 X.med, .int .u32 X.pref, .int .u32 X.aas, .int .u32 X.aid, .slice B1 m1 d1]] W fun e w' => e = .returned (.bool true) ∧ Below W.heap.size W w') := hide (fun W => permits_nil (none, 0, 0) (none, 0, 0) (none, 0, 0) (none, 0, 0) (a : Int) (n : Int) X hp0 hc0 _ W ⟨A1, n1, c1, B1, m1, d1, rfl, hl W, hu W⟩)
  clear hP hT hR hA hl hu hp0 hc0
  go_enter Tryz.func70, Tryz.ntmps70
  go_upto_region 1 with fail
  have Hmn := hide (show AllMono [(fun v _ => v = .pointer (some ⟨tb, 0, none⟩)), (fun v _ => v = .pointer (some ⟨tb, 0, none⟩)), (fun v _ => v = .pointer (some ⟨tb, 0, none⟩)), (fun v _ => v = .agg #[.slice none 0 0, .slice none 0 0, .slice none 0 0, .slice none 0 0]), (fun v _ => v = .string ⟨#[]⟩), (fun v _ => v = .pointer (some ⟨b1, 0, none⟩)), (fun v _ => v = .agg #[.int .u32 (a : Int), .int .i64 (n : Int)]), (fun v _ => v = .agg #[.int .i64 X.has, .int .i64 X.org, .slice A1 n1 c1, .int .u32 X.hop, .int .u32 X.med, .int .u32 X.pref, .int .u32 X.aas, .int .u32 X.aid, .slice B1 m1 d1]), (fun v _ => v = .bool true), (fun v _ => v = .bool true)] from ⟨fun _ _ _ _ h => h, fun _ _ _ _ h => h, fun _ _ _ _ h => h, fun _ _ _ _ h => h, fun _ _ _ _ h => h, fun _ _ _ _ h => h, fun _ _ _ _ h => h, fun _ _ _ _ h => h, fun _ _ _ _ h => h, fun _ _ _ _ h => h, trivial⟩)
  refine wp_region_rel _ (by kernel_rfl) (by kernel_rfl) (relMono _ Hmn.out) ⟨?_, ?_, ?_, ?_, ?_, ?_, ?_, ?_, ?_, ?_, trivial⟩ ?_
  · refine relStep_plain rfl ?_
    intro Ac w5 hp
    have hb := hp.bel
    have a1 : Ac.eval (.tmp 1) = .pointer (some ⟨b0, 0, none⟩) := hp.out 1 (by rfl)
    have hp5 := HP.out.below hb HP.out.lt
    have p0 : w5.cell? ⟨b0, 0, none⟩ = some (.pointer (some ⟨tb, 0, none⟩)) := hp5.cell 0
    have hc := evalC Ac; have hf := evalF Ac; have hgl := evalG Ac
    obtain ⟨ρ, hρ⟩ : ∃ ρ, Ac.eval = ρ := ⟨_, rfl⟩
    rw [hρ] at a1 hc hf hgl
    exact relPure hρ (.pointer (some ⟨tb, 0, none⟩)) (by simp [go_sem, hc, hf, hgl, ↓IntWalk.iteOmega, a1, *]) rfl
  · refine relStep_plain rfl ?_
    intro Ac w5 hp
    have hb := hp.bel
    have a6 : Ac.eval (.tmp 6) = .pointer (some ⟨tb, 0, none⟩) := hp.dep 0 (by kernel_rfl)
    have hc := evalC Ac; have hf := evalF Ac; have hgl := evalG Ac
    obtain ⟨ρ, hρ⟩ : ∃ ρ, Ac.eval = ρ := ⟨_, rfl⟩
    rw [hρ] at a6 hc hf hgl
    exact relPure hρ (.pointer (some ⟨tb, 0, none⟩)) (by simp [go_sem, hc, hf, hgl, ↓IntWalk.iteOmega, a6, *]) rfl
  · refine relStep_plain rfl ?_
    intro Ac w5 hp
    have hb := hp.bel
    have a7 : Ac.eval (.tmp 7) = .pointer (some ⟨tb, 0, none⟩) := hp.dep 1 (by kernel_rfl)
    have hc := evalC Ac; have hf := evalF Ac; have hgl := evalG Ac
    obtain ⟨ρ, hρ⟩ : ∃ ρ, Ac.eval = ρ := ⟨_, rfl⟩
    rw [hρ] at a7 hc hf hgl
    exact relPure hρ (.pointer (some ⟨tb, 0, none⟩)) (by simp [go_sem, hc, hf, hgl, ↓IntWalk.iteOmega, a7, *]) rfl
  · refine relStep_plain rfl ?_
    intro Ac w5 hp
    have hb := hp.bel
    have a8 : Ac.eval (.tmp 8) = .pointer (some ⟨tb, 0, none⟩) := hp.dep 2 (by kernel_rfl)
    have ht5 := HT.out.below hb HT.out.lt
    have t0 : w5.cell? ⟨tb, 0, none⟩ = some (.slice none 0 0) := ht5.cell 0
    have t1 : w5.cell? ⟨tb, 1, none⟩ = some (.slice none 0 0) := ht5.cell 1
    have t2 : w5.cell? ⟨tb, 2, none⟩ = some (.slice none 0 0) := ht5.cell 2
    have t3 : w5.cell? ⟨tb, 3, none⟩ = some (.slice none 0 0) := ht5.cell 3
    have hc := evalC Ac; have hf := evalF Ac; have hgl := evalG Ac
    obtain ⟨ρ, hρ⟩ : ∃ ρ, Ac.eval = ρ := ⟨_, rfl⟩
    rw [hρ] at a8 hc hf hgl
    exact relPure hρ (.agg #[.slice none 0 0, .slice none 0 0, .slice none 0 0, .slice none 0 0]) (by simp [go_sem, hc, hf, hgl, ↓IntWalk.iteOmega, a8, *]) rfl
  · refine relStep_plain rfl ?_
    intro Ac w5 hp
    have hb := hp.bel
    have a0 : Ac.eval (.tmp 0) = .string ⟨#[]⟩ := hp.out 0 (by rfl)
    have hc := evalC Ac; have hf := evalF Ac; have hgl := evalG Ac
    obtain ⟨ρ, hρ⟩ : ∃ ρ, Ac.eval = ρ := ⟨_, rfl⟩
    rw [hρ] at a0 hc hf hgl
    exact relPure hρ (.string ⟨#[]⟩) (by simp [go_sem, hc, hf, hgl, ↓IntWalk.iteOmega, a0, *]) rfl
  · refine relStep_plain rfl ?_
    intro Ac w5 hp
    have hb := hp.bel
    have a2 : Ac.eval (.tmp 2) = .pointer (some ⟨b1, 0, none⟩) := hp.out 2 (by rfl)
    have hc := evalC Ac; have hf := evalF Ac; have hgl := evalG Ac
    obtain ⟨ρ, hρ⟩ : ∃ ρ, Ac.eval = ρ := ⟨_, rfl⟩
    rw [hρ] at a2 hc hf hgl
    exact relPure hρ (.pointer (some ⟨b1, 0, none⟩)) (by simp [go_sem, hc, hf, hgl, ↓IntWalk.iteOmega, a2, *]) rfl
  · refine relStep_plain rfl ?_
    intro Ac w5 hp
    have hb := hp.bel
    have a11 : Ac.eval (.tmp 11) = .pointer (some ⟨b1, 0, none⟩) := hp.dep 5 (by kernel_rfl)
    have hr5 := HR.out.below hb HR.out.lt
    have r0 : w5.cell? ⟨b1, 0, none⟩ = some (.int .u32 (a : Int)) := hr5.cell 0
    have r1 : w5.cell? ⟨b1, 1, none⟩ = some (.int .i64 (n : Int)) := hr5.cell 1
    have hc := evalC Ac; have hf := evalF Ac; have hgl := evalG Ac
    obtain ⟨ρ, hρ⟩ : ∃ ρ, Ac.eval = ρ := ⟨_, rfl⟩
    rw [hρ] at a11 hc hf hgl
    exact relPure hρ (.agg #[.int .u32 (a : Int), .int .i64 (n : Int)]) (by simp [go_sem, hc, hf, hgl, ↓IntWalk.iteOmega, a11, *]) rfl
  · refine relStep_plain rfl ?_
    intro Ac w5 hp
    have hb := hp.bel
    have a3 : Ac.eval (.tmp 3) = .pointer (some ⟨b5, 0, none⟩) := hp.out 3 (by rfl)
    have ha5 := HA.out.below hb HA.out.lt
    have x0 : w5.cell? ⟨b5, 0, none⟩ = some (.int .i64 X.has) := ha5.cell 0
    have x1 : w5.cell? ⟨b5, 1, none⟩ = some (.int .i64 X.org) := ha5.cell 1
    have x2 : w5.cell? ⟨b5, 2, none⟩ = some (.slice A1 n1 c1) := ha5.cell 2
    have x3 : w5.cell? ⟨b5, 3, none⟩ = some (.int .u32 X.hop) := ha5.cell 3
    have x4 : w5.cell? ⟨b5, 4, none⟩ = some (.int .u32 X.med) := ha5.cell 4
    have x5 : w5.cell? ⟨b5, 5, none⟩ = some (.int .u32 X.pref) := ha5.cell 5
    have x6 : w5.cell? ⟨b5, 6, none⟩ = some (.int .u32 X.aas) := ha5.cell 6
    have x7 : w5.cell? ⟨b5, 7, none⟩ = some (.int .u32 X.aid) := ha5.cell 7
    have x8 : w5.cell? ⟨b5, 8, none⟩ = some (.slice B1 m1 d1) := ha5.cell 8
    have hc := evalC Ac; have hf := evalF Ac; have hgl := evalG Ac
    obtain ⟨ρ, hρ⟩ : ∃ ρ, Ac.eval = ρ := ⟨_, rfl⟩
    rw [hρ] at a3 hc hf hgl
    exact relPure hρ (.agg #[.int .i64 X.has, .int .i64 X.org, .slice A1 n1 c1, .int .u32 X.hop, .int .u32 X.med, .int .u32 X.pref, .int .u32 X.aas, .int .u32 X.aid, .slice B1 m1 d1]) (by simp [go_sem, hc, hf, hgl, ↓IntWalk.iteOmega, a3, *]) rfl
  · refine relStep_plain rfl ?_
    intro Ac w5 hp
    have hb := hp.bel
    have a9 : Ac.eval (.tmp 9) = .agg #[.slice none 0 0, .slice none 0 0, .slice none 0 0, .slice none 0 0] := hp.dep 3 (by kernel_rfl)
    have a10 : Ac.eval (.tmp 10) = .string ⟨#[]⟩ := hp.dep 4 (by kernel_rfl)
    have a12 : Ac.eval (.tmp 12) = .agg #[.int .u32 (a : Int), .int .i64 (n : Int)] := hp.dep 6 (by kernel_rfl)
    have a13 : Ac.eval (.tmp 13) = .agg #[.int .i64 X.has, .int .i64 X.org, .slice A1 n1 c1, .int .u32 X.hop, .int .u32 X.med, .int .u32 X.pref, .int .u32 X.aas, .int .u32 X.aid, .slice B1 m1 d1] := hp.dep 7 (by kernel_rfl)
    have hc := evalC Ac; have hf := evalF Ac; have hgl := evalG Ac
    obtain ⟨ρ, hρ⟩ : ∃ ρ, Ac.eval = ρ := ⟨_, rfl⟩
    rw [hρ] at a9 a10 a12 a13 hc hf hgl
    refine relCall hρ 71 #[.agg #[.slice none 0 0, .slice none 0 0, .slice none 0 0, .slice none 0 0], .string ⟨#[]⟩, .agg #[.int .u32 (a : Int), .int .i64 (n : Int)], .agg #[.int .i64 X.has, .int .i64 X.org, .slice A1 n1 c1, .int .u32 X.hop, .int .u32 X.med, .int .u32 X.pref, .int .u32 X.aas, .int .u32 X.aid, .slice B1 m1 d1]] (by simp [go_sem, hc, hf, hgl, ↓IntWalk.iteOmega, a9, a10, a12, a13, *]) ?_
    refine (HPm.out w5).mono ?_
    rintro e w6 ⟨rfl, hb6⟩
    exact ⟨_, rfl, rfl, hb6⟩
  · refine relStep_plain rfl ?_
    intro Ac w5 hp
    have hb := hp.bel
    have a14 : Ac.eval (.tmp 14) = .bool true := hp.dep 8 (by kernel_rfl)
    have hc := evalC Ac; have hf := evalF Ac; have hgl := evalG Ac
    obtain ⟨ρ, hρ⟩ : ∃ ρ, Ac.eval = ρ := ⟨_, rfl⟩
    rw [hρ] at a14 hc hf hgl
    exact relPure hρ (.bool true) (by simp [go_sem, hc, hf, hgl, ↓IntWalk.iteOmega, a14, *]) rfl
  intro u w2 hb7 hall
  have e5 : u 9 = .bool true := relAll_at hall (i := 9) (by decide +kernel)
  clear hall
  simp only [List.drop_succ_cons, List.drop_zero, List.take_succ_cons, List.take_zero, putAll, Act.put, List.setIfInBounds_toArray, List.set_cons_zero, List.set_cons_succ, Nat.zero_add, Nat.reduceAdd, e5]
  have HB2 := hide hb7
  clear hb7
  go_wp2
  go_ret
  exact ⟨rfl, HB2.out⟩
set_option maxRecDepth 100000 in
set_option maxHeartbeats 8000000 in
theorem clsX (b0 b1 b5 tb mb a n : Nat) (A : Option Addr) (k c : Nat) (X : AT) (A1 B1 : Option Addr) (n1 c1 m1 d1 : Nat) (w : World) (hp0 : X.path = []) (hc0 : X.comms = []) (hP : Blk w b0 31 #[.pointer (some ⟨tb, 0, none⟩)]) (hT : Blk w tb 107 #[.slice none 0 0, .slice none 0 0, .slice none 0 0, .slice none 0 0, .slice A k c, .map (some mb)]) (hR : Blk w b1 30 #[.int .u32 (a : Int), .int .i64 (n : Int), .int .i64 0, .int .i64 0, .slice none 0 0, .int .u32 0, .int .u32 0, .int .u32 0, .int .u32 0, .int .u32 0, .slice none 0 0, .int .u32 0, .int .u32 0, .int .u32 0, .bool false, .bool false]) (hA : Blk w b5 28 (atC X.has X.org A1 n1 c1 X.hop X.med X.pref X.aas X.aid B1 m1 d1)) (hl : ∀ W, LstAt 2 sgR W A1 n1 c1 X.path) (hu : ∀ W, U32s W B1 m1 d1 X.comms) :
    Calls Tryz.prog 70 #[.string ⟨#[120]⟩, .pointer (some ⟨b0, 0, none⟩), .pointer (some ⟨b1, 0, none⟩), .pointer (some ⟨b5, 0, none⟩)] w (GoodP false w) := by
  have HP := hide hP
  have HT := hide hT
  have HR := hide hR
  have HA := hide hA
  have HPm : Hid (∀ W, Calls Tryz.prog 71 #[.agg #[.slice none 0 0, .slice none 0 0, .slice none 0 0, .slice none 0 0], .string ⟨#[120]⟩, .agg #[.int .u32 (a : Int), .int .i64 (n : Int)], .agg #[.int .i64 X.has, .int .i64 X.org, .slice A1 n1 c1, .int .u32 X.hop, .int .u32 X.med, .int .u32 X.pref, .int .u32 X.aas, .int .u32 X.aid, .slice B1 m1 d1]] W fun e w' => e = .returned (.bool false) ∧ Below W.heap.size W w') := hide (fun W => permits_x (none, 0, 0) (none, 0, 0) (none, 0, 0) (a : Int) (n : Int) X hp0 hc0 _ W ⟨A1, n1, c1, B1, m1, d1, rfl, hl W, hu W⟩)
  clear hP hT hR hA hl hu hp0 hc0
  go_enter Tryz.func70, Tryz.ntmps70
  go_upto_region 1 with fail
  have Hmn := hide (show AllMono [(fun v _ => v = .pointer (some ⟨tb, 0, none⟩)), (fun v _ => v = .pointer (some ⟨tb, 0, none⟩)), (fun v _ => v = .pointer (some ⟨tb, 0, none⟩)), (fun v _ => v = .agg #[.slice none 0 0, .slice none 0 0, .slice none 0 0, .slice none 0 0]), (fun v _ => v = .string ⟨#[120]⟩), (fun v _ => v = .pointer (some ⟨b1, 0, none⟩)), (fun v _ => v = .agg #[.int .u32 (a : Int), .int .i64 (n : Int)]), (fun v _ => v = .agg #[.int .i64 X.has, .int .i64 X.org, .slice A1 n1 c1, .int .u32 X.hop, .int .u32 X.med, .int .u32 X.pref, .int .u32 X.aas, .int .u32 X.aid, .slice B1 m1 d1]), (fun v _ => v = .bool false), (fun v _ => v = .bool false)] from ⟨fun _ _ _ _ h => h, fun _ _ _ _ h => h, fun _ _ _ _ h => h, fun _ _ _ _ h => h, fun _ _ _ _ h => h, fun _ _ _ _ h => h, fun _ _ _ _ h => h, fun _ _ _ _ h => h, fun _ _ _ _ h => h, fun _ _ _ _ h => h, trivial⟩)
  refine wp_region_rel _ (by kernel_rfl) (by kernel_rfl) (relMono _ Hmn.out) ⟨?_, ?_, ?_, ?_, ?_, ?_, ?_, ?_, ?_, ?_, trivial⟩ ?_
  · refine relStep_plain rfl ?_
    intro Ac w5 hp
    have hb := hp.bel
    have a1 : Ac.eval (.tmp 1) = .pointer (some ⟨b0, 0, none⟩) := hp.out 1 (by rfl)
    have hp5 := HP.out.below hb HP.out.lt
    have p0 : w5.cell? ⟨b0, 0, none⟩ = some (.pointer (some ⟨tb, 0, none⟩)) := hp5.cell 0
    have hc := evalC Ac; have hf := evalF Ac; have hgl := evalG Ac
    obtain ⟨ρ, hρ⟩ : ∃ ρ, Ac.eval = ρ := ⟨_, rfl⟩
    rw [hρ] at a1 hc hf hgl
    exact relPure hρ (.pointer (some ⟨tb, 0, none⟩)) (by simp [go_sem, hc, hf, hgl, ↓IntWalk.iteOmega, a1, *]) rfl
  · refine relStep_plain rfl ?_
    intro Ac w5 hp
    have hb := hp.bel
    have a6 : Ac.eval (.tmp 6) = .pointer (some ⟨tb, 0, none⟩) := hp.dep 0 (by kernel_rfl)
    have hc := evalC Ac; have hf := evalF Ac; have hgl := evalG Ac
    obtain ⟨ρ, hρ⟩ : ∃ ρ, Ac.eval = ρ := ⟨_, rfl⟩
    rw [hρ] at a6 hc hf hgl
    exact relPure hρ (.pointer (some ⟨tb, 0, none⟩)) (by simp [go_sem, hc, hf, hgl, ↓IntWalk.iteOmega, a6, *]) rfl
  · refine relStep_plain rfl ?_
    intro Ac w5 hp
    have hb := hp.bel
    have a7 : Ac.eval (.tmp 7) = .pointer (some ⟨tb, 0, none⟩) := hp.dep 1 (by kernel_rfl)
    have hc := evalC Ac; have hf := evalF Ac; have hgl := evalG Ac
    obtain ⟨ρ, hρ⟩ : ∃ ρ, Ac.eval = ρ := ⟨_, rfl⟩
    rw [hρ] at a7 hc hf hgl
    exact relPure hρ (.pointer (some ⟨tb, 0, none⟩)) (by simp [go_sem, hc, hf, hgl, ↓IntWalk.iteOmega, a7, *]) rfl
  · refine relStep_plain rfl ?_
    intro Ac w5 hp
    have hb := hp.bel
    have a8 : Ac.eval (.tmp 8) = .pointer (some ⟨tb, 0, none⟩) := hp.dep 2 (by kernel_rfl)
    have ht5 := HT.out.below hb HT.out.lt
    have t0 : w5.cell? ⟨tb, 0, none⟩ = some (.slice none 0 0) := ht5.cell 0
    have t1 : w5.cell? ⟨tb, 1, none⟩ = some (.slice none 0 0) := ht5.cell 1
    have t2 : w5.cell? ⟨tb, 2, none⟩ = some (.slice none 0 0) := ht5.cell 2
    have t3 : w5.cell? ⟨tb, 3, none⟩ = some (.slice none 0 0) := ht5.cell 3
    have hc := evalC Ac; have hf := evalF Ac; have hgl := evalG Ac
    obtain ⟨ρ, hρ⟩ : ∃ ρ, Ac.eval = ρ := ⟨_, rfl⟩
    rw [hρ] at a8 hc hf hgl
    exact relPure hρ (.agg #[.slice none 0 0, .slice none 0 0, .slice none 0 0, .slice none 0 0]) (by simp [go_sem, hc, hf, hgl, ↓IntWalk.iteOmega, a8, *]) rfl
  · refine relStep_plain rfl ?_
    intro Ac w5 hp
    have hb := hp.bel
    have a0 : Ac.eval (.tmp 0) = .string ⟨#[120]⟩ := hp.out 0 (by rfl)
    have hc := evalC Ac; have hf := evalF Ac; have hgl := evalG Ac
    obtain ⟨ρ, hρ⟩ : ∃ ρ, Ac.eval = ρ := ⟨_, rfl⟩
    rw [hρ] at a0 hc hf hgl
    exact relPure hρ (.string ⟨#[120]⟩) (by simp [go_sem, hc, hf, hgl, ↓IntWalk.iteOmega, a0, *]) rfl
  · refine relStep_plain rfl ?_
    intro Ac w5 hp
    have hb := hp.bel
    have a2 : Ac.eval (.tmp 2) = .pointer (some ⟨b1, 0, none⟩) := hp.out 2 (by rfl)
    have hc := evalC Ac; have hf := evalF Ac; have hgl := evalG Ac
    obtain ⟨ρ, hρ⟩ : ∃ ρ, Ac.eval = ρ := ⟨_, rfl⟩
    rw [hρ] at a2 hc hf hgl
    exact relPure hρ (.pointer (some ⟨b1, 0, none⟩)) (by simp [go_sem, hc, hf, hgl, ↓IntWalk.iteOmega, a2, *]) rfl
  · refine relStep_plain rfl ?_
    intro Ac w5 hp
    have hb := hp.bel
    have a11 : Ac.eval (.tmp 11) = .pointer (some ⟨b1, 0, none⟩) := hp.dep 5 (by kernel_rfl)
    have hr5 := HR.out.below hb HR.out.lt
    have r0 : w5.cell? ⟨b1, 0, none⟩ = some (.int .u32 (a : Int)) := hr5.cell 0
    have r1 : w5.cell? ⟨b1, 1, none⟩ = some (.int .i64 (n : Int)) := hr5.cell 1
    have hc := evalC Ac; have hf := evalF Ac; have hgl := evalG Ac
    obtain ⟨ρ, hρ⟩ : ∃ ρ, Ac.eval = ρ := ⟨_, rfl⟩
    rw [hρ] at a11 hc hf hgl
    exact relPure hρ (.agg #[.int .u32 (a : Int), .int .i64 (n : Int)]) (by simp [go_sem, hc, hf, hgl, ↓IntWalk.iteOmega, a11, *]) rfl
  · refine relStep_plain rfl ?_
    intro Ac w5 hp
    have hb := hp.bel
    have a3 : Ac.eval (.tmp 3) = .pointer (some ⟨b5, 0, none⟩) := hp.out 3 (by rfl)
    have ha5 := HA.out.below hb HA.out.lt
    have x0 : w5.cell? ⟨b5, 0, none⟩ = some (.int .i64 X.has) := ha5.cell 0
    have x1 : w5.cell? ⟨b5, 1, none⟩ = some (.int .i64 X.org) := ha5.cell 1
    have x2 : w5.cell? ⟨b5, 2, none⟩ = some (.slice A1 n1 c1) := ha5.cell 2
    have x3 : w5.cell? ⟨b5, 3, none⟩ = some (.int .u32 X.hop) := ha5.cell 3
    have x4 : w5.cell? ⟨b5, 4, none⟩ = some (.int .u32 X.med) := ha5.cell 4
    have x5 : w5.cell? ⟨b5, 5, none⟩ = some (.int .u32 X.pref) := ha5.cell 5
    have x6 : w5.cell? ⟨b5, 6, none⟩ = some (.int .u32 X.aas) := ha5.cell 6
    have x7 : w5.cell? ⟨b5, 7, none⟩ = some (.int .u32 X.aid) := ha5.cell 7
    have x8 : w5.cell? ⟨b5, 8, none⟩ = some (.slice B1 m1 d1) := ha5.cell 8
    have hc := evalC Ac; have hf := evalF Ac; have hgl := evalG Ac
    obtain ⟨ρ, hρ⟩ : ∃ ρ, Ac.eval = ρ := ⟨_, rfl⟩
    rw [hρ] at a3 hc hf hgl
    exact relPure hρ (.agg #[.int .i64 X.has, .int .i64 X.org, .slice A1 n1 c1, .int .u32 X.hop, .int .u32 X.med, .int .u32 X.pref, .int .u32 X.aas, .int .u32 X.aid, .slice B1 m1 d1]) (by simp [go_sem, hc, hf, hgl, ↓IntWalk.iteOmega, a3, *]) rfl
  · refine relStep_plain rfl ?_
    intro Ac w5 hp
    have hb := hp.bel
    have a9 : Ac.eval (.tmp 9) = .agg #[.slice none 0 0, .slice none 0 0, .slice none 0 0, .slice none 0 0] := hp.dep 3 (by kernel_rfl)
    have a10 : Ac.eval (.tmp 10) = .string ⟨#[120]⟩ := hp.dep 4 (by kernel_rfl)
    have a12 : Ac.eval (.tmp 12) = .agg #[.int .u32 (a : Int), .int .i64 (n : Int)] := hp.dep 6 (by kernel_rfl)
    have a13 : Ac.eval (.tmp 13) = .agg #[.int .i64 X.has, .int .i64 X.org, .slice A1 n1 c1, .int .u32 X.hop, .int .u32 X.med, .int .u32 X.pref, .int .u32 X.aas, .int .u32 X.aid, .slice B1 m1 d1] := hp.dep 7 (by kernel_rfl)
    have hc := evalC Ac; have hf := evalF Ac; have hgl := evalG Ac
    obtain ⟨ρ, hρ⟩ : ∃ ρ, Ac.eval = ρ := ⟨_, rfl⟩
    rw [hρ] at a9 a10 a12 a13 hc hf hgl
    refine relCall hρ 71 #[.agg #[.slice none 0 0, .slice none 0 0, .slice none 0 0, .slice none 0 0], .string ⟨#[120]⟩, .agg #[.int .u32 (a : Int), .int .i64 (n : Int)], .agg #[.int .i64 X.has, .int .i64 X.org, .slice A1 n1 c1, .int .u32 X.hop, .int .u32 X.med, .int .u32 X.pref, .int .u32 X.aas, .int .u32 X.aid, .slice B1 m1 d1]] (by simp [go_sem, hc, hf, hgl, ↓IntWalk.iteOmega, a9, a10, a12, a13, *]) ?_
    refine (HPm.out w5).mono ?_
    rintro e w6 ⟨rfl, hb6⟩
    exact ⟨_, rfl, rfl, hb6⟩
  · refine relStep_plain rfl ?_
    intro Ac w5 hp
    have hb := hp.bel
    have a14 : Ac.eval (.tmp 14) = .bool false := hp.dep 8 (by kernel_rfl)
    have hc := evalC Ac; have hf := evalF Ac; have hgl := evalG Ac
    obtain ⟨ρ, hρ⟩ : ∃ ρ, Ac.eval = ρ := ⟨_, rfl⟩
    rw [hρ] at a14 hc hf hgl
    exact relPure hρ (.bool false) (by simp [go_sem, hc, hf, hgl, ↓IntWalk.iteOmega, a14, *]) rfl
  intro u w2 hb7 hall
  have e5 : u 9 = .bool false := relAll_at hall (i := 9) (by decide +kernel)
  clear hall
  simp only [List.drop_succ_cons, List.drop_zero, List.take_succ_cons, List.take_zero, putAll, Act.put, List.setIfInBounds_toArray, List.set_cons_zero, List.set_cons_succ, Nat.zero_add, Nat.reduceAdd, e5]
  have HB2 := hide hb7
  clear hb7
  go_wp2
  go_ret
  exact ⟨rfl, HB2.out⟩
theorem callPut1 (args : Array Value) (W : World) : (callFunc 70 args).run Tryz.prog W = .ok (.enter 70 args) W := by
  simp [callFunc, go_sem, Tryz.func70]
  rfl
theorem own_cell {w : World} {base : Nat} {A : Option Addr} {k c i : Nat} {u : Value} {xs : List Value} (h : w.ownsRow base 9 1 (.slice A k c) k xs) (hk : 0 < k) (hi : xs[i]? = some u) : ∃ g, A = some ⟨g, 0, none⟩ ∧ base ≤ g ∧ g < w.heap.size ∧ k ≤ c ∧ c ≤ maxLen ∧ w.cell? ⟨g, i, none⟩ = some u := by
  rcases h.2 with ⟨h1, h2⟩ | ⟨g, cap, cur, h1, h2, h3, h4, h5, h6, h7⟩
  · omega
  · cases h1
    have hB : Blk w g 9 cur := h3
    refine ⟨g, rfl, h2, hB.lt, h4, h5, ?_⟩
    rw [hB.cell]
    rw [← h7] at hi
    have h8 : cur.toList[i]? = some u := by
      rw [List.getElem?_take] at hi
      split at hi
      · exact hi
      · cases hi
    simpa using h8
set_option maxRecDepth 100000 in
set_option maxHeartbeats 8000000 in
theorem turned2 (B tb mb : Nat) (A : Option Addr) (c g h b0 b1 b5 a n : Nat) (w : World) (hw : WT w B tb mb A 2 c [.string ⟨#[]⟩, .string ⟨#[120]⟩] (((DataW.map []).put kE (DP g)).put kX (DP h)) [g, h]) (hgh : g < h) (hmg : mb ≠ g) (ha : PG a n)
    (hcE : ∀ W, Below w.heap.size w W → Calls Tryz.prog 70 #[.string ⟨#[]⟩, .pointer (some ⟨b0, 0, none⟩), .pointer (some ⟨b1, 0, none⟩), .pointer (some ⟨b5, 0, none⟩)] W (GoodP true W)) (hcX : ∀ W, ChgS (fun k => k = g) w W → Calls Tryz.prog 70 #[.string ⟨#[120]⟩, .pointer (some ⟨b0, 0, none⟩), .pointer (some ⟨b1, 0, none⟩), .pointer (some ⟨b5, 0, none⟩)] W (GoodP false W)) :
    Calls Tryz.prog 69 #[.pointer (some ⟨tb, 0, none⟩), .agg #[.int .u32 (a : Int), .int .i64 (n : Int)], .func (.func 70) #[] #[.pointer (some ⟨b0, 0, none⟩), .pointer (some ⟨b1, 0, none⟩), .pointer (some ⟨b5, 0, none⟩)]] w fun e w' => ∃ A' c' bb, e = .returned (.slice A' 1 c') ∧ w'.ownsRow w.heap.size 9 1 (.slice A' 1 c') 1 [.string ⟨#[]⟩] ∧ WT2 w' B tb mb A c g h bb a n ∧ ChgS (fun k => k = g) w w' := by
  obtain ⟨i0, hi, hz0, hz1, hz2⟩ := info_parts strInfo9
  obtain ⟨w1, hw1⟩ : ∃ w1, w.alloc (.cells #[.int .u32 (a : Int), .int .i64 (n : Int)] 24) = w1 := ⟨_, rfl⟩
  have hb1 : Below w.heap.size w w1 := hw1 ▸ blkBelow1 w _
  have HX1 : Hid (Blk w1 w.heap.size 24 #[.int .u32 (a : Int), .int .i64 (n : Int)]) := hide (hw1 ▸ Blk.new w _ _)
  have HK1 := hide (hw.below hb1)
  have t4 : w1.cell? ⟨tb, 4, none⟩ = some (.slice A 2 c) := HK1.out.ft.cell 4
  obtain ⟨gA, rfl, _, hgl, hkc, hcm, y0⟩ := own_cell (i := 0) (u := .string ⟨#[]⟩) HK1.out.own (by omega) rfl
  obtain ⟨gA', eA, _, _, _, _, y1⟩ := own_cell (i := 1) (u := .string ⟨#[120]⟩) HK1.out.own (by omega) rfl
  cases eA
  have hcm2 : c ≤ 9223372036854775807 := by unfold maxLen at hcm; omega
  have HgA : Hid (gA ≠ g) := hide (fun e => by subst e; exact own_ne HK1.out.own (HK1.out.tr gA (by simp)) (by decide) rfl)
  have HgL := hide hgl
  have hglw : g < w.heap.size := (hw.tr g (by simp)).lt
  have HcE := hide hcE
  have HcX := hide hcX
  have HB1 := hide hb1
  have HW1 := hide hw1
  have Hgh := hide hgh
  have Hmg := hide hmg
  have HPa := hide ha
  clear hw1 hb1 hw ha hgh hmg hcE hcX
  go_enter Tryz.func69, Tryz.ntmps69
  go_upto_region 1 with fail
  rw [HW1.out]
  go_wp2
  go_loopw [7, 15] (fun ov iv wr => (ov = .slice none 0 0 ∧ iv = .int .i64 0 ∧ wr = w1) ∨ (iv = .int .i64 1 ∧ ∃ A' c' bb, ov = .slice A' 1 c' ∧ wr.ownsRow w.heap.size 9 1 (.slice A' 1 c') 1 [.string ⟨#[]⟩] ∧ WT2 wr B tb mb (some ⟨gA, 0, none⟩) c g h bb a n ∧ ChgS (fun k => k = g) w wr ∧ Blk wr w.heap.size 24 #[.int .u32 (a : Int), .int .i64 (n : Int)]) ∨ (iv = .int .i64 2 ∧ ∃ A' c' bb, ov = .slice A' 1 c' ∧ wr.ownsRow w.heap.size 9 1 (.slice A' 1 c') 1 [.string ⟨#[]⟩] ∧ WT2 wr B tb mb (some ⟨gA, 0, none⟩) c g h bb a n ∧ ChgS (fun k => k = g) w wr)) (fun _ iv _ => 2 - (intOf iv).toNat)
  case atStart => exact .inl ⟨rfl, rfl, rfl⟩
  case round =>
    rcases hrel with ⟨hov, rfl, hwr⟩ | ⟨rfl, A', c', bb, rfl, ho, hw2, hc2, hx2⟩ | ⟨rfl, A', c', bb, rfl, ho, hw2, hc2⟩
    · have hwr' := hwr.symm
      subst hwr'
      clear hwr
      have HX4 := hide HX1.out
      have HOw : Hid (∀ W : World, W.ownsRow w.heap.size 9 1 u7 0 []) := hide (fun W => hov.symm ▸ World.ownsRow_nil _ _ _ _)
      have HOn : Hid (Value.ownBlock u7 = none) := hide (hov.symm ▸ rfl)
      have HCl : Hid (∀ W, Below w1.heap.size w1 W → Calls Tryz.prog 70 #[.string ⟨#[]⟩, .pointer (some ⟨b0, 0, none⟩), .pointer (some ⟨b1, 0, none⟩), .pointer (some ⟨b5, 0, none⟩)] W (GoodP true W)) := hide (fun W hb => HcE.out W (HB1.out.trans (hb.mono HB1.out.size)))
      clear hov
      go_upto_region 5 with fail
      have Hmn := hide (show AllMono [(fun v _ => v = .pointer (some ⟨tb, 0, none⟩)), (fun v _ => v = .string ⟨#[]⟩), (fun v _ => v = .agg #[.int .u32 (a : Int), .int .i64 (n : Int)]), (fun v _ => v = .func (.func 70) #[] #[.pointer (some ⟨b0, 0, none⟩), .pointer (some ⟨b1, 0, none⟩), .pointer (some ⟨b5, 0, none⟩)]), (fun v _ => v = .string ⟨#[]⟩), (fun v _ => v = .bool true)] from ⟨fun _ _ _ _ h => h, fun _ _ _ _ h => h, fun _ _ _ _ h => h, fun _ _ _ _ h => h, fun _ _ _ _ h => h, fun _ _ _ _ h => h, trivial⟩)
      refine wp_region_relT 6 _ (by kernel_rfl) (by kernel_rfl) (by kernel_rfl) (by kernel_rfl) (by kernel_rfl) (relMono _ Hmn.out) ⟨?_, ?_, ?_, ?_, ?_, ?_, trivial⟩ ?_
      · refine relStep_plain rfl ?_
        intro Ac w5 hp
        have hb := hp.bel
        have a0 : Ac.eval (.tmp 0) = .pointer (some ⟨tb, 0, none⟩) := hp.out 0 (by rfl)
        have hc := evalC Ac; have hf := evalF Ac; have hgl := evalG Ac
        obtain ⟨ρ, hρ⟩ : ∃ ρ, Ac.eval = ρ := ⟨_, rfl⟩
        rw [hρ] at a0 hc hf hgl
        exact relPure hρ (.pointer (some ⟨tb, 0, none⟩)) (by simp [go_sem, hc, hf, hgl, ↓IntWalk.iteOmega, a0, callPut1, *]) rfl
      · refine relStep_plain rfl ?_
        intro Ac w5 hp
        have hb := hp.bel
        have a9 : Ac.eval (.tmp 9) = .string ⟨#[]⟩ := hp.out 9 (by rfl)
        have hc := evalC Ac; have hf := evalF Ac; have hgl := evalG Ac
        obtain ⟨ρ, hρ⟩ : ∃ ρ, Ac.eval = ρ := ⟨_, rfl⟩
        rw [hρ] at a9 hc hf hgl
        exact relPure hρ (.string ⟨#[]⟩) (by simp [go_sem, hc, hf, hgl, ↓IntWalk.iteOmega, a9, callPut1, *]) rfl
      · refine relStep_plain rfl ?_
        intro Ac w5 hp
        have hb := hp.bel
        have a4 : Ac.eval (.tmp 4) = .pointer (some ⟨w.heap.size, 0, none⟩) := hp.out 4 (by rfl)
        have hx5 := HX4.out.below hb HX4.out.lt
        have x0 : w5.cell? ⟨w.heap.size, 0, none⟩ = some (.int .u32 (a : Int)) := hx5.cell 0
        have x1 : w5.cell? ⟨w.heap.size, 1, none⟩ = some (.int .i64 (n : Int)) := hx5.cell 1
        have hc := evalC Ac; have hf := evalF Ac; have hgl := evalG Ac
        obtain ⟨ρ, hρ⟩ : ∃ ρ, Ac.eval = ρ := ⟨_, rfl⟩
        rw [hρ] at a4 hc hf hgl
        exact relPure hρ (.agg #[.int .u32 (a : Int), .int .i64 (n : Int)]) (by simp [go_sem, hc, hf, hgl, ↓IntWalk.iteOmega, a4, callPut1, *]) rfl
      · refine relStep_plain rfl ?_
        intro Ac w5 hp
        have hb := hp.bel
        have a2 : Ac.eval (.tmp 2) = .func (.func 70) #[] #[.pointer (some ⟨b0, 0, none⟩), .pointer (some ⟨b1, 0, none⟩), .pointer (some ⟨b5, 0, none⟩)] := hp.out 2 (by rfl)
        have hc := evalC Ac; have hf := evalF Ac; have hgl := evalG Ac
        obtain ⟨ρ, hρ⟩ : ∃ ρ, Ac.eval = ρ := ⟨_, rfl⟩
        rw [hρ] at a2 hc hf hgl
        exact relPure hρ (.func (.func 70) #[] #[.pointer (some ⟨b0, 0, none⟩), .pointer (some ⟨b1, 0, none⟩), .pointer (some ⟨b5, 0, none⟩)]) (by simp [go_sem, hc, hf, hgl, ↓IntWalk.iteOmega, a2, callPut1, *]) rfl
      · refine relStep_plain rfl ?_
        intro Ac w5 hp
        have hb := hp.bel
        have a9 : Ac.eval (.tmp 9) = .string ⟨#[]⟩ := hp.out 9 (by rfl)
        have hc := evalC Ac; have hf := evalF Ac; have hgl := evalG Ac
        obtain ⟨ρ, hρ⟩ : ∃ ρ, Ac.eval = ρ := ⟨_, rfl⟩
        rw [hρ] at a9 hc hf hgl
        exact relPure hρ (.string ⟨#[]⟩) (by simp [go_sem, hc, hf, hgl, ↓IntWalk.iteOmega, a9, callPut1, *]) rfl
      · refine relStep_plain rfl ?_
        intro Ac w5 hp
        have hb := hp.bel
        have a22 : Ac.eval (.tmp 22) = .func (.func 70) #[] #[.pointer (some ⟨b0, 0, none⟩), .pointer (some ⟨b1, 0, none⟩), .pointer (some ⟨b5, 0, none⟩)] := hp.dep 3 (by kernel_rfl)
        have a23 : Ac.eval (.tmp 23) = .string ⟨#[]⟩ := hp.dep 4 (by kernel_rfl)
        have hc := evalC Ac; have hf := evalF Ac; have hgl := evalG Ac
        obtain ⟨ρ, hρ⟩ : ∃ ρ, Ac.eval = ρ := ⟨_, rfl⟩
        rw [hρ] at a22 a23 hc hf hgl
        refine relCall hρ 70 #[.string ⟨#[]⟩, .pointer (some ⟨b0, 0, none⟩), .pointer (some ⟨b1, 0, none⟩), .pointer (some ⟨b5, 0, none⟩)] (by simp [go_sem, hc, hf, hgl, ↓IntWalk.iteOmega, a22, a23, callPut1, *]) ?_
        refine (HCl.out w5 hb).mono ?_
        rintro e w6 ⟨rfl, hb6⟩
        exact ⟨_, rfl, rfl, hb6⟩
      intro u w5 hb7 hall
      have e19 : u 0 = .pointer (some ⟨tb, 0, none⟩) := relAll_at hall (i := 0) (by decide +kernel)
      have e20 : u 1 = .string ⟨#[]⟩ := relAll_at hall (i := 1) (by decide +kernel)
      have e21 : u 2 = .agg #[.int .u32 (a : Int), .int .i64 (n : Int)] := relAll_at hall (i := 2) (by decide +kernel)
      have e24 : u 5 = .bool true := relAll_at hall (i := 5) (by decide +kernel)
      clear hall
      simp only [List.drop_succ_cons, List.drop_zero, List.take_succ_cons, List.take_zero, putAll, Act.put, List.setIfInBounds_toArray, List.set_cons_zero, List.set_cons_succ, Nat.zero_add, Nat.reduceAdd, e19, e20, e21, e24]
      have HB5 := hide (HB1.out.trans (hb7.mono HB1.out.size))
      have HK5 := hide (HK1.out.below hb7)
      have HX5 := hide (HX1.out.below hb7 HX1.out.lt)
      clear hb7 HX4
      go_wp2_with fail
      refine (turnE B tb mb (some ⟨gA, 0, none⟩) c g h a n w5 HK5.out Hgh.out Hmg.out HPa.out).mono ?_
      rintro e w6 ⟨rfl, bb, hk6, hc6⟩
      have HK6 := hide hk6
      have HC6 : Hid (ChgS (fun k => k = g) w w6) := hide (chg_trans (chg_below (S := fun k => k = g) HB5.out) hc6 (fun k h => .inl h))
      have HX6 := hide (chg_blk hc6 HX5.out (fun e => by have := hglw; omega))
      have hs6 : w.heap.size ≤ w6.heap.size := HC6.out.size
      clear hk6 hc6 y0 y1 t4
      go_wp2_with (at_builtin; refine wpList_append_any _ rfl (.tmp 26) (.tmp 28) 39 rfl w.heap.size 9 i0 _ 1 16 Tryz.underlying39 hi hz0 hz1 hz2 rfl (by decide) u7 0 [] rfl (HOw.out _) (w6.heap.size + 1) (some ⟨w6.heap.size, 0, none⟩) 1 1 [.string ⟨#[]⟩] rfl (reads_blkN (Blk.new _ _ _) (by simp) rfl rfl) (by simp [Value.oneCell']) (by unfold maxLen; omega) (by omega) (by simp <;> omega) ?_; intro v' w7 hown' hgrow hat; have hb8 : Below w6.heap.size w6 w7 := ((Below.refl _ _).alloc (Nat.le_refl _) _).grown hgrow (by simp) (fun k hk => by rw [HOn.out] at hk; cases hk); obtain ⟨A', c', rfl⟩ := own_slice hown'; have HO7 := hide hown'; have HK7 := hide (HK6.out.below hb8); have HX7 := hide (HX6.out.below hb8 HX6.out.lt); have HC7 : Hid (ChgS (fun k => k = g) w w7) := hide (chg_trans HC6.out (chg_below (S := fun _ => False) hb8) (fun k h => h.elim)); clear hown' hgrow hat hb8)
      go_roundw
      case rel => exact .inr (.inl ⟨rfl, A', c', bb, rfl, HO7.out, HK7.out, HC7.out, HX7.out⟩)
      case measure => simp [intOf]
    · have HX4 := hide hx2
      have HK4 := hide hw2
      have HO4 := hide ho
      have HC4 := hide hc2
      have HCl : Hid (∀ W, Below wr.heap.size wr W → Calls Tryz.prog 70 #[.string ⟨#[120]⟩, .pointer (some ⟨b0, 0, none⟩), .pointer (some ⟨b1, 0, none⟩), .pointer (some ⟨b5, 0, none⟩)] W (GoodP false W)) := hide (fun W hb => HcX.out W (chg_trans HC4.out (chg_below (S := fun _ => False) hb) (fun k h => h.elim)))
      obtain ⟨gq, eA, _, _, _, _, y1⟩ := own_cell (i := 1) (u := .string ⟨#[120]⟩) HK4.out.own (by omega) rfl
      cases eA
      clear hx2 hw2 ho hc2 y0 t4
      go_upto_region 5 with fail
      have Hmn := hide (show AllMono [(fun v _ => v = .pointer (some ⟨tb, 0, none⟩)), (fun v _ => v = .string ⟨#[120]⟩), (fun v _ => v = .agg #[.int .u32 (a : Int), .int .i64 (n : Int)]), (fun v _ => v = .func (.func 70) #[] #[.pointer (some ⟨b0, 0, none⟩), .pointer (some ⟨b1, 0, none⟩), .pointer (some ⟨b5, 0, none⟩)]), (fun v _ => v = .string ⟨#[120]⟩), (fun v _ => v = .bool false)] from ⟨fun _ _ _ _ h => h, fun _ _ _ _ h => h, fun _ _ _ _ h => h, fun _ _ _ _ h => h, fun _ _ _ _ h => h, fun _ _ _ _ h => h, trivial⟩)
      refine wp_region_relT 6 _ (by kernel_rfl) (by kernel_rfl) (by kernel_rfl) (by kernel_rfl) (by kernel_rfl) (relMono _ Hmn.out) ⟨?_, ?_, ?_, ?_, ?_, ?_, trivial⟩ ?_
      · refine relStep_plain rfl ?_
        intro Ac w5 hp
        have hb := hp.bel
        have a0 : Ac.eval (.tmp 0) = .pointer (some ⟨tb, 0, none⟩) := hp.out 0 (by rfl)
        have hc := evalC Ac; have hf := evalF Ac; have hgl := evalG Ac
        obtain ⟨ρ, hρ⟩ : ∃ ρ, Ac.eval = ρ := ⟨_, rfl⟩
        rw [hρ] at a0 hc hf hgl
        exact relPure hρ (.pointer (some ⟨tb, 0, none⟩)) (by simp [go_sem, hc, hf, hgl, ↓IntWalk.iteOmega, a0, callPut1, *]) rfl
      · refine relStep_plain rfl ?_
        intro Ac w5 hp
        have hb := hp.bel
        have a9 : Ac.eval (.tmp 9) = .string ⟨#[120]⟩ := hp.out 9 (by rfl)
        have hc := evalC Ac; have hf := evalF Ac; have hgl := evalG Ac
        obtain ⟨ρ, hρ⟩ : ∃ ρ, Ac.eval = ρ := ⟨_, rfl⟩
        rw [hρ] at a9 hc hf hgl
        exact relPure hρ (.string ⟨#[120]⟩) (by simp [go_sem, hc, hf, hgl, ↓IntWalk.iteOmega, a9, callPut1, *]) rfl
      · refine relStep_plain rfl ?_
        intro Ac w5 hp
        have hb := hp.bel
        have a4 : Ac.eval (.tmp 4) = .pointer (some ⟨w.heap.size, 0, none⟩) := hp.out 4 (by rfl)
        have hx5 := HX4.out.below hb HX4.out.lt
        have x0 : w5.cell? ⟨w.heap.size, 0, none⟩ = some (.int .u32 (a : Int)) := hx5.cell 0
        have x1 : w5.cell? ⟨w.heap.size, 1, none⟩ = some (.int .i64 (n : Int)) := hx5.cell 1
        have hc := evalC Ac; have hf := evalF Ac; have hgl := evalG Ac
        obtain ⟨ρ, hρ⟩ : ∃ ρ, Ac.eval = ρ := ⟨_, rfl⟩
        rw [hρ] at a4 hc hf hgl
        exact relPure hρ (.agg #[.int .u32 (a : Int), .int .i64 (n : Int)]) (by simp [go_sem, hc, hf, hgl, ↓IntWalk.iteOmega, a4, callPut1, *]) rfl
      · refine relStep_plain rfl ?_
        intro Ac w5 hp
        have hb := hp.bel
        have a2 : Ac.eval (.tmp 2) = .func (.func 70) #[] #[.pointer (some ⟨b0, 0, none⟩), .pointer (some ⟨b1, 0, none⟩), .pointer (some ⟨b5, 0, none⟩)] := hp.out 2 (by rfl)
        have hc := evalC Ac; have hf := evalF Ac; have hgl := evalG Ac
        obtain ⟨ρ, hρ⟩ : ∃ ρ, Ac.eval = ρ := ⟨_, rfl⟩
        rw [hρ] at a2 hc hf hgl
        exact relPure hρ (.func (.func 70) #[] #[.pointer (some ⟨b0, 0, none⟩), .pointer (some ⟨b1, 0, none⟩), .pointer (some ⟨b5, 0, none⟩)]) (by simp [go_sem, hc, hf, hgl, ↓IntWalk.iteOmega, a2, callPut1, *]) rfl
      · refine relStep_plain rfl ?_
        intro Ac w5 hp
        have hb := hp.bel
        have a9 : Ac.eval (.tmp 9) = .string ⟨#[120]⟩ := hp.out 9 (by rfl)
        have hc := evalC Ac; have hf := evalF Ac; have hgl := evalG Ac
        obtain ⟨ρ, hρ⟩ : ∃ ρ, Ac.eval = ρ := ⟨_, rfl⟩
        rw [hρ] at a9 hc hf hgl
        exact relPure hρ (.string ⟨#[120]⟩) (by simp [go_sem, hc, hf, hgl, ↓IntWalk.iteOmega, a9, callPut1, *]) rfl
      · refine relStep_plain rfl ?_
        intro Ac w5 hp
        have hb := hp.bel
        have a22 : Ac.eval (.tmp 22) = .func (.func 70) #[] #[.pointer (some ⟨b0, 0, none⟩), .pointer (some ⟨b1, 0, none⟩), .pointer (some ⟨b5, 0, none⟩)] := hp.dep 3 (by kernel_rfl)
        have a23 : Ac.eval (.tmp 23) = .string ⟨#[120]⟩ := hp.dep 4 (by kernel_rfl)
        have hc := evalC Ac; have hf := evalF Ac; have hgl := evalG Ac
        obtain ⟨ρ, hρ⟩ : ∃ ρ, Ac.eval = ρ := ⟨_, rfl⟩
        rw [hρ] at a22 a23 hc hf hgl
        refine relCall hρ 70 #[.string ⟨#[120]⟩, .pointer (some ⟨b0, 0, none⟩), .pointer (some ⟨b1, 0, none⟩), .pointer (some ⟨b5, 0, none⟩)] (by simp [go_sem, hc, hf, hgl, ↓IntWalk.iteOmega, a22, a23, callPut1, *]) ?_
        refine (HCl.out w5 hb).mono ?_
        rintro e w6 ⟨rfl, hb6⟩
        exact ⟨_, rfl, rfl, hb6⟩
      intro u w5 hb7 hall
      have e19 : u 0 = .pointer (some ⟨tb, 0, none⟩) := relAll_at hall (i := 0) (by decide +kernel)
      have e20 : u 1 = .string ⟨#[120]⟩ := relAll_at hall (i := 1) (by decide +kernel)
      have e21 : u 2 = .agg #[.int .u32 (a : Int), .int .i64 (n : Int)] := relAll_at hall (i := 2) (by decide +kernel)
      have e24 : u 5 = .bool false := relAll_at hall (i := 5) (by decide +kernel)
      clear hall
      simp only [List.drop_succ_cons, List.drop_zero, List.take_succ_cons, List.take_zero, putAll, Act.put, List.setIfInBounds_toArray, List.set_cons_zero, List.set_cons_succ, Nat.zero_add, Nat.reduceAdd, e19, e20, e21, e24]
      have HK5 := hide (HK4.out.below hb7)
      have HO5 := hide (own_below HO4.out hb7)
      have HC5 : Hid (ChgS (fun k => k = g) w w5) := hide (chg_trans HC4.out (chg_below (S := fun _ => False) hb7) (fun k h => h.elim))
      clear hb7 HX4 y1
      go_wp2_with fail
      refine (turnX B tb mb (some ⟨gA, 0, none⟩) c g h bb a n w5 HK5.out HPa.out).mono ?_
      rintro e w6 ⟨rfl, hb6⟩
      have HK6 := hide (HK5.out.below hb6)
      have HO6 := hide (own_below HO5.out hb6)
      have HC6 : Hid (ChgS (fun k => k = g) w w6) := hide (chg_trans HC5.out (chg_below (S := fun _ => False) hb6) (fun k h => h.elim))
      clear hb6
      go_wp2
      go_roundw
      case rel => exact .inr (.inr ⟨rfl, A', c', bb, rfl, HO6.out, HK6.out, HC6.out⟩)
      case measure => simp [intOf]
    · have HK4 := hide hw2
      have HO4 := hide ho
      have HC4 := hide hc2
      clear hw2 ho hc2 y0 y1 t4
      go_wp2
      go_ret
      exact ⟨A', c', bb, rfl, HO4.out, HK4.out, HC4.out⟩
end Go.Proofs.YtcinjckajnnhmaaGreat
set_option linter.unusedSimpArgs false
set_option linter.unusedVariables false
namespace Go.Proofs.YtcinjckajnnhmaaGreat
open Go.RowKit Go.WideShapes Go.ChangeShapes Go.Maps
attribute [local go_sem] Oper.semAt_some
theorem lst_nil_any {α : Type} {sz : Nat} {R : World → List Value → α → Prop} {w w' : World} {A : Option Addr} {n c : Nat} (h : LstAt sz R w A n c []) : LstAt sz R w' A n c [] := by
  obtain ⟨h1, h2, h3, _⟩ := h
  exact ⟨h1, h2, h3, fun hn => by simp at h1; omega⟩
theorem u32_nil_any {w w' : World} {A : Option Addr} {n c : Nat} (h : U32s w A n c []) : U32s w' A n c [] := by
  obtain ⟨h1, h2, h3, h4, _⟩ := h
  exact ⟨h1, h2, h3, h4, fun hn => by simp at h1; omega⟩
theorem mp_ne {w : World} {b n g : Nat} {D : DataW Unit} {t : TypeId} {cs : Array Value} (h : MpW w b n D) (hk : Blk w g t cs) : b ≠ g := by
  rintro rfl
  obtain ⟨es, cl, h1, _⟩ := h
  have h2 : w.heap[b]? = some (.cells cs t (0, 0)) := hk
  rw [h2] at h1
  cases h1
theorem norm0_p : (normA at0).path = [] := by rfl
theorem norm0_c : (normA at0).comms = [] := by rfl
set_option maxRecDepth 100000 in
set_option maxHeartbeats 8000000 in
theorem wput2 (B tb mb : Nat) (A : Option Addr) (c g h a n : Nat) (w : World) (hw : WT w B tb mb A 2 c [.string ⟨#[]⟩, .string ⟨#[120]⟩] (((DataW.map []).put kE (DP g)).put kX (DP h)) [g, h]) (hgh : g < h) (ha : PG a n) :
    Calls Tryz.prog 11 #[.pointer (some ⟨tb, 0, none⟩), .agg #[.int .u32 (a : Int), .int .i64 (n : Int), .int .i64 0, .int .i64 0, .slice none 0 0, .int .u32 0, .int .u32 0, .int .u32 0, .int .u32 0, .int .u32 0, .slice none 0 0, .int .u32 0, .int .u32 0, .int .u32 0, .bool false, .bool false]] w fun e w' => ∃ A' c' bb, e = .returned (.slice A' 1 c') ∧ w'.ownsRow w.heap.size 9 1 (.slice A' 1 c') 1 [.string ⟨#[]⟩] ∧ WT2 w' B tb mb A c g h bb a n ∧ ChgS (fun k => k = g) w w' := by
  obtain ⟨w1, hw1⟩ : ∃ w1, (w.alloc (.cells #[.pointer (some ⟨tb, 0, none⟩)] 31)).alloc (.cells #[.int .u32 (a : Int), .int .i64 (n : Int), .int .i64 0, .int .i64 0, .slice none 0 0, .int .u32 0, .int .u32 0, .int .u32 0, .int .u32 0, .int .u32 0, .slice none 0 0, .int .u32 0, .int .u32 0, .int .u32 0, .bool false, .bool false] 30) = w1 := ⟨_, rfl⟩
  have hb1 : Below w.heap.size w w1 := hw1 ▸ blkBelow2 w _ _
  have HT1 : Hid (Blk w1 w.heap.size 31 #[.pointer (some ⟨tb, 0, none⟩)]) := hide (hw1 ▸ (Blk.new w _ _).alloc _)
  have HR1 : Hid (Blk w1 (w.heap.size + 1) 30 #[.int .u32 (a : Int), .int .i64 (n : Int), .int .i64 0, .int .i64 0, .slice none 0 0, .int .u32 0, .int .u32 0, .int .u32 0, .int .u32 0, .int .u32 0, .slice none 0 0, .int .u32 0, .int .u32 0, .int .u32 0, .bool false, .bool false]) := hide (hw1 ▸ blk_new' _ _ (by simp))
  have HK1 := hide (hw.below hb1)
  have HGd := hide (Good_any a (n : Int) ha.1 (by omega) (by have := ha.2.1; omega))
  rw [good_pg ha] at HGd
  unfold pfx at HGd
  have HNm : Hid (∀ W, Calls Tryz.prog 68 #[.agg #[.int .i64 0, .int .i64 0, .slice none 0 0, .int .u32 0, .int .u32 0, .int .u32 0, .int .u32 0, .int .u32 0, .slice none 0 0]] W (AtP (normA at0) W)) := hide (fun W => attrNormX_any at0 _ W ⟨none, 0, 0, none, 0, 0, rfl, LstAt.none_, ⟨rfl, Nat.le_refl _, Nat.zero_le _, by simp [at0], fun h => absurd h (by omega)⟩⟩ (by simp [at0, numS]) (by simp [at0]))
  have HB1 := hide hb1
  have HW1 := hide hw1
  have Hgh := hide hgh
  have HPa := hide ha
  have Hmg := hide (mp_ne hw.mp (hw.tr g (by simp)))
  clear hw1 hb1 hw hgh ha
  have p0 : w1.cell? ⟨w.heap.size, 0, none⟩ = some (.pointer (some ⟨tb, 0, none⟩)) := HT1.out.cell 0
  have k0 : w1.cell? ⟨w.heap.size + 1, 0, none⟩ = some (.int .u32 (a : Int)) := HR1.out.cell 0
  have k1 : w1.cell? ⟨w.heap.size + 1, 1, none⟩ = some (.int .i64 (n : Int)) := HR1.out.cell 1
  have k2 : w1.cell? ⟨w.heap.size + 1, 2, none⟩ = some (.int .i64 0) := HR1.out.cell 2
  have k3 : w1.cell? ⟨w.heap.size + 1, 3, none⟩ = some (.int .i64 0) := HR1.out.cell 3
  have k4 : w1.cell? ⟨w.heap.size + 1, 4, none⟩ = some (.slice none 0 0) := HR1.out.cell 4
  have k5 : w1.cell? ⟨w.heap.size + 1, 5, none⟩ = some (.int .u32 0) := HR1.out.cell 5
  have k6 : w1.cell? ⟨w.heap.size + 1, 6, none⟩ = some (.int .u32 0) := HR1.out.cell 6
  have k7 : w1.cell? ⟨w.heap.size + 1, 7, none⟩ = some (.int .u32 0) := HR1.out.cell 7
  have k8 : w1.cell? ⟨w.heap.size + 1, 8, none⟩ = some (.int .u32 0) := HR1.out.cell 8
  have k9 : w1.cell? ⟨w.heap.size + 1, 9, none⟩ = some (.int .u32 0) := HR1.out.cell 9
  have k10 : w1.cell? ⟨w.heap.size + 1, 10, none⟩ = some (.slice none 0 0) := HR1.out.cell 10
  have k11 : w1.cell? ⟨w.heap.size + 1, 11, none⟩ = some (.int .u32 0) := HR1.out.cell 11
  have k12 : w1.cell? ⟨w.heap.size + 1, 12, none⟩ = some (.int .u32 0) := HR1.out.cell 12
  have k13 : w1.cell? ⟨w.heap.size + 1, 13, none⟩ = some (.int .u32 0) := HR1.out.cell 13
  have k14 : w1.cell? ⟨w.heap.size + 1, 14, none⟩ = some (.bool false) := HR1.out.cell 14
  have k15 : w1.cell? ⟨w.heap.size + 1, 15, none⟩ = some (.bool false) := HR1.out.cell 15
  go_enter Tryz.func11, Tryz.ntmps11
  go_wp2_with fail
  rw [HW1.out]
  refine (HGd.out _).mono ?_
  rintro e w2 ⟨rfl, hb2⟩
  have HB2 := hide (HB1.out.trans (hb2.mono HB1.out.size))
  have HT2 := hide (HT1.out.below hb2 HT1.out.lt)
  have HR2 := hide (HR1.out.below hb2 HR1.out.lt)
  have HK2 := hide (HK1.out.below hb2)
  clear p0 k0 k1 k2 k3 k4 k5 k6 k7 k8 k9 k10 k11 k12 k13 k14 k15 hb2
  have k0 : w2.cell? ⟨w.heap.size + 1, 0, none⟩ = some (.int .u32 (a : Int)) := HR2.out.cell 0
  have k1 : w2.cell? ⟨w.heap.size + 1, 1, none⟩ = some (.int .i64 (n : Int)) := HR2.out.cell 1
  have k2 : w2.cell? ⟨w.heap.size + 1, 2, none⟩ = some (.int .i64 0) := HR2.out.cell 2
  have k3 : w2.cell? ⟨w.heap.size + 1, 3, none⟩ = some (.int .i64 0) := HR2.out.cell 3
  have k4 : w2.cell? ⟨w.heap.size + 1, 4, none⟩ = some (.slice none 0 0) := HR2.out.cell 4
  have k5 : w2.cell? ⟨w.heap.size + 1, 5, none⟩ = some (.int .u32 0) := HR2.out.cell 5
  have k6 : w2.cell? ⟨w.heap.size + 1, 6, none⟩ = some (.int .u32 0) := HR2.out.cell 6
  have k7 : w2.cell? ⟨w.heap.size + 1, 7, none⟩ = some (.int .u32 0) := HR2.out.cell 7
  have k8 : w2.cell? ⟨w.heap.size + 1, 8, none⟩ = some (.int .u32 0) := HR2.out.cell 8
  have k9 : w2.cell? ⟨w.heap.size + 1, 9, none⟩ = some (.int .u32 0) := HR2.out.cell 9
  have k10 : w2.cell? ⟨w.heap.size + 1, 10, none⟩ = some (.slice none 0 0) := HR2.out.cell 10
  have k11 : w2.cell? ⟨w.heap.size + 1, 11, none⟩ = some (.int .u32 0) := HR2.out.cell 11
  have k12 : w2.cell? ⟨w.heap.size + 1, 12, none⟩ = some (.int .u32 0) := HR2.out.cell 12
  have k13 : w2.cell? ⟨w.heap.size + 1, 13, none⟩ = some (.int .u32 0) := HR2.out.cell 13
  have k14 : w2.cell? ⟨w.heap.size + 1, 14, none⟩ = some (.bool false) := HR2.out.cell 14
  have k15 : w2.cell? ⟨w.heap.size + 1, 15, none⟩ = some (.bool false) := HR2.out.cell 15
  go_wp2_with fail
  refine (HNm.out w2).mono ?_
  rintro e w3 ⟨v, rfl, ⟨A1, n1, c1, xs1, B1, m1, d1, rfl, hlo, hfr⟩, hb3⟩
  have HB3 := hide (HB2.out.trans (hb3.mono HB2.out.size))
  have HT3 := hide (HT2.out.below hb3 HT2.out.lt)
  have HR3 := hide (HR2.out.below hb3 HR2.out.lt)
  have HK3 := hide (HK2.out.below hb3)
  obtain ⟨X, hX⟩ : ∃ X, normA at0 = X := ⟨_, rfl⟩
  rw [hX] at hlo hfr ⊢
  have hXp : X.path = [] := hX ▸ norm0_p
  have hXc : X.comms = [] := hX ▸ norm0_c
  have HL : Hid (∀ W, LstAt 2 sgR W A1 n1 c1 X.path) := hide (fun W => by have h := hlo.lst (by decide); rw [hXp] at h ⊢; exact lst_nil_any h)
  have HU : Hid (∀ W, U32s W B1 m1 d1 X.comms) := hide (fun W => by have h := hfr.here; rw [hXc] at h ⊢; exact u32_nil_any h)
  have HXp := hide hXp
  have HXc := hide hXc
  clear hX hXp hXc hlo hfr k0 k1 k2 k3 k4 k5 k6 k7 k8 k9 k10 k11 k12 k13 k14 k15 hb3
  go_upto_region 4 with fail
  obtain ⟨w4, hw4⟩ : ∃ x, w3.alloc (.cells (atC X.has X.org A1 n1 c1 X.hop X.med X.pref X.aas X.aid B1 m1 d1) 28) = x := ⟨_, rfl⟩
  change Code.wp _ _ _ _ (w3.alloc (.cells (atC X.has X.org A1 n1 c1 X.hop X.med X.pref X.aas X.aid B1 m1 d1) 28))
  rw [hw4]
  have hb4 : Below w3.heap.size w3 w4 := hw4 ▸ blkBelow1 w3 _
  obtain ⟨b5, hb5⟩ : ∃ x, w3.heap.size = x := ⟨_, rfl⟩
  have HA4 : Hid (Blk w4 b5 28 (atC X.has X.org A1 n1 c1 X.hop X.med X.pref X.aas X.aid B1 m1 d1)) := hide (hb5 ▸ hw4 ▸ Blk.new w3 _ _)
  have HB4 := hide (HB3.out.trans (hb4.mono HB3.out.size))
  have HT4 := hide (HT3.out.below hb4 HT3.out.lt)
  have HR4 := hide (HR3.out.below hb4 HR3.out.lt)
  have HK4 := hide (HK3.out.below hb4)
  rw [hb5]
  clear hw4 hb4 hb5
  have HcE := hide (fun W (hb : Below w4.heap.size w4 W) => clsE w.heap.size (w.heap.size + 1) b5 tb mb a n A 2 c X A1 B1 n1 c1 m1 d1 W HXp.out HXc.out (HT4.out.below hb HT4.out.lt) (HK4.out.ft.below hb HK4.out.ft.lt) (HR4.out.below hb HR4.out.lt) (HA4.out.below hb HA4.out.lt) HL.out HU.out)
  have hne : ∀ {k : Nat} {T : TypeId} {cs : Array Value}, Blk w4 k T cs → T ≠ 192 → ¬ (k = g) := by
    rintro k T cs hb h1 rfl
    exact hb.ne_ (HK4.out.tr k (by simp)) h1 rfl
  have HcX := hide (fun W (hb : ChgS (fun k => k = g) w4 W) => clsX w.heap.size (w.heap.size + 1) b5 tb mb a n A 2 c X A1 B1 n1 c1 m1 d1 W HXp.out HXc.out (chg_blk hb HT4.out (hne HT4.out (by decide))) (chg_blk hb HK4.out.ft (hne HK4.out.ft (by decide))) (chg_blk hb HR4.out (hne HR4.out (by decide))) (chg_blk hb HA4.out (hne HA4.out (by decide))) HL.out HU.out)
  clear hne
  have p0 : w4.cell? ⟨w.heap.size, 0, none⟩ = some (.pointer (some ⟨tb, 0, none⟩)) := HT4.out.cell 0
  have k0 : w4.cell? ⟨w.heap.size + 1, 0, none⟩ = some (.int .u32 (a : Int)) := HR4.out.cell 0
  have k1 : w4.cell? ⟨w.heap.size + 1, 1, none⟩ = some (.int .i64 (n : Int)) := HR4.out.cell 1
  go_wp2_with fail
  refine (turned2 B tb mb A c g h w.heap.size (w.heap.size + 1) b5 a n w4 HK4.out Hgh.out Hmg.out HPa.out HcE.out HcX.out).mono ?_
  rintro e w6 ⟨A', c', bb, rfl, ho6, hk6, hc6⟩
  have HO6 := hide (own_baseLe ho6 HB4.out.size)
  have HK6 := hide hk6
  have HC6 : Hid (ChgS (fun k => k = g) w w6) := hide (chg_trans (chg_below (S := fun k => k = g) HB4.out) hc6 (fun k h => .inl h))
  clear ho6 hk6 hc6 p0 k0 k1
  go_wp2
  go_ret
  exact ⟨A', c', bb, rfl, HO6.out, HK6.out, HC6.out⟩
end Go.Proofs.YtcinjckajnnhmaaGreat
set_option linter.unusedSimpArgs false
set_option linter.unusedVariables false
namespace Go.Proofs.YtcinjckajnnhmaaGreat
open Go.RowKit Go.WideShapes Go.ChangeShapes Go.Maps
attribute [local go_sem] Oper.semAt_some
set_option maxRecDepth 100000 in
set_option maxHeartbeats 8000000 in
theorem lives33_any (w : World) : Calls Tryz.prog 18 #[] w (GoodP true w) := by
  obtain ⟨w1, hw1⟩ : ∃ w1, w.alloc (.cells #[.string ⟨#[]⟩, .string ⟨#[120]⟩] 9) = w1 := ⟨_, rfl⟩
  have hb1 : Below w.heap.size w w1 := hw1 ▸ blkBelow1 w _
  have HS1 : Hid (Blk w1 w.heap.size 9 #[.string ⟨#[]⟩, .string ⟨#[120]⟩]) := hide (hw1 ▸ Blk.new w _ _)
  have HB1 := hide hb1
  have HW1 := hide hw1
  clear hw1 hb1
  go_enter Tryz.func18, Tryz.ntmps18
  go_wp2_with fail
  rw [HW1.out]
  refine (wnew2 w.heap.size w1 HS1.out).mono ?_
  rintro e w2 ⟨tb, mb, B, A, c, g, h, rfl, hk2, hg2, hgh, hb2⟩
  have HB2 := hide (HB1.out.trans (hb2.mono HB1.out.size))
  have HK2 := hide hk2
  have Hg := hide (Nat.le_trans HB1.out.size hg2)
  have HPy : Hid (Calls Tryz.prog 11 #[.pointer (some ⟨tb, 0, none⟩), .agg #[.int .u32 167772160, .int .i64 8, .int .i64 0, .int .i64 0, .slice none 0 0, .int .u32 0, .int .u32 0, .int .u32 0, .int .u32 0, .int .u32 0, .slice none 0 0, .int .u32 0, .int .u32 0, .int .u32 0, .bool false, .bool false]] w2 fun e w' => ∃ A' c' bb, e = .returned (.slice A' 1 c') ∧ w'.ownsRow w2.heap.size 9 1 (.slice A' 1 c') 1 [.string ⟨#[]⟩] ∧ WT2 w' B tb mb A c g h bb 167772160 8 ∧ ChgS (fun k => k = g) w2 w') := hide (wput2 B tb mb A c g h 167772160 8 w2 hk2 hgh pg8)
  clear hk2 hg2 hgh hb2
  go_wp2_with fail
  refine HPy.out.mono ?_
  rintro e w3 ⟨A3, c3, bb, rfl, ho3, hk3, hc3⟩
  have HB3 : Hid (Below w.heap.size w w3) := hide (HB2.out.trans (chg_to_below hc3 HB2.out.size (fun k hk => by subst hk; exact Hg.out)))
  obtain ⟨gA, rfl, _, hgl, hkc, hcm, y0⟩ := own_cell (i := 0) (u := .string ⟨#[]⟩) ho3 (by omega) rfl
  have hcm2 : c3 ≤ 9223372036854775807 := by unfold maxLen at hcm; omega
  have HE := hide (holds_at tb mb A 2 c w3 hk3.ft ⟨#[]⟩ g (.nd bb 167772160 8 (some 0) .nil .nil : Tr Nat) hk3.tg hk3.ta.mem true rfl (mp_get2E hk3.mp))
  have HX := hide (holds_at tb mb A 2 c w3 hk3.ft ⟨#[120]⟩ h (.nil : Tr Nat) hk3.th trivial false rfl (mp_get2X hk3.mp))
  have HCn : Hid (Calls Tryz.prog 15 #[.pointer (some ⟨tb, 0, none⟩), .string ⟨#[]⟩] w3 fun e w' => e = .returned (.int .i64 1) ∧ w' = w3) := hide (wcount_at tb mb A 2 c w3 hk3.ft ⟨#[]⟩ g (.nd bb 167772160 8 (some 0) .nil .nil : Tr Nat) hk3.tg hk3.ta.mem (mp_get2E hk3.mp))
  clear ho3 hk3 hc3
  go_wp2_with fail
  refine HE.out.mono ?_
  rintro e w4 ⟨rfl, hq⟩
  have hq' := hq.symm
  subst hq'
  clear hq y0
  go_wp2_with fail
  refine HX.out.mono ?_
  rintro e w5 ⟨rfl, hq⟩
  have hq' := hq.symm
  subst hq'
  clear hq
  go_wp2_with fail
  refine HCn.out.mono ?_
  rintro e w6 ⟨rfl, hq⟩
  have hq' := hq.symm
  subst hq'
  clear hq
  go_wp2
  go_ret
  exact ⟨rfl, HB3.out⟩
set_option maxRecDepth 100000 in
set_option maxHeartbeats 8000000 in
theorem condNone_any (r : RT) (a : Nat) (s : ByteArray) (w : World) (hr : RtR w r) (hpa : r.pa = (a : Int)) (ha : a < 4294967296) (hl1 : -9223372036854775808 ≤ r.pl) (hl2 : r.pl ≤ 9223372036854775807) (hs : s.size ≤ maxLen) : Calls Tryz.prog 3 #[.agg (rtV r), .string s] w (GoodP true w) := by
  obtain ⟨w1, hw1⟩ : ∃ w1, w.alloc (.cells (rtV r) 30) = w1 := ⟨_, rfl⟩
  have hb1 : Below w.heap.size w w1 := hw1 ▸ blkBelow1 w _
  have HX1 : Hid (Blk w1 w.heap.size 30 (rtV r)) := hide (hw1 ▸ Blk.new w _ _)
  have HOn := hide (fun W (hb : Below w1.heap.size w1 W) => lawOne_any r W ⟨(hr.1.below sgMono hb1).below sgMono hb, (hr.2.below hb1).below hb⟩)
  have HB1 := hide hb1
  have HW1 := hide hw1
  have HPa := hide hpa
  clear hw1 hb1 hr hpa
  go_enter Tryz.func3, Tryz.ntmps3
  go_wp2_with fail
  rw [HW1.out]
  refine (wnew0 w1).mono ?_
  rintro e w2 ⟨tb, mb, rfl, ht2, hm2, hb2⟩
  have HB2 := hide (HB1.out.trans (hb2.mono HB1.out.size))
  have HX2 := hide (HX1.out.below hb2 HX1.out.lt)
  have HT2 := hide ht2
  have HM2 := hide hm2
  have HOn2 := hide (HOn.out w2 hb2)
  have HB12 := hide hb2
  clear ht2 hm2 hb2
  obtain ⟨k0, k1, k2, k3, k4, k5, k6, k7, k8, k9, k10, k11, k12, k13, k14, k15⟩ := blk16 HX2.out
  go_wp2_with fail
  refine HOn2.out.mono ?_
  rintro e w3 ⟨A3, n3, c3, B3, m3, d3, rfl, hpu, hb3⟩
  have HB3 := hide (HB2.out.trans (hb3.mono HB2.out.size))
  have HX3 := hide (HX2.out.below hb3 HX2.out.lt)
  have HT3 := hide (HT2.out.below hb3 HT2.out.lt)
  have HM3 := hide (mpw_below HM2.out hb3)
  have HB13 := hide (HB12.out.trans (hb3.mono HB12.out.size))
  have HPt := hide (wput0 tb mb (cutRT r A3 n3 c3 B3 m3 d3) a w3 HT3.out HPa.out ha hl1 hl2 ⟨hpu.lst, hpu.u32⟩ (by show numS (cutP r.at_.path) ≤ 10000; have := cutP_num r.at_.path; omega) (by show (r.at_.comms.take 260).length ≤ 10000; rw [List.length_take]; omega))
  clear hpu hb3 k0 k1 k2 k3 k4 k5 k6 k7 k8 k9 k10 k11 k12 k13 k14 k15
  go_wp2_with fail
  refine HPt.out.mono ?_
  rintro e w4 ⟨rfl, hb4⟩
  have HOn4 := hide (HOn.out w4 (HB13.out.trans (hb4.mono HB13.out.size)))
  have HB4 := hide (HB3.out.trans (hb4.mono HB3.out.size))
  have HX4 := hide (HX3.out.below hb4 HX3.out.lt)
  have HT4 := hide (HT3.out.below hb4 HT3.out.lt)
  have HM4 := hide (mpw_below HM3.out hb4)
  clear hb4
  obtain ⟨k0, k1, k2, k3, k4, k5, k6, k7, k8, k9, k10, k11, k12, k13, k14, k15⟩ := blk16 HX4.out
  go_wp2_with fail
  refine HOn4.out.mono ?_
  rintro e w5 ⟨A5, n5, c5, B5, m5, d5, rfl, _, hb5⟩
  have HB5 := hide (HB4.out.trans (hb5.mono HB4.out.size))
  have HX5 := hide (HX4.out.below hb5 HX4.out.lt)
  have HT5 := hide (HT4.out.below hb5 HT4.out.lt)
  have HM5 := hide (mpw_below HM4.out hb5)
  clear hb5 k0 k1 k2 k3 k4 k5 k6 k7 k8 k9 k10 k11 k12 k13 k14 k15
  go_wp2_with fail
  refine (wputNil (cutRT r A5 n5 c5 B5 m5 d5) _).mono ?_
  rintro e w6 ⟨rfl, hb6⟩
  have HB6 := hide (HB5.out.trans (hb6.mono HB5.out.size))
  have HX6 := hide (HX5.out.below hb6 HX5.out.lt)
  have HT6 := hide (HT5.out.below hb6 HT5.out.lt)
  have HM6 := hide (mpw_below HM5.out hb6)
  clear hb6
  obtain ⟨k0, k1, k2, k3, k4, k5, k6, k7, k8, k9, k10, k11, k12, k13, k14, k15⟩ := blk16 HX6.out
  go_wp2_with fail
  refine (wcutNil r.pa r.pl _).mono ?_
  rintro e w7 ⟨rfl, hb7⟩
  have HB7 := hide (HB6.out.trans (hb7.mono HB6.out.size))
  have HX7 := hide (HX6.out.below hb7 HX6.out.lt)
  have HT7 := hide (HT6.out.below hb7 HT6.out.lt)
  have HM7 := hide (mpw_below HM6.out hb7)
  clear hb7 k0 k1 k2 k3 k4 k5 k6 k7 k8 k9 k10 k11 k12 k13 k14 k15
  go_wp2_with fail
  refine (holdsNil s _).mono ?_
  rintro e w8 ⟨rfl, hw8⟩
  have hb8 : Below w7.heap.size w7 w8 := hw8 ▸ Below.refl _ _
  clear hw8
  have HB8 := hide (HB7.out.trans (hb8.mono HB7.out.size))
  have HX8 := hide (HX7.out.below hb8 HX7.out.lt)
  have HT8 := hide (HT7.out.below hb8 HT7.out.lt)
  have HM8 := hide (mpw_below HM7.out hb8)
  clear hb8
  go_wp2_with fail
  refine (countNil s _).mono ?_
  rintro e w9 ⟨rfl, hw9⟩
  have hb9 : Below w8.heap.size w8 w9 := hw9 ▸ Below.refl _ _
  clear hw9
  have HB9 := hide (HB8.out.trans (hb9.mono HB8.out.size))
  have HX9 := hide (HX8.out.below hb9 HX8.out.lt)
  have HT9 := hide (HT8.out.below hb9 HT8.out.lt)
  have HM9 := hide (mpw_below HM8.out hb9)
  clear hb9
  go_wp2_with fail
  refine (wwaysNil s _).mono ?_
  rintro e w10 ⟨rfl, hb10⟩
  have HB10 := hide (HB9.out.trans (hb10.mono HB9.out.size))
  have HX10 := hide (HX9.out.below hb10 HX9.out.lt)
  have HT10 := hide (HT9.out.below hb10 HT9.out.lt)
  have HM10 := hide (mpw_below HM9.out hb10)
  clear hb10
  go_wp2_with fail
  refine (namesNil _).mono ?_
  rintro e w11 ⟨rfl, hw11⟩
  have hb11 : Below w10.heap.size w10 w11 := hw11 ▸ Below.refl _ _
  clear hw11
  have HB11 := hide (HB10.out.trans (hb11.mono HB10.out.size))
  have HX11 := hide (HX10.out.below hb11 HX10.out.lt)
  have HT11 := hide (HT10.out.below hb11 HT10.out.lt)
  have HM11 := hide (mpw_below HM10.out hb11)
  clear hb11
  go_wp2_with fail
  refine (holds_nil tb mb none 0 0 w11 HT11.out s (mp_get0 HM11.out s hs)).mono ?_
  rintro e w12 ⟨rfl, hw12⟩
  have hb12 : Below w11.heap.size w11 w12 := hw12 ▸ Below.refl _ _
  clear hw12
  have HB12 := hide (HB11.out.trans (hb12.mono HB11.out.size))
  have HX12 := hide (HX11.out.below hb12 HX11.out.lt)
  have HT12 := hide (HT11.out.below hb12 HT11.out.lt)
  have HM12 := hide (mpw_below HM11.out hb12)
  clear hb12
  go_wp2_with fail
  refine (names0 tb mb w12 HT12.out).mono ?_
  rintro e w13 ⟨rfl, hw13⟩
  have hb13 : Below w12.heap.size w12 w13 := hw13 ▸ Below.refl _ _
  clear hw13
  have HB13 := hide (HB12.out.trans (hb13.mono HB12.out.size))
  have HX13 := hide (HX12.out.below hb13 HX12.out.lt)
  have HT13 := hide (HT12.out.below hb13 HT12.out.lt)
  have HM13 := hide (mpw_below HM12.out hb13)
  clear hb13
  go_wp2_with fail
  refine (lives33_any _).mono ?_
  rintro e w14 ⟨rfl, hb14⟩
  have HB14 := hide (HB13.out.trans (hb14.mono HB13.out.size))
  have HX14 := hide (HX13.out.below hb14 HX13.out.lt)
  have HT14 := hide (HT13.out.below hb14 HT13.out.lt)
  have HM14 := hide (mpw_below HM13.out hb14)
  clear hb14
  go_wp2
  go_ret
  exact ⟨rfl, HB14.out⟩
end Go.Proofs.YtcinjckajnnhmaaGreat
set_option linter.unusedSimpArgs false
set_option linter.unusedVariables false
namespace Go.Proofs.YtcinjckajnnhmaaGreat
open Go.RowKit Go.WideShapes Go.ChangeShapes
attribute [local go_sem] Oper.semAt_some
abbrev rtL (r : RT) : List Value := [.int .u32 r.pa, .int .i64 r.pl, .int .i64 r.at_.has, .int .i64 r.at_.org, .slice r.A r.n r.c, .int .u32 r.at_.hop, .int .u32 r.at_.med, .int .u32 r.at_.pref, .int .u32 r.at_.aas, .int .u32 r.at_.aid, .slice r.B r.m r.d, .int .u32 r.rp, .int .u32 r.ra, .int .u32 r.ri, .bool r.inn, .bool r.loc]
abbrev atL (h o : Int) (A : Option Addr) (n c : Nat) (hp md pf aa ai : Int) (B : Option Addr) (m d : Nat) : List Value := [.int .i64 h, .int .i64 o, .slice A n c, .int .u32 hp, .int .u32 md, .int .u32 pf, .int .u32 aa, .int .u32 ai, .slice B m d]
end Go.Proofs.YtcinjckajnnhmaaGreat
set_option linter.unusedSimpArgs false
set_option linter.unusedVariables false
namespace Go.Proofs.YtcinjckajnnhmaaGreat
open Go.RowKit Go.WideShapes Go.ChangeShapes
set_option maxRecDepth 100000 in
theorem u32s_opens {H : Type} {enc : TypeId × Value → H} {W : World} {f : Nat} {v : Value} {x : DataW H × List MemPlace} (h : DataW.trod enc Tryz.prog W 0 (fun _ => true) true f 26 [v] = some x) :
    ∃ A n c l, v = .slice A n c ∧ U32s W A n c l := by
  have h1' : ∃ A n c, v = .slice A n c := by
    rcases DataW.trod_slice Tryz.underlying26 h with ⟨e, _⟩ | ⟨a, len, cap, elems, rest, n, _, e, _⟩
    · exact ⟨none, 0, 0, by simpa using e⟩
    · exact ⟨some a, len, cap, by simpa using e⟩
  obtain ⟨A, m, c, rfl⟩ := h1'
  obtain ⟨l, hl⟩ := u32s_open (A := A) (n := m) (c := c) ⟨f, by simpa [Value.cells] using h⟩
  exact ⟨A, m, c, l, rfl, hl⟩
set_option maxRecDepth 100000 in
theorem segs_open {H : Type} {enc : TypeId × Value → H} {W : World} {A : Option Addr} {n c : Nat} {d : DataW H} {p : List MemPlace}
    (h : DataW.Trod enc Tryz.prog W 0 (fun _ => true) true 25 (.slice A n c) d p) : ∃ l : List SG, LstAt 2 sgR W A n c l := by
  obtain ⟨fuel, hf⟩ := h
  obtain ⟨A', n', c', l, e, hl⟩ := lst_open (R := sgR) (sz := 2) Tryz.underlying25 (by kernel_rfl) (by decide) (fun f cs x hx => by
    obtain ⟨z0, z1, n, _, hl, g0, g1⟩ := trod_struct2 Tryz.underlying133 hx
    have c2 : Tryz.prog.cellsOf 133 = 2 := by kernel_rfl
    have ci : Tryz.prog.cellsOf 3 = 1 := by kernel_rfl
    have cs1 : Tryz.prog.cellsOf 26 = 1 := by kernel_rfl
    rw [c2] at hl
    match cs, hl with
    | [v0, v1], _ =>
      simp only [ci, cs1, List.drop_zero, List.drop_succ_cons, List.take_succ_cons, List.take_zero] at g0 g1
      obtain ⟨k, e0, _⟩ := DataW.trod_int Tryz.underlying3 g0
      obtain ⟨A, m, c, l, rfl, hl⟩ := u32s_opens g1
      simp only [List.cons.injEq, and_true] at e0
      subst e0
      exact ⟨⟨k, l⟩, A, m, c, rfl, hl⟩) hf
  obtain ⟨rfl, rfl, rfl⟩ : A = A' ∧ n = n' ∧ c = c' := by simpa [Value.cells] using e
  exact ⟨l, hl⟩
end Go.Proofs.YtcinjckajnnhmaaGreat
set_option linter.unusedSimpArgs false
set_option linter.unusedVariables false
namespace Go.Proofs.YtcinjckajnnhmaaGreat
open Go.RowKit Go.WideShapes Go.ChangeShapes Go.ChangeAt
theorem segs_opens {H : Type} {enc : TypeId × Value → H} {W : World} {f : Nat} {v : Value} {x : DataW H × List MemPlace} (h : DataW.trod enc Tryz.prog W 0 (fun _ => true) true f 25 [v] = some x) :
    ∃ A n c l, v = .slice A n c ∧ LstAt 2 sgR W A n c l := by
  have h1' : ∃ A n c, v = .slice A n c := by
    rcases DataW.trod_slice Tryz.underlying25 h with ⟨e, _⟩ | ⟨a, len, cap, elems, rest, n, _, e, _⟩
    · exact ⟨none, 0, 0, by simpa using e⟩
    · exact ⟨some a, len, cap, by simpa using e⟩
  obtain ⟨A, m, c, rfl⟩ := h1'
  obtain ⟨l, hl⟩ := segs_open (A := A) (n := m) (c := c) ⟨f, by simpa [Value.cells] using h⟩
  exact ⟨A, m, c, l, rfl, hl⟩
set_option maxRecDepth 100000 in
set_option maxHeartbeats 4000000 in
theorem at_opens {H : Type} {enc : TypeId × Value → H} {W : World} {f : Nat} {cs : List Value} {x : DataW H × List MemPlace} (h : DataW.trod enc Tryz.prog W 0 (fun _ => true) true f 28 cs = some x) : ∃ (X : AT) (A : Option Addr) (n c : Nat) (B : Option Addr) (m d : Nat), cs = atL X.has X.org A n c X.hop X.med X.pref X.aas X.aid B m d ∧ LstAt 2 sgR W A n c X.path ∧ U32s W B m d X.comms := by
  obtain ⟨xs, f2, _, rfl, hl, hlen, hf⟩ := DataW.trod_struct Tryz.underlying28 h
  have c9 : Tryz.prog.cellsOf 28 = 9 := by kernel_rfl
  rw [c9] at hl
  match xs, hlen with
  | [y0, y1, y2, y3, y4, y5, y6, y7, y8], _ =>
  match cs, hl with
  | [v0, v1, v2, v3, v4, v5, v6, v7, v8], _ =>
    have h0 : DataW.trod enc Tryz.prog W 0 (fun _ => true) true f2 3 [v0] = some y0 := hf 0 _ rfl
    have h1 : DataW.trod enc Tryz.prog W 0 (fun _ => true) true f2 3 [v1] = some y1 := hf 1 _ rfl
    have h2 : DataW.trod enc Tryz.prog W 0 (fun _ => true) true f2 25 [v2] = some y2 := hf 2 _ rfl
    have h3 : DataW.trod enc Tryz.prog W 0 (fun _ => true) true f2 22 [v3] = some y3 := hf 3 _ rfl
    have h4 : DataW.trod enc Tryz.prog W 0 (fun _ => true) true f2 22 [v4] = some y4 := hf 4 _ rfl
    have h5 : DataW.trod enc Tryz.prog W 0 (fun _ => true) true f2 22 [v5] = some y5 := hf 5 _ rfl
    have h6 : DataW.trod enc Tryz.prog W 0 (fun _ => true) true f2 22 [v6] = some y6 := hf 6 _ rfl
    have h7 : DataW.trod enc Tryz.prog W 0 (fun _ => true) true f2 22 [v7] = some y7 := hf 7 _ rfl
    have h8 : DataW.trod enc Tryz.prog W 0 (fun _ => true) true f2 26 [v8] = some y8 := hf 8 _ rfl
    clear hf
    obtain ⟨q0, e0, _, j0⟩ := DataW.trod_int Tryz.underlying3 h0
    obtain ⟨q1, e1, _, j1⟩ := DataW.trod_int Tryz.underlying3 h1
    obtain ⟨A, n, c, pl, rfl, hP⟩ := segs_opens h2
    obtain ⟨q3, e3, _, j3⟩ := DataW.trod_int Tryz.underlying22 h3
    obtain ⟨q4, e4, _, j4⟩ := DataW.trod_int Tryz.underlying22 h4
    obtain ⟨q5, e5, _, j5⟩ := DataW.trod_int Tryz.underlying22 h5
    obtain ⟨q6, e6, _, j6⟩ := DataW.trod_int Tryz.underlying22 h6
    obtain ⟨q7, e7, _, j7⟩ := DataW.trod_int Tryz.underlying22 h7
    obtain ⟨B, m, d, cl, rfl, hC⟩ := u32s_opens h8
    simp only [List.cons.injEq, and_true] at e0 e1 e3 e4 e5 e6 e7
    subst e0 e1 e3 e4 e5 e6 e7
    exact ⟨⟨q0, q1, pl, q3, q4, q5, q6, q7, cl⟩, A, n, c, B, m, d, rfl, hP, hC⟩
end Go.Proofs.YtcinjckajnnhmaaGreat
set_option linter.unusedSimpArgs false
set_option linter.unusedVariables false
namespace Go.Proofs.YtcinjckajnnhmaaGreat
open Go.RowKit Go.WideShapes Go.ChangeShapes Go.ChangeAt
set_option maxRecDepth 100000 in
set_option maxHeartbeats 4000000 in
theorem pf_opensR {H : Type} {enc : TypeId × Value → H} {W : World} {f : Nat} {cs : List Value} {x : DataW H × List MemPlace} (h : DataW.trod enc Tryz.prog W 0 (fun _ => true) true f 24 cs = some x) : ∃ (a : Nat) (b : Int), cs = [.int .u32 (a : Int), .int .i64 b] ∧ a < 4294967296 ∧ -9223372036854775808 ≤ b ∧ b ≤ 9223372036854775807 := by
  obtain ⟨xs, f2, _, rfl, hl, hlen, hf⟩ := DataW.trod_struct Tryz.underlying24 h
  have c9 : Tryz.prog.cellsOf 24 = 2 := by kernel_rfl
  rw [c9] at hl
  match xs, hlen with
  | [y0, y1], _ =>
  match cs, hl with
  | [v0, v1], _ =>
    have h0 : DataW.trod enc Tryz.prog W 0 (fun _ => true) true f2 22 [v0] = some y0 := hf 0 _ rfl
    have h1 : DataW.trod enc Tryz.prog W 0 (fun _ => true) true f2 3 [v1] = some y1 := hf 1 _ rfl
    clear hf
    obtain ⟨q0, e0, _, j0⟩ := DataW.trod_int Tryz.underlying22 h0
    obtain ⟨q1, e1, _, j1⟩ := DataW.trod_int Tryz.underlying3 h1
    simp only [List.cons.injEq, and_true] at e0 e1
    subst e0 e1
    have b0 : 0 ≤ q0 ∧ q0 ≤ 4294967295 := by simpa [Lit.wf, IntKind.min, IntKind.max, IntKind.signed, IntKind.bits] using j0
    have b1 : -9223372036854775808 ≤ q1 ∧ q1 ≤ 9223372036854775807 := by simpa [Lit.wf, IntKind.min, IntKind.max, IntKind.signed, IntKind.bits] using j1
    obtain ⟨a, rfl⟩ := Int.eq_ofNat_of_zero_le b0.1
    exact ⟨a, q1, rfl, by omega, b1.1, b1.2⟩
set_option maxRecDepth 100000 in
set_option maxHeartbeats 4000000 in
theorem rt_opensR {H : Type} {enc : TypeId × Value → H} {W : World} {f : Nat} {cs : List Value} {x : DataW H × List MemPlace} (h : DataW.trod enc Tryz.prog W 0 (fun _ => true) true f 30 cs = some x) : ∃ (r : RT) (a : Nat), cs = rtL r ∧ RtR W r ∧ r.pa = (a : Int) ∧ a < 4294967296 ∧ -9223372036854775808 ≤ r.pl ∧ r.pl ≤ 9223372036854775807 := by
  obtain ⟨xs, f2, _, rfl, hl, hlen, hf⟩ := DataW.trod_struct Tryz.underlying30 h
  have c9 : Tryz.prog.cellsOf 30 = 16 := by kernel_rfl
  have cP : Tryz.prog.cellsOf 24 = 2 := by kernel_rfl
  have cA : Tryz.prog.cellsOf 28 = 9 := by kernel_rfl
  rw [c9] at hl
  match xs, hlen with
  | [y0, y1, y2, y3, y4, y5, y6], _ =>
  match cs, hl with
  | [v0, v1, v2, v3, v4, v5, v6, v7, v8, v9, v10, v11, v12, v13, v14, v15], _ =>
    have h0 : DataW.trod enc Tryz.prog W 0 (fun _ => true) true f2 24 [v0, v1] = some y0 := hf 0 _ rfl
    have h1 : DataW.trod enc Tryz.prog W 0 (fun _ => true) true f2 28 [v2, v3, v4, v5, v6, v7, v8, v9, v10] = some y1 := hf 1 _ rfl
    have h2 : DataW.trod enc Tryz.prog W 0 (fun _ => true) true f2 22 [v11] = some y2 := hf 2 _ rfl
    have h3 : DataW.trod enc Tryz.prog W 0 (fun _ => true) true f2 22 [v12] = some y3 := hf 3 _ rfl
    have h4 : DataW.trod enc Tryz.prog W 0 (fun _ => true) true f2 22 [v13] = some y4 := hf 4 _ rfl
    have h5 : DataW.trod enc Tryz.prog W 0 (fun _ => true) true f2 4 [v14] = some y5 := hf 5 _ rfl
    have h6 : DataW.trod enc Tryz.prog W 0 (fun _ => true) true f2 4 [v15] = some y6 := hf 6 _ rfl
    clear hf
    obtain ⟨q2, e2, _, j2⟩ := DataW.trod_int Tryz.underlying22 h2
    obtain ⟨q3, e3, _, j3⟩ := DataW.trod_int Tryz.underlying22 h3
    obtain ⟨q4, e4, _, j4⟩ := DataW.trod_int Tryz.underlying22 h4
    obtain ⟨q5, e5, _⟩ := DataW.trod_bool Tryz.underlying4 h5
    obtain ⟨q6, e6, _⟩ := DataW.trod_bool Tryz.underlying4 h6
    simp only [List.cons.injEq, and_true] at e2 e3 e4 e5 e6
    subst e2 e3 e4 e5 e6
    obtain ⟨pa, pl, ep, w1, w2, w3⟩ := pf_opensR h0
    obtain ⟨X, A, n, c, B, m, d, ea, hP, hC⟩ := at_opens h1
    simp only [List.cons.injEq, and_true] at ep ea
    obtain ⟨rfl, rfl⟩ := ep
    obtain ⟨rfl, rfl, rfl, rfl, rfl, rfl, rfl, rfl, rfl⟩ := ea
    exact ⟨⟨(pa : Int), pl, X, A, n, c, B, m, d, q2, q3, q4, q5, q6⟩, pa, rfl, ⟨hP, hC⟩, rfl, w1, w2, w3⟩
set_option maxRecDepth 100000 in
theorem rt_openR {H : Type} {enc : TypeId × Value → H} {W : World} {r0 : Reach} {b0 : Nat} {v : Value} {d0 : DataW H} {p0 : List MemPlace} (hv : Value.okWide Tryz.prog W r0 b0 30 v)
    (h : DataW.Trod enc Tryz.prog W 0 (fun _ => true) true 30 v d0 p0) : ∃ (r : RT) (a : Nat), v = .agg (rtV r) ∧ RtR W r ∧ r.pa = (a : Int) ∧ a < 4294967296 ∧ -9223372036854775808 ≤ r.pl ∧ r.pl ≤ 9223372036854775807 := by
  obtain ⟨cs, rfl, hsz⟩ := okWide_struct Tryz.underlying30 hv
  obtain ⟨fuel, hf⟩ := h
  obtain ⟨r, a, e, hr⟩ := rt_opensR hf
  have e3 : cs = (rtL r).toArray := by
    have e2 : cs.toList = _ := e
    rw [← e2]
  exact ⟨r, a, by rw [e3], hr⟩
end Go.Proofs.YtcinjckajnnhmaaGreat
