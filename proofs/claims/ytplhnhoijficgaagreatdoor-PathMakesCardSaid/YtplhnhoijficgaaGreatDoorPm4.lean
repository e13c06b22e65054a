import Derived.Test.YtplhnhoijficgaaGreatDoorPm3
import Derived.WalkKit
import Derived.ProofKit
import Derived.OpenShut
import Derived.Below
import Derived.Laws.OwnMore
import Derived.Laws.Rows
import Derived.Laws.MakeOwn
import Derived.Deep.AppendLies
import Derived.Deep.Draws
import Derived.Deep.OwnRows
import Derived.Deep.QuietTactic
import Derived.Maps.AppendAt
import Derived.RegionTactic
import Derived.OwnWalk
import Derived.ChangeSame
import Derived.Outline
import Derived.BigQuiet
import Derived.WalkMore
import Derived.ScopeJumps
import Derived.WalkLawsBesides
import Derived.WalkSpells
import Derived.Laws.BitsLemmas
import Derived.Laws.BitsAllLaws
import Derived.Deep.Quiet
import Derived.Deep.Slices
import Derived.WideKeyArgs
import Derived.Deep.DeepHandedRow
import Derived.Deep.DeepWitnessRowRef
import Derived.Lib.LaidTab
import Derived.Lib.AppendIntMem
import Derived.LaidMore
import Derived.MakeChecks
import Derived.Lib.Itoa
import Derived.Lib.ItoaMem
import Derived.BigRegion
import Derived.Orders
import Derived.OrdersIn
import Derived.RangeFuncCalls
import Derived.Shelf.RegionOpen
import Derived.Lib.PathFns
import Derived.Lib.IndexBytes
import Derived.RangeFuncWrites
import Derived.RangeFuncNested
import Derived.RangeFuncBound
import Derived.RangeFuncLeaves
import Derived.RangeFuncBox
import Derived.Shelf.Abstract
import Derived.OwnWalkIn
import Derived.TacticsInMore
import Derived.LoopNIn
import Derived.LoopIn
import Derived.Lib.SmallJoins
import Derived.Lib.ParseIntBCases
import Derived.Lib.IndexMore
import Derived.Shelf.Vars
import Derived.Lib.AtoiAllCases
import Derived.SliceStrings
import Derived.Deep.RegionLaw
import Derived.Sort.LotA
import Derived.StillTailTactics
import Derived.BigRegionIn
import Derived.Deep.RegionHeld3
import Derived.RangeFuncOwn
import Derived.Sort.WalkA6
import Derived.Sort.WalkB3
import Derived.Sort.WalkC4
import Derived.Sort.WalkA14
import Derived.Sort.Walk11
import Derived.Sort.Walk7
import Derived.Sort.Walk13
import Derived.Sort.Row
import Derived.Lib.Walk
import Derived.Lib.Strings
import Derived.BigGuard
import Derived.BigCall
import Derived.CellFam
import Derived.Deep.LoopGhost
import Derived.Sort.LotC
import Derived.Deep.RegionWith
import Derived.RowKit
import Derived.Sort.LotD3
import Derived.Sort.LotD4
import Derived.Sort.Grow
import Derived.Sort.AtCall
import Derived.Sort.LotD5
import Derived.Laws.Bits64
import Derived.Laws.Bits64b
import Derived.Sort.EncStr
import Derived.Sort.LotD1
import Derived.Sort.LotB
import Derived.Deep.Cut
import Derived.Sort.Walk13a
import Derived.Sort.AssemblyPlain
import Derived.Shelf.Spec.SlicesInsertGrow
import Derived.Deep.MidRow
import Derived.Lib.RowBridge
import Derived.Laws.CopyOwn
import Derived.Lib.AppendZerosOnto
import Derived.Lib.SlTrimSet
set_option linter.unusedSimpArgs false
set_option linter.unusedVariables false
namespace Go.Proofs.YtplhnhoijficgaaGreatDoor
open Go.RowKit Go.WideShapes Go.ChangeShapes
attribute [local go_sem] Oper.semAt_some
/-- What the reference's functions hand back: a row of one's own, its numbers wherever they lie. -/
def RefP (l : List SG) (w : World) (e : Ending) (w' : World) : Prop := ∃ A n c xs, e = .returned (.slice A n c) ∧ LOw 2 36 sgR w' w.heap.size 0 A n c l xs ∧ Below w.heap.size w w'
theorem low_lit (w : World) : LOw 2 36 sgR (w.alloc (.cells #[] 36)) w.heap.size 0 (some ⟨w.heap.size, 0, none⟩) 0 0 [] [] :=
  ⟨w.ownsRow_lit #[] 0 (Nat.le_refl _) (by unfold maxLen; omega) rfl, by simp, fun k x hk => by simp at hk⟩
theorem u32_one {w : World} {x : Nat} (hx : x < 4294967296) : U32s (w.alloc (.cells #[.int .u32 (x : Int)] 29)) (some ⟨w.heap.size, 0, none⟩) 1 1 [x] := ⟨rfl, Nat.le_refl _, by unfold maxLen; omega, by simpa using hx, fun _ => ⟨w.heap.size, 0, rfl, by simp, fun k y hy => by
    have hk : k = 0 := by have := (List.getElem?_eq_some_iff.1 hy).1; simpa using this
    subst hk
    simp only [List.getElem?_cons_zero, Option.some.injEq] at hy
    subst hy
    exact (Blk.new w 29 #[.int .u32 (x : Int)]).cell 0⟩⟩
set_option maxRecDepth 100000 in
set_option maxHeartbeats 4000000 in
theorem refputS_any (A : Option Addr) (n c x : Nat) (l : List SG) (w : World) (h : LstAt 2 sgR w A n c l) (hx : x < 4294967296) (hn : n ≤ 20000) :
    Calls Tryz.prog 17 #[.slice A n c, .int .u32 (x : Int)] w (RefP (putS l x) w) := by
  obtain ⟨i0, hi, hz0, hz1, hz2⟩ := info_parts segInfo
  obtain ⟨j0, hj, hy0, hy1, hy2⟩ := info_parts info32
  have hnc := h.2.1
  have hmx := h.2.2.1
  unfold maxLen at hmx
  have HLs := hide h
  -- behind: all of l, and a segment of its own
  have HL0 := hide (low_lit w)
  have HB0 : Hid (Below w.heap.size w (w.alloc (.cells #[] 36))) := hide ((Below.refl _ w).alloc (Nat.le_refl _) _)
  have tailp : ∀ (hlast : ∀ y, l.getLast? = some y → ¬ (y.k = 2 ∧ y.r.length < 255)), putS l x = l ++ [⟨2, [x]⟩] := fun hlast => by
    unfold putS
    cases hl : l.getLast? with
    | none => rw [List.getLast?_eq_none_iff] at hl; subst hl; rfl
    | some y => simp only; rw [if_neg (hlast y hl)]
  by_cases h0 : n = 0
  · subst h0
    have HP : Hid (putS l x = l ++ [⟨2, [x]⟩]) := hide (tailp (by rw [List.eq_nil_of_length_eq_zero h.1]; intro y hy; simp at hy))
    obtain ⟨ys, hs⟩ := seg_src h
    obtain ⟨hr, hch, ho⟩ := hs _ HB0.out (.slice (some ⟨w.heap.size, 0, none⟩) 0 0) (fun k hk => by cases hk; exact Nat.le_refl _)
    have HRd := hide hr
    have HCh := hide hch
    have HOn := hide ho
    clear h tailp hr hch ho hs
    go_enter Tryz.func17, Tryz.ntmps17
    go_wp2_with (at_builtin; refine wpList_append_any _ rfl (.tmp 48) (.tmp 49) 22 rfl w.heap.size 36 i0 _ 2 32 Tryz.underlying22 hi hz0 hz1 hz2 rfl (by decide) (.slice (some ⟨w.heap.size, 0, none⟩) 0 0) 0 [] rfl HL0.out.1 _ A 0 c ys rfl HRd.out HOn.out (by unfold maxLen; omega) (by omega) (by simp) ?_; intro v' w7 g2 g3 g4; refine Hid.out (?_ : Hid _))
    obtain ⟨A7, c7, rfl, hlo7⟩ := LOw.push HL0.out HCh.out g2 g3 g4
    simp only [Nat.zero_add, List.nil_append] at hlo7
    have HL7 := hide hlo7
    have HB7 := hide (HB0.out.grown g3 (by simp) (fun k hk => by cases hk; exact Nat.le_refl _))
    have hs7 := HB7.out.size
    have HOb : Hid (∀ z, (Value.slice A7 0 c7).ownBlock = some z → z < w7.heap.size) := hide (own_block_lt hlo7.1)
    simp only [Nat.zero_add]
    clear g2 g3 g4 hlo7
    have hbc : Below w7.heap.size w7 ((w7.alloc (.cells #[.int .u32 (x : Int)] 29)).alloc (.cells #[.int .i64 2, .slice (some ⟨w7.heap.size, 0, none⟩) 1 1] 36)) := ((Below.refl _ w7).alloc (Nat.le_refl _) _).alloc (by simp) _
    have HLc := hide (HL7.out.below hbc)
    have HU : Hid (U32s ((w7.alloc (.cells #[.int .u32 (x : Int)] 29)).alloc (.cells #[.int .i64 2, .slice (some ⟨w7.heap.size, 0, none⟩) 1 1] 36)) (some ⟨w7.heap.size, 0, none⟩) 1 1 [x]) := hide ((u32_one hx).below ((Below.refl _ _).alloc (Nat.le_refl _) _))
    have HBk : Hid (Blk ((w7.alloc (.cells #[.int .u32 (x : Int)] 29)).alloc (.cells #[.int .i64 2, .slice (some ⟨w7.heap.size, 0, none⟩) 1 1] 36)) (w7.heap.size + 1) 36 #[.int .i64 2, .slice (some ⟨w7.heap.size, 0, none⟩) 1 1]) := hide (blk_new' _ _ (by simp))
    have HBc := hide (HB7.out.trans (hbc.mono hs7))
    have hsc : w7.heap.size + 2 = ((w7.alloc (.cells #[.int .u32 (x : Int)] 29)).alloc (.cells #[.int .i64 2, .slice (some ⟨w7.heap.size, 0, none⟩) 1 1] 36)).heap.size := by simp
    clear hbc
    refine hide ?_
    go_wp2_with (at_builtin; refine wpList_append_any _ rfl (.tmp 50) (.tmp 54) 22 rfl w.heap.size 36 i0 _ 2 32 Tryz.underlying22 hi hz0 hz1 hz2 rfl (by decide) (.slice A7 0 c7) 0 ys rfl HLc.out.1 _ (some ⟨w7.heap.size + 1, 0, none⟩) 1 1 [.int .i64 2, .slice (some ⟨w7.heap.size, 0, none⟩) 1 1] rfl (reads_blkN HBk.out HBk.out.lt rfl rfl) (by simp [Value.oneCell']) (by unfold maxLen; omega) (by omega) (by omega) ?_; intro v' w8 g2 g3 g4; obtain ⟨A8, c8, rfl, hlo8⟩ := LOw.push HLc.out (chunk1_fr rfl (sg_fr' HU.out (fun _ a ha => by cases ha; exact ⟨Nat.zero_le _, fun e => by have := HOb.out _ e.symm; simp at this⟩))) g2 g3 g4; have HL8 := hide hlo8; have HB8 := hide (HBc.out.grown g3 (by omega) (fun k hk => own_low_block HL7.out.1 k hk)); clear hlo8 g2 g3 g4)
    go_ret
    exact ⟨A8, 0 + 1, c8, _, rfl, by rw [HP.out]; exact HL8.out, HB8.out⟩
  · obtain ⟨k, rfl⟩ : ∃ k, n = k + 1 := ⟨n - 1, by omega⟩
    obtain ⟨g, o, b, B, m, d, r, rfl, hg, hxl, hr0, hc0, hc1⟩ := SGat h (k := k) (by omega)
    have hll : l.getLast? = some ⟨b, r⟩ := by rw [List.getLast?_eq_getElem?, h.1]; simpa using hxl
    have hrl : r.length = m := hr0.1
    have hwk : IntKind.i64.wrap (k : Int) = (k : Int) := by rw [IntKind.wrap_i64]; omega
    have hwk1 : IntKind.i64.wrap ((k : Int) + 1 - 1) = (k : Int) := by rw [IntKind.wrap_i64]; omega
    have hk0 : decide (0 ≤ (k : Int)) = true := decide_eq_true (by omega)
    have hkk : (k : Int) < ((k + 1 : Nat) : Int) := by omega
    by_cases hb : b = 2
    · subst hb
      by_cases hm : m < 255
      · have dm : decide ((m : Int) < 255) = true := decide_eq_true (by omega)
        have HP : Hid (putS l x = l.take k ++ [⟨2, r ++ [x]⟩]) := hide (by
          unfold putS
          rw [hll]
          simp only
          rw [if_pos (by first | exact ⟨trivial, by omega⟩ | exact ⟨rfl, by omega⟩)]
          congr 1
          rw [List.dropLast_eq_take, h.1]
          rfl)
        obtain ⟨ys, hs⟩ := seg_src (h.take_ (m := k) (by omega))
        obtain ⟨hr, hch, ho⟩ := hs _ HB0.out (.slice (some ⟨w.heap.size, 0, none⟩) 0 0) (fun k hk => by cases hk; exact Nat.le_refl _)
        have HRd := hide hr
        have HCh := hide hch
        have HOn := hide ho
        clear h tailp hr hch ho hs hll hxl
        go_enter Tryz.func17, Tryz.ntmps17
        go_wp2_with (at_builtin; refine wpList_append_any _ rfl (.tmp 29) (.tmp 32) 22 rfl w.heap.size 36 i0 _ 2 32 Tryz.underlying22 hi hz0 hz1 hz2 rfl (by decide) (.slice (some ⟨w.heap.size, 0, none⟩) 0 0) 0 [] rfl HL0.out.1 _ (some ⟨g, o, none⟩) k c ys rfl HRd.out HOn.out (by unfold maxLen; omega) (by omega) (by simp) ?_; intro v' w7 g2 g3 g4; refine Hid.out (?_ : Hid _))
        obtain ⟨A7, c7, rfl, hlo7⟩ := LOw.push HL0.out HCh.out g2 g3 g4
        simp only [Nat.zero_add, List.nil_append] at hlo7
        have HL7 := hide hlo7
        have HB7 := hide (HB0.out.grown g3 (by simp) (fun k hk => by cases hk; exact Nat.le_refl _))
        have hs7 := HB7.out.size
        have HOb : Hid (∀ z, (Value.slice A7 k c7).ownBlock = some z → z < w7.heap.size) := hide (own_block_lt hlo7.1)
        simp only [Nat.zero_add]
        clear g2 g3 g4 hlo7
        have HU0 : Hid (U32s (w7.alloc (.cells #[] 29)) B m d r) := hide ((hr0.below HB7.out).below ((Below.refl _ _).alloc (Nat.le_refl _) _))
        have HO0 : Hid ((w7.alloc (.cells #[] 29)).ownsRow w7.heap.size 29 1 (.slice (some ⟨w7.heap.size, 0, none⟩) 0 0) 0 []) := hide (w7.ownsRow_lit #[] 0 (Nat.le_refl _) (by unfold maxLen; omega) rfl)
        have HB1 : Hid (Below w7.heap.size w7 (w7.alloc (.cells #[] 29))) := hide ((Below.refl _ w7).alloc (Nat.le_refl _) _)
        have k0' : w7.cell? ⟨g, o + k * 2 + 1, none⟩ = some (.slice B m d) := (HB7.out.cell hg).trans hc1
        have hg7 : g < w7.heap.size := by omega
        refine hide ?_
        go_wp2_with (at_builtin; refine wpList_append_any _ rfl (.tmp 35) (.tmp 40) 24 rfl w7.heap.size 29 j0 _ 1 4 Tryz.underlying24 hj hy0 hy1 hy2 rfl (by decide) (.slice (some ⟨w7.heap.size, 0, none⟩) 0 0) 0 [] rfl HO0.out _ B m d (u32c r) rfl HU0.out.reads (u32c_one _) (by unfold maxLen; omega) (by omega) (by simp) ?_; intro v' w8 g2 g3 g4; refine Hid.out (?_ : Hid _))
        simp only [Nat.zero_add, List.nil_append] at g2
        obtain ⟨A9, c9, rfl⟩ := own_slice g2
        have HO9 := hide g2
        have HB8 := hide (HB1.out.grown g3 (by simp) (fun k hk => by cases hk; exact Nat.le_refl _))
        have hs8 := HB8.out.size
        have HB2 : Hid (Below w7.heap.size w7 (w8.alloc (.cells #[.int .u32 (x : Int)] 29))) := hide (HB8.out.alloc hs8 _)
        have HO10 : Hid ((w8.alloc (.cells #[.int .u32 (x : Int)] 29)).ownsRow w7.heap.size 29 1 (.slice A9 m c9) m (u32c r)) := hide (g2.alloc _)
        have HX : Hid (U32s (w8.alloc (.cells #[.int .u32 (x : Int)] 29)) (some ⟨w8.heap.size, 0, none⟩) 1 1 [x]) := hide (u32_one hx)
        have hsw2 : (w8.alloc (.cells #[.int .u32 (x : Int)] 29)).heap.size = w8.heap.size + 1 := by simp
        clear g2 g3 g4
        refine hide ?_
        go_wp2_with (at_builtin; refine wpList_append_any _ rfl (.tmp 41) (.tmp 43) 24 rfl w7.heap.size 29 j0 _ 1 4 Tryz.underlying24 hj hy0 hy1 hy2 rfl (by decide) (.slice A9 m c9) m (u32c r) rfl HO10.out _ (some ⟨w8.heap.size, 0, none⟩) 1 1 (u32c [x]) rfl HX.out.reads (u32c_one _) (by unfold maxLen; omega) (by omega) (by omega) ?_; intro v' w9 g2 g3 g4; refine Hid.out (?_ : Hid _))
        rw [← u32c_app] at g2
        obtain ⟨A10, c10, rfl⟩ := own_slice g2
        have HB9 := hide (HB2.out.grown g3 (by omega) (fun k hk => own_low_block HO10.out k hk))
        have hs9 := HB9.out.size
        have HU3 : Hid (U32s (w9.alloc (.cells #[.int .i64 2, .slice A10 (m + 1) c10] 36)) A10 (m + 1) c10 (r ++ [x])) := hide ((U32s.of_own g2 (fun y hy => by rcases List.mem_append.1 hy with hy | hy; exact hr0.2.2.2.1 y hy; rw [List.mem_singleton.1 hy]; exact hx)).below ((Below.refl _ _).alloc (Nat.le_refl _) _))
        have HLow : Hid (∀ a, A10 = some a → w7.heap.size ≤ a.block) := hide (fun a ha => own_low_block g2 a.block (by rw [ha]; rfl))
        have HB3 := hide (HB9.out.alloc hs9 (.cells #[.int .i64 2, .slice A10 (m + 1) c10] 36))
        have HLc := hide (HL7.out.below HB3.out)
        have HBk : Hid (Blk (w9.alloc (.cells #[.int .i64 2, .slice A10 (m + 1) c10] 36)) w9.heap.size 36 #[.int .i64 2, .slice A10 (m + 1) c10]) := hide (Blk.new w9 _ _)
        have HBc := hide (HB7.out.trans (HB3.out.mono hs7))
        have hsw3 : (w9.alloc (.cells #[.int .i64 2, .slice A10 (m + 1) c10] 36)).heap.size = w9.heap.size + 1 := by simp
        clear g2 g3 g4
        refine hide ?_
        go_wp2_with (at_builtin; refine wpList_append_any _ rfl (.tmp 34) (.tmp 46) 22 rfl w.heap.size 36 i0 _ 2 32 Tryz.underlying22 hi hz0 hz1 hz2 rfl (by decide) (.slice A7 k c7) k ys rfl HLc.out.1 _ (some ⟨w9.heap.size, 0, none⟩) 1 1 [.int .i64 2, .slice A10 (m + 1) c10] rfl (reads_blkN HBk.out HBk.out.lt rfl rfl) (by simp [Value.oneCell']) (by unfold maxLen; omega) (by omega) (by omega) ?_; intro v' w11 g2 g3 g4; obtain ⟨A8, c8, rfl, hlo8⟩ := LOw.push HLc.out (chunk1_fr rfl (sg_fr' HU3.out (fun _ a ha => ⟨Nat.zero_le _, fun e => by have := HOb.out _ e.symm; have := HLow.out a ha; omega⟩))) g2 g3 g4; have HL8 := hide hlo8; have HB12 := hide (HBc.out.grown g3 (by omega) (fun k hk => own_low_block HL7.out.1 k hk)); clear hlo8 g2 g3 g4)
        go_ret
        exact ⟨A8, k + 1, c8, _, rfl, by rw [HP.out]; exact HL8.out, HB12.out⟩
      · have dm : decide ((m : Int) < 255) = false := decide_eq_false (by omega)
        have HP : Hid (putS l x = l ++ [⟨2, [x]⟩]) := hide (tailp (by rw [hll]; intro y hy; cases hy; simp only; omega))
        obtain ⟨ys, hs⟩ := seg_src h
        obtain ⟨hr, hch, ho⟩ := hs _ HB0.out (.slice (some ⟨w.heap.size, 0, none⟩) 0 0) (fun k hk => by cases hk; exact Nat.le_refl _)
        have HRd := hide hr
        have HCh := hide hch
        have HOn := hide ho
        clear h tailp hr hch ho hs hll hxl
        go_enter Tryz.func17, Tryz.ntmps17
        go_wp2_with (at_builtin; refine wpList_append_any _ rfl (.tmp 48) (.tmp 49) 22 rfl w.heap.size 36 i0 _ 2 32 Tryz.underlying22 hi hz0 hz1 hz2 rfl (by decide) (.slice (some ⟨w.heap.size, 0, none⟩) 0 0) 0 [] rfl HL0.out.1 _ (some ⟨g, o, none⟩) (k + 1) c ys rfl HRd.out HOn.out (by unfold maxLen; omega) (by omega) (by simp) ?_; intro v' w7 g2 g3 g4; refine Hid.out (?_ : Hid _))
        obtain ⟨A7, c7, rfl, hlo7⟩ := LOw.push HL0.out HCh.out g2 g3 g4
        simp only [Nat.zero_add, List.nil_append] at hlo7
        have HL7 := hide hlo7
        have HB7 := hide (HB0.out.grown g3 (by simp) (fun k hk => by cases hk; exact Nat.le_refl _))
        have hs7 := HB7.out.size
        have HOb : Hid (∀ z, (Value.slice A7 (k + 1) c7).ownBlock = some z → z < w7.heap.size) := hide (own_block_lt hlo7.1)
        simp only [Nat.zero_add]
        clear g2 g3 g4 hlo7
        have hbc : Below w7.heap.size w7 ((w7.alloc (.cells #[.int .u32 (x : Int)] 29)).alloc (.cells #[.int .i64 2, .slice (some ⟨w7.heap.size, 0, none⟩) 1 1] 36)) := ((Below.refl _ w7).alloc (Nat.le_refl _) _).alloc (by simp) _
        have HLc := hide (HL7.out.below hbc)
        have HU : Hid (U32s ((w7.alloc (.cells #[.int .u32 (x : Int)] 29)).alloc (.cells #[.int .i64 2, .slice (some ⟨w7.heap.size, 0, none⟩) 1 1] 36)) (some ⟨w7.heap.size, 0, none⟩) 1 1 [x]) := hide ((u32_one hx).below ((Below.refl _ _).alloc (Nat.le_refl _) _))
        have HBk : Hid (Blk ((w7.alloc (.cells #[.int .u32 (x : Int)] 29)).alloc (.cells #[.int .i64 2, .slice (some ⟨w7.heap.size, 0, none⟩) 1 1] 36)) (w7.heap.size + 1) 36 #[.int .i64 2, .slice (some ⟨w7.heap.size, 0, none⟩) 1 1]) := hide (blk_new' _ _ (by simp))
        have HBc := hide (HB7.out.trans (hbc.mono hs7))
        have hsc : w7.heap.size + 2 = ((w7.alloc (.cells #[.int .u32 (x : Int)] 29)).alloc (.cells #[.int .i64 2, .slice (some ⟨w7.heap.size, 0, none⟩) 1 1] 36)).heap.size := by simp
        clear hbc
        refine hide ?_
        go_wp2_with (at_builtin; refine wpList_append_any _ rfl (.tmp 50) (.tmp 54) 22 rfl w.heap.size 36 i0 _ 2 32 Tryz.underlying22 hi hz0 hz1 hz2 rfl (by decide) (.slice A7 (k + 1) c7) (k + 1) ys rfl HLc.out.1 _ (some ⟨w7.heap.size + 1, 0, none⟩) 1 1 [.int .i64 2, .slice (some ⟨w7.heap.size, 0, none⟩) 1 1] rfl (reads_blkN HBk.out HBk.out.lt rfl rfl) (by simp [Value.oneCell']) (by unfold maxLen; omega) (by omega) (by omega) ?_; intro v' w8 g2 g3 g4; obtain ⟨A8, c8, rfl, hlo8⟩ := LOw.push HLc.out (chunk1_fr rfl (sg_fr' HU.out (fun _ a ha => by cases ha; exact ⟨Nat.zero_le _, fun e => by have := HOb.out _ e.symm; simp at this⟩))) g2 g3 g4; have HL8 := hide hlo8; have HB8 := hide (HBc.out.grown g3 (by omega) (fun k hk => own_low_block HL7.out.1 k hk)); clear hlo8 g2 g3 g4)
        go_ret
        exact ⟨A8, (k + 1) + 1, c8, _, rfl, by rw [HP.out]; exact HL8.out, HB8.out⟩
    · have e2 : (b == 2) = false := by simpa using hb
      have HP : Hid (putS l x = l ++ [⟨2, [x]⟩]) := hide (tailp (by rw [hll]; intro y hy; cases hy; simp only; exact fun h2 => hb h2.1))
      obtain ⟨ys, hs⟩ := seg_src h
      obtain ⟨hr, hch, ho⟩ := hs _ HB0.out (.slice (some ⟨w.heap.size, 0, none⟩) 0 0) (fun k hk => by cases hk; exact Nat.le_refl _)
      have HRd := hide hr
      have HCh := hide hch
      have HOn := hide ho
      clear h tailp hr hch ho hs hll hxl hb
      go_enter Tryz.func17, Tryz.ntmps17
      go_wp2_with (at_builtin; refine wpList_append_any _ rfl (.tmp 48) (.tmp 49) 22 rfl w.heap.size 36 i0 _ 2 32 Tryz.underlying22 hi hz0 hz1 hz2 rfl (by decide) (.slice (some ⟨w.heap.size, 0, none⟩) 0 0) 0 [] rfl HL0.out.1 _ (some ⟨g, o, none⟩) (k + 1) c ys rfl HRd.out HOn.out (by unfold maxLen; omega) (by omega) (by simp) ?_; intro v' w7 g2 g3 g4; refine Hid.out (?_ : Hid _))
      obtain ⟨A7, c7, rfl, hlo7⟩ := LOw.push HL0.out HCh.out g2 g3 g4
      simp only [Nat.zero_add, List.nil_append] at hlo7
      have HL7 := hide hlo7
      have HB7 := hide (HB0.out.grown g3 (by simp) (fun k hk => by cases hk; exact Nat.le_refl _))
      have hs7 := HB7.out.size
      have HOb : Hid (∀ z, (Value.slice A7 (k + 1) c7).ownBlock = some z → z < w7.heap.size) := hide (own_block_lt hlo7.1)
      simp only [Nat.zero_add]
      clear g2 g3 g4 hlo7
      have hbc : Below w7.heap.size w7 ((w7.alloc (.cells #[.int .u32 (x : Int)] 29)).alloc (.cells #[.int .i64 2, .slice (some ⟨w7.heap.size, 0, none⟩) 1 1] 36)) := ((Below.refl _ w7).alloc (Nat.le_refl _) _).alloc (by simp) _
      have HLc := hide (HL7.out.below hbc)
      have HU : Hid (U32s ((w7.alloc (.cells #[.int .u32 (x : Int)] 29)).alloc (.cells #[.int .i64 2, .slice (some ⟨w7.heap.size, 0, none⟩) 1 1] 36)) (some ⟨w7.heap.size, 0, none⟩) 1 1 [x]) := hide ((u32_one hx).below ((Below.refl _ _).alloc (Nat.le_refl _) _))
      have HBk : Hid (Blk ((w7.alloc (.cells #[.int .u32 (x : Int)] 29)).alloc (.cells #[.int .i64 2, .slice (some ⟨w7.heap.size, 0, none⟩) 1 1] 36)) (w7.heap.size + 1) 36 #[.int .i64 2, .slice (some ⟨w7.heap.size, 0, none⟩) 1 1]) := hide (blk_new' _ _ (by simp))
      have HBc := hide (HB7.out.trans (hbc.mono hs7))
      have hsc : w7.heap.size + 2 = ((w7.alloc (.cells #[.int .u32 (x : Int)] 29)).alloc (.cells #[.int .i64 2, .slice (some ⟨w7.heap.size, 0, none⟩) 1 1] 36)).heap.size := by simp
      clear hbc
      refine hide ?_
      go_wp2_with (at_builtin; refine wpList_append_any _ rfl (.tmp 50) (.tmp 54) 22 rfl w.heap.size 36 i0 _ 2 32 Tryz.underlying22 hi hz0 hz1 hz2 rfl (by decide) (.slice A7 (k + 1) c7) (k + 1) ys rfl HLc.out.1 _ (some ⟨w7.heap.size + 1, 0, none⟩) 1 1 [.int .i64 2, .slice (some ⟨w7.heap.size, 0, none⟩) 1 1] rfl (reads_blkN HBk.out HBk.out.lt rfl rfl) (by simp [Value.oneCell']) (by unfold maxLen; omega) (by omega) (by omega) ?_; intro v' w8 g2 g3 g4; obtain ⟨A8, c8, rfl, hlo8⟩ := LOw.push HLc.out (chunk1_fr rfl (sg_fr' HU.out (fun _ a ha => by cases ha; exact ⟨Nat.zero_le _, fun e => by have := HOb.out _ e.symm; simp at this⟩))) g2 g3 g4; have HL8 := hide hlo8; have HB8 := hide (HBc.out.grown g3 (by omega) (fun k hk => own_low_block HL7.out.1 k hk)); clear hlo8 g2 g3 g4)
      go_ret
      exact ⟨A8, (k + 1) + 1, c8, _, rfl, by rw [HP.out]; exact HL8.out, HB8.out⟩
end Go.Proofs.YtplhnhoijficgaaGreatDoor
set_option linter.unusedSimpArgs false
set_option linter.unusedVariables false
namespace Go.Proofs.YtplhnhoijficgaaGreatDoor
open Go.RowKit
set_option maxRecDepth 100000 in
set_option maxHeartbeats 4000000 in
theorem refPutB_any (g o n c : Nat) (l : List Nat) (x : Nat) (hx : x < 4294967296) (w : World) (h : U32s w (some ⟨g, o, none⟩) n c l) (hn : n ≤ 100000) :
    Calls Tryz.prog 30 #[.slice (some ⟨g, o, none⟩) n c, .int .u32 x] w fun e w' => ∃ g' o' n' c', e = .returned (.slice (some ⟨g', o', none⟩) n' c') ∧ U32s w' (some ⟨g', o', none⟩) n' c' (putN l x) ∧ Below w.heap.size w w' ∧ (g' = g ∨ w.heap.size ≤ g') := by
  have hm := h.2.2.1
  have hnc := h.2.1
  unfold maxLen at hm
  have HU := hide h
  by_cases hin : x ∈ l
  · have hd := hide (show decide (x ∈ l) = true by simpa using hin)
    have hp := hide (show putN l x = l by unfold putN; rw [if_pos (by simpa using hin)])
    clear h hin
    go_enter Tryz.func30, Tryz.ntmps30
    go_wp2_with fail
    refine (refHas_any _ _ _ _ x _ HU.out).mono ?_
    rintro e w1 ⟨rfl, rfl⟩
    rw [hd.out]
    go_wp2
    go_ret
    exact ⟨_, _, _, _, rfl, by rw [hp.out]; exact HU.out, Below.refl _ _, .inl rfl⟩
  · have hd := hide (show decide (x ∈ l) = false by simpa using hin)
    have hp := hide (putN_eq hin)
    obtain ⟨i0, hi, hz0, hz1, hz2⟩ := info_parts info32
    clear h hin
    go_enter Tryz.func30, Tryz.ntmps30
    go_wp2_with fail
    refine (refHas_any _ _ _ _ x _ HU.out).mono ?_
    rintro e w1 ⟨rfl, rfl⟩
    rw [hd.out]
    go_wp2
    go_loop [5] (fun i => ∃ k : Nat, k ≤ n ∧ i = .int .i64 k ∧ ∀ j y, j < k → l[j]? = some y → y < x) (fun i => n - (intOf i).toNat)
    case atStart => exact ⟨0, Nat.zero_le _, rfl, by omega⟩
    case round =>
      obtain ⟨k, hk, rfl, hlow⟩ := hrel
      have HN := hide hlow
      clear hlow
      have hTK := (HU.out.take_ hk).reads
      have HTK := hide hTK
      have HBW := hide (Below.refl w.heap.size w)
      clear hTK
      by_cases hlt : k < n
      · obtain ⟨g', o', y, hA, hg, hy, hy2, hc⟩ := HU.out.at_ hlt
        cases hA
        have HY := hide hy
        clear hy
        have HDK := hide (HU.out.drop_ hlt)
        by_cases hyx : y < x
        · go_wp2
          go_round
          case rel => exact ⟨k + 1, by omega, by go_num, fun j z hj hz => by
            rcases Nat.lt_or_ge j k with h | h
            · exact HN.out j z h hz
            · obtain rfl : j = k := by omega
              have := Option.some.inj (hz.symm.trans HY.out); omega⟩
          case measure => simp [intOf]; omega
        · go_wp2
          have hi0 : (0 : Int) ≤ (k : Int) := by omega
          have hi1 : (k : Int) ≤ (n : Int) := by omega
          have hi2 : (k : Int) ≤ (c : Int) := by omega
          have hi3 : (k : Int) < (c : Int) := by omega
          have hi4 : ¬ c = k := by omega
          have HK : Hid (lowN l x = k) := hide (lowN_first (by rw [HU.out.1]; omega) HN.out (fun z hz => by have := Option.some.inj (hz.symm.trans HY.out); omega))
          have hi5 : (n : Int) ≤ (c : Int) := by omega
          go_region_law (first
            | (refine step_append_any _ (by rfl) (.tmp 24) (.tmp 27) 24 (by rfl) w.heap.size 29 i0 _ 1 4 Tryz.underlying24 hi hz0 hz1 hz2 rfl (by decide) _ 0 [] (by rfl) ?_ w.heap.size _ _ _ (u32c (l.take k)) (by rfl) ?_ (u32c_one _) ?_ ?_ ?_ ?_
               · first | exact (own_made0 w).drew | exact ((own_made0 w).alloc _).drew | exact (own_made1 w _).drew
               · exact HTK.out.keepB (by repeat (first | exact Below.refl _ _ | exact HBW.out | refine Below.drew ?_ | refine Below.alloc ?_ (by first | exact Nat.le_refl _ | (simp; done) | (simp; omega) | omega) _))
               · unfold maxLen; omega
               · omega
               · refine Below.size (?_ : Below w.heap.size w _); repeat (first | exact Below.refl _ _ | exact HBW.out | refine Below.drew ?_ | refine Below.alloc ?_ (by first | exact Nat.le_refl _ | (simp; done) | (simp; omega) | omega) _)
               intro v1 w1 hown1 hgrow1 _; have hbw1 : Below w.heap.size w w1 := (by refine Below.grown ?_ hgrow1 ?_ ?_; (repeat (first | exact Below.refl _ _ | exact HBW.out | refine Below.drew ?_ | refine Below.alloc ?_ (by first | exact Nat.le_refl _ | (simp; done) | (simp; omega) | omega) _)); (refine Below.size (?_ : Below w.heap.size w _); repeat (first | exact Below.refl _ _ | exact HBW.out | refine Below.drew ?_ | refine Below.alloc ?_ (by first | exact Nat.le_refl _ | (simp; done) | (simp; omega) | omega) _)); (intro k hk; cases hk; first | exact Nat.le_refl _ | exact Nat.le_succ _)); have HBW := hide hbw1; have HG1 := hide hgrow1; have HO1 := hide hown1; have hlw := hbw1.size; have hgs := hgrow1.size; clear hown1 hgrow1 hbw1)
            | (refine step_append_one (by rfl) (.tmp 28) (.tmp 30) 24 (by rfl) w.heap.size 29 i0 _ 4 Tryz.underlying24 hi hz0 hz1 hz2 rfl _ (0 + k) ([] ++ u32c (l.take k)) (by rfl) ?_ _ _ (.int .u32 (x : Int)) (by rfl) ?_ (by rfl) ?_ ?_ ?_ ?_
               · first | exact HO1.out | exact HO1.out.alloc _ | exact HO1.out.drew | exact (HO1.out.alloc _).drew
               · first | (simp; done) | (rw [HG1.out.cell_far _ (by show _ < (World.alloc _ _).heap.size; first | (simp; done) | (simp; omega)) (show some (w.heap.size + 1) ≠ some w.heap.size by simp)]; simp; done) | (rw [HG1.out.cell_far _ (by show _ < (World.alloc _ _).heap.size; first | (simp; done) | (simp; omega)) (show some w.heap.size ≠ some (w.heap.size + 1) by simp)]; simp; done)
               · unfold maxLen; omega
               · omega
               · refine Below.size (?_ : Below w.heap.size w _); repeat (first | exact Below.refl _ _ | exact HBW.out | refine Below.drew ?_ | refine Below.alloc ?_ (by first | exact Nat.le_refl _ | (simp; done) | (simp; omega) | omega) _)
               intro v2 w2 hown2 hgrow2 _; have hbw2 : Below w.heap.size w w2 := (by refine Below.grown ?_ hgrow2 ?_ ?_; (repeat (first | exact Below.refl _ _ | exact HBW.out | refine Below.drew ?_ | refine Below.alloc ?_ (by first | exact Nat.le_refl _ | (simp; done) | (simp; omega) | omega) _)); (refine Below.size (?_ : Below w.heap.size w _); repeat (first | exact Below.refl _ _ | exact HBW.out | refine Below.drew ?_ | refine Below.alloc ?_ (by first | exact Nat.le_refl _ | (simp; done) | (simp; omega) | omega) _)); (intro k hk; have := HO1.out.lt k hk; omega)); have HBW := hide hbw2; have HO2 := hide hown2; have hlw2 := hbw2.size; clear hown2 hgrow2 hbw2)
            | (refine step_append_any _ (by rfl) (.tmp 31) (.tmp 34) 24 (by rfl) w.heap.size 29 i0 _ 1 4 Tryz.underlying24 hi hz0 hz1 hz2 rfl (by decide) _ (0 + k + 1) ([] ++ u32c (l.take k) ++ [.int .u32 (x : Int)]) (by rfl) ?_ w.heap.size _ _ _ (u32c (l.drop k)) (by rfl) ?_ (u32c_one _) ?_ ?_ ?_ ?_
               · exact HO2.out
               · exact HDK.out.keepB (by repeat (first | exact Below.refl _ _ | exact HBW.out | refine Below.drew ?_ | refine Below.alloc ?_ (by first | exact Nat.le_refl _ | (simp; done) | (simp; omega) | omega) _))
               · unfold maxLen; omega
               · omega
               · refine Below.size (?_ : Below w.heap.size w _); repeat (first | exact Below.refl _ _ | exact HBW.out | refine Below.drew ?_ | refine Below.alloc ?_ (by first | exact Nat.le_refl _ | (simp; done) | (simp; omega) | omega) _)
               intro v3 w3 hown3 hgrow3 _; have hbw3 : Below w.heap.size w w3 := (by refine Below.grown ?_ hgrow3 ?_ ?_; (repeat (first | exact Below.refl _ _ | exact HBW.out | refine Below.drew ?_ | refine Below.alloc ?_ (by first | exact Nat.le_refl _ | (simp; done) | (simp; omega) | omega) _)); (refine Below.size (?_ : Below w.heap.size w _); repeat (first | exact Below.refl _ _ | exact HBW.out | refine Below.drew ?_ | refine Below.alloc ?_ (by first | exact Nat.le_refl _ | (simp; done) | (simp; omega) | omega) _)); (intro k hk; have := HO2.out.lt k hk; omega)); have HBW := hide hbw3; have HO3 := hide hown3; clear hown3 hgrow3 hbw3)
            | fail)
          all_goals
            have HLo := hide (own_low_block HO3.out)
            obtain ⟨g3, c3, rfl, hu3⟩ := put_end hx HU.out.2.2.2.1 hp.out HK.out (by omega) HO3.out
            have HU3 := hide hu3
            clear hu3
            go_wp2
            go_ret
            exact ⟨g3, 0, _, c3, rfl, by simpa using HU3.out, HBW.out, .inr (HLo.out _ rfl)⟩
      · obtain rfl : k = n := by omega
        have HDK : Hid (∀ A, Reads w w.heap.size 1 A 0 (u32c (l.drop k))) := hide (fun A => by
          rw [List.drop_of_length_le (by rw [HU.out.1]; exact Nat.le_refl _)]; exact reads_nil _ _ _ _)
        have HK : Hid (lowN l x = k) := hide (lowN_first (by rw [HU.out.1]; exact Nat.le_refl _) HN.out (fun y hy => by
          have := (List.getElem?_eq_some_iff.1 hy).1; have := HU.out.1; omega))
        go_wp2
        have hi0 : (0 : Int) ≤ (k : Int) := by omega
        have hi2 : (k : Int) ≤ (c : Int) := by omega
        go_region_law (first
          | (refine step_append_any _ (by rfl) (.tmp 24) (.tmp 27) 24 (by rfl) w.heap.size 29 i0 _ 1 4 Tryz.underlying24 hi hz0 hz1 hz2 rfl (by decide) _ 0 [] (by rfl) ?_ w.heap.size _ _ _ (u32c (l.take k)) (by rfl) ?_ (u32c_one _) ?_ ?_ ?_ ?_
             · first | exact (own_made0 w).drew | exact ((own_made0 w).alloc _).drew | exact (own_made1 w _).drew
             · exact HTK.out.keepB (by repeat (first | exact Below.refl _ _ | exact HBW.out | refine Below.drew ?_ | refine Below.alloc ?_ (by first | exact Nat.le_refl _ | (simp; done) | (simp; omega) | omega) _))
             · unfold maxLen; omega
             · omega
             · refine Below.size (?_ : Below w.heap.size w _); repeat (first | exact Below.refl _ _ | exact HBW.out | refine Below.drew ?_ | refine Below.alloc ?_ (by first | exact Nat.le_refl _ | (simp; done) | (simp; omega) | omega) _)
             intro v1 w1 hown1 hgrow1 _; have hbw1 : Below w.heap.size w w1 := (by refine Below.grown ?_ hgrow1 ?_ ?_; (repeat (first | exact Below.refl _ _ | exact HBW.out | refine Below.drew ?_ | refine Below.alloc ?_ (by first | exact Nat.le_refl _ | (simp; done) | (simp; omega) | omega) _)); (refine Below.size (?_ : Below w.heap.size w _); repeat (first | exact Below.refl _ _ | exact HBW.out | refine Below.drew ?_ | refine Below.alloc ?_ (by first | exact Nat.le_refl _ | (simp; done) | (simp; omega) | omega) _)); (intro k hk; cases hk; first | exact Nat.le_refl _ | exact Nat.le_succ _)); have HBW := hide hbw1; have HG1 := hide hgrow1; have HO1 := hide hown1; have hlw := hbw1.size; have hgs := hgrow1.size; clear hown1 hgrow1 hbw1)
          | (refine step_append_one (by rfl) (.tmp 28) (.tmp 30) 24 (by rfl) w.heap.size 29 i0 _ 4 Tryz.underlying24 hi hz0 hz1 hz2 rfl _ (0 + k) ([] ++ u32c (l.take k)) (by rfl) ?_ _ _ (.int .u32 (x : Int)) (by rfl) ?_ (by rfl) ?_ ?_ ?_ ?_
             · first | exact HO1.out | exact HO1.out.alloc _ | exact HO1.out.drew | exact (HO1.out.alloc _).drew
             · first | (simp; done) | (rw [HG1.out.cell_far _ (by show _ < (World.alloc _ _).heap.size; first | (simp; done) | (simp; omega)) (show some (w.heap.size + 1) ≠ some w.heap.size by simp)]; simp; done) | (rw [HG1.out.cell_far _ (by show _ < (World.alloc _ _).heap.size; first | (simp; done) | (simp; omega)) (show some w.heap.size ≠ some (w.heap.size + 1) by simp)]; simp; done)
             · unfold maxLen; omega
             · omega
             · refine Below.size (?_ : Below w.heap.size w _); repeat (first | exact Below.refl _ _ | exact HBW.out | refine Below.drew ?_ | refine Below.alloc ?_ (by first | exact Nat.le_refl _ | (simp; done) | (simp; omega) | omega) _)
             intro v2 w2 hown2 hgrow2 _; have hbw2 : Below w.heap.size w w2 := (by refine Below.grown ?_ hgrow2 ?_ ?_; (repeat (first | exact Below.refl _ _ | exact HBW.out | refine Below.drew ?_ | refine Below.alloc ?_ (by first | exact Nat.le_refl _ | (simp; done) | (simp; omega) | omega) _)); (refine Below.size (?_ : Below w.heap.size w _); repeat (first | exact Below.refl _ _ | exact HBW.out | refine Below.drew ?_ | refine Below.alloc ?_ (by first | exact Nat.le_refl _ | (simp; done) | (simp; omega) | omega) _)); (intro k hk; have := HO1.out.lt k hk; omega)); have HBW := hide hbw2; have HO2 := hide hown2; have hlw2 := hbw2.size; clear hown2 hgrow2 hbw2)
          | (refine step_append_any _ (by rfl) (.tmp 31) (.tmp 34) 24 (by rfl) w.heap.size 29 i0 _ 1 4 Tryz.underlying24 hi hz0 hz1 hz2 rfl (by decide) _ (0 + k + 1) ([] ++ u32c (l.take k) ++ [.int .u32 (x : Int)]) (by rfl) ?_ w.heap.size _ _ _ (u32c (l.drop k)) (by rfl) ?_ (u32c_one _) ?_ ?_ ?_ ?_
             · exact HO2.out
             · exact (HDK.out _).keepB (by repeat (first | exact Below.refl _ _ | exact HBW.out | refine Below.drew ?_ | refine Below.alloc ?_ (by first | exact Nat.le_refl _ | (simp; done) | (simp; omega) | omega) _))
             · unfold maxLen; omega
             · omega
             · refine Below.size (?_ : Below w.heap.size w _); repeat (first | exact Below.refl _ _ | exact HBW.out | refine Below.drew ?_ | refine Below.alloc ?_ (by first | exact Nat.le_refl _ | (simp; done) | (simp; omega) | omega) _)
             intro v3 w3 hown3 hgrow3 _; have hbw3 : Below w.heap.size w w3 := (by refine Below.grown ?_ hgrow3 ?_ ?_; (repeat (first | exact Below.refl _ _ | exact HBW.out | refine Below.drew ?_ | refine Below.alloc ?_ (by first | exact Nat.le_refl _ | (simp; done) | (simp; omega) | omega) _)); (refine Below.size (?_ : Below w.heap.size w _); repeat (first | exact Below.refl _ _ | exact HBW.out | refine Below.drew ?_ | refine Below.alloc ?_ (by first | exact Nat.le_refl _ | (simp; done) | (simp; omega) | omega) _)); (intro k hk; have := HO2.out.lt k hk; omega)); have HBW := hide hbw3; have HO3 := hide hown3; clear hown3 hgrow3 hbw3)
          | fail)
        all_goals
          have HLo := hide (own_low_block HO3.out)
          obtain ⟨g3, c3, rfl, hu3⟩ := put_end hx HU.out.2.2.2.1 hp.out HK.out (by omega) HO3.out
          have HU3 := hide hu3
          clear hu3
          go_wp2
          all_goals
            go_ret
            exact ⟨g3, 0, _, c3, rfl, by simpa using HU3.out, HBW.out, .inr (HLo.out _ rfl)⟩
set_option maxRecDepth 100000 in
set_option maxHeartbeats 2000000 in
theorem refSetB_any (A : Option Addr) (n c : Nat) (l : List Nat) (w : World) (h : U32s w A n c l) (hn : n ≤ 10000) :
    Calls Tryz.prog 20 #[.slice A n c] w fun e w' => ∃ g' o' n' c', e = .returned (.slice (some ⟨g', o', none⟩) n' c') ∧ U32s w' (some ⟨g', o', none⟩) n' c' (setOf l) ∧ Below w.heap.size w w' ∧ w.heap.size ≤ g' := by
  have HA := hide (U32lo.start h)
  have hm := h.2.2.1
  have hnc := h.2.1
  unfold maxLen at hm
  have HS : Hid (U32s (w.alloc (.cells #[] 29)) (some ⟨w.heap.size, 0, none⟩) 0 0 (setOf [])) := hide ⟨rfl, by omega, by simp [maxLen], by simp [setOf], fun h => by omega⟩
  clear h
  go_enter Tryz.func20, Tryz.ntmps20
  go_wp2
  go_loopw [3, 4] (fun v i wr => ∃ k g' o' n' c', k ≤ n ∧ i = .int .i64 (k : Nat) ∧ v = .slice (some ⟨g', o', none⟩) n' c' ∧ U32s wr (some ⟨g', o', none⟩) n' c' (setOf (l.take k)) ∧ Below w.heap.size w wr ∧ w.heap.size ≤ g') (fun _ i _ => n - (intOf i).toNat)
  case atStart => exact ⟨0, w.heap.size, 0, 0, 0, by omega, rfl, rfl, by simpa using HS.out, (Below.refl _ _).alloc (Nat.le_refl _) _, Nat.le_refl _⟩
  case round =>
    obtain ⟨k, g', o', n', c', hk, rfl, rfl, hu, hb, hgl⟩ := hrel
    have hbs := hb.size
    have HU := hide hu
    have HB := hide hb
    have HA2 := hide (HA.out.keep hb)
    clear hu hb
    by_cases hlt : k < n
    · obtain ⟨g, o, x, rfl, hg, hx, hx2, hc⟩ := HA2.out.1.at_ hlt
      have hsn := hide (show setOf (l.take (k + 1)) = putN (setOf (l.take k)) x by rw [take_snoc_eq hx, setOf_snoc])
      have hlen : n' ≤ 100000 := by
        have h1 := HU.out.1
        have h2 := setOf_len (l.take k)
        have h3 : (l.take k).length ≤ k := List.length_take_le _ _
        omega
      have HP := hide (refPutB_any g' o' n' c' (setOf (l.take k)) x hx2 wr HU.out hlen)
      clear hx
      go_wp2_with fail
      refine HP.out.mono ?_
      rintro e w2 ⟨g2, o2, n2, c2, rfl, hu2, hb2, hg2⟩
      rw [← hsn.out] at hu2
      have HU2 := hide hu2
      have HB2 := hide (HB.out.trans (hb2.mono HB.out.size))
      clear hu2 hb2
      go_wp2
      go_roundw
      case rel => exact ⟨k + 1, g2, o2, n2, c2, by omega, by go_num, rfl, HU2.out, HB2.out, by rcases hg2 with rfl | h <;> omega⟩
      case measure => simp [intOf]; omega
    · obtain rfl : k = n := by omega
      have HF : Hid (U32s wr (some ⟨g', o', none⟩) n' c' (setOf l)) := hide (by
        have := HU.out
        rwa [List.take_of_length_le (by rw [HA2.out.1.1]; exact Nat.le_refl _)] at this)
      go_wp2
      go_ret
      exact ⟨g', o', n', c', rfl, HF.out, HB.out, hgl⟩
end Go.Proofs.YtplhnhoijficgaaGreatDoor
set_option linter.unusedSimpArgs false
set_option linter.unusedVariables false
namespace Go.Proofs.YtplhnhoijficgaaGreatDoor
open Go.RowKit Go.WideShapes Go.ChangeShapes
attribute [local go_sem] Oper.semAt_some
theorem normS_snoc (l : List SG) (q : Nat) (x : SG) (h : l[q]? = some x) : normS (l.take (q + 1)) = stepS (normS (l.take q)) x := by
  unfold normS
  rw [List.take_add_one, h]
  simp [List.foldl_append]
theorem foldS_snoc (o : List SG) (r : List Nat) (j x : Nat) (h : r[j]? = some x) : (r.take (j + 1)).foldl putS o = putS ((r.take j).foldl putS o) x := by
  rw [List.take_add_one, h]
  simp [List.foldl_append]
set_option maxRecDepth 100000 in
set_option maxHeartbeats 8000000 in
theorem refnormS_any (A : Option Addr) (n c : Nat) (l : List SG) (w : World) (h : LstAt 2 sgR w A n c l) (hn : numS l ≤ 10000) (hn2 : n ≤ 100000) :
    Calls Tryz.prog 18 #[.slice A n c] w (RefP (normS l) w) := by
  have hln := h.1
  have hnc := h.2.1
  have hmx := h.2.2.1
  unfold maxLen at hmx
  obtain ⟨i0, hi, hz0, hz1, hz2⟩ := info_parts segInfo
  have HLs := hide h
  have HL0 := hide (low_lit w)
  have HB0 : Hid (Below w.heap.size w (w.alloc (.cells #[] 36))) := hide ((Below.refl _ w).alloc (Nat.le_refl _) _)
  clear h
  go_enter Tryz.func18, Tryz.ntmps18
  go_wp2
  go_loopw [3, 4] (fun vo iv wr => ∃ (q : Nat) (A1 : Option Addr) (n1 c1 : Nat) (xs : List Value), q ≤ n ∧ iv = .int .i64 (q : Nat) ∧ vo = .slice A1 n1 c1 ∧ LOw 2 36 sgR wr w.heap.size 0 A1 n1 c1 (normS (l.take q)) xs ∧ Below w.heap.size w wr) (fun _ iv _ => n - (intOf iv).toNat)
  case atStart => exact ⟨0, some ⟨w.heap.size, 0, none⟩, 0, 0, [], Nat.zero_le _, rfl, rfl, HL0.out, HB0.out⟩
  case round =>
    obtain ⟨q, A1, n1, c1, xs, hq, rfl, rfl, hlo, hbel⟩ := hrel
    obtain ⟨w1, rfl⟩ : ∃ w1, w1 = wr := ⟨wr, rfl⟩
    have HLo := hide hlo
    have HBe := hide hbel
    have hs1 := hbel.size
    by_cases hlt : q < n
    · obtain ⟨g, o, b, B, m, d, r, rfl, hg, hx, hr, hc0, hc1⟩ := SGat HLs.out hlt
      have k0 : w1.cell? ⟨g, o + q * 2, none⟩ = some (.int .i64 b) := (hbel.cell hg).trans hc0
      have k1 : w1.cell? ⟨g, o + q * 2 + 1, none⟩ = some (.slice B m d) := (hbel.cell hg).trans hc1
      have HStep := hide (normS_snoc l q _ hx)
      have hsn := numS_snoc l q _ hx
      simp only at hsn
      have htk1 := numS_take_le l (q + 1)
      have hnl := normS_len (l.take q)
      have hn1 := (hlo.lst (by decide)).1
      have hrl : r.length = m := hr.1
      have q1 : (q : Int) < (n : Int) := by omega
      have q0 : (0 : Int) ≤ (q : Int) := by omega
      have hwq : IntKind.i64.wrap ((q : Int) + 1) = (q : Int) + 1 := by rw [IntKind.wrap_i64]; omega
      have HUr : Hid (∀ W : World, Below w.heap.size w W → U32s W B m d r) := hide (fun W hb => hr.below hb)
      have HK0 := hide hc0
      have HK1 := hide hc1
      clear hlo hbel hx hr hc0 hc1
      by_cases h2 : b = 2
      · subst h2
        have HE : Hid (normS (l.take (q + 1)) = r.foldl putS (normS (l.take q))) := hide (HStep.out.trans (by unfold stepS; rw [if_pos rfl]))
        go_wp2
        go_loopw [3, 5] (fun vo kv wr => ∃ (j : Nat) (A2 : Option Addr) (n2 c2 : Nat) (xs2 : List Value), j ≤ m ∧ kv = .int .i64 (j : Nat) ∧ vo = .slice A2 n2 c2 ∧ LOw 2 36 sgR wr w.heap.size 0 A2 n2 c2 ((r.take j).foldl putS (normS (l.take q))) xs2 ∧ Below w.heap.size w wr) (fun _ kv _ => m - (intOf kv).toNat)
        case atStart => exact ⟨0, A1, n1, c1, xs, Nat.zero_le _, rfl, rfl, HLo.out, HBe.out⟩
        case round =>
          obtain ⟨j, A2, n2, c2, xs2, hj, rfl, rfl, hlo2, hbel2⟩ := hrel
          have HLo2 := hide hlo2
          have HBe2 := hide hbel2
          have hs2 := hbel2.size
          have k0 : wr.cell? ⟨g, o + q * 2, none⟩ = some (.int .i64 2) := (hbel2.cell hg).trans HK0.out
          have k1 : wr.cell? ⟨g, o + q * 2 + 1, none⟩ = some (.slice B m d) := (hbel2.cell hg).trans HK1.out
          by_cases hjm : j < m
          · obtain ⟨g2, o2, y, hB, hg2, hy, hy2, hc2⟩ := (HUr.out wr hbel2).at_ hjm
            subst hB
            have HF := hide (foldS_snoc (normS (l.take q)) r j y hy)
            have hn2' := (hlo2.lst (by decide)).1
            have hfl := putS_foldlen (r.take j) (normS (l.take q))
            rw [List.length_take] at hfl
            have HPu := hide (refputS_any A2 n2 c2 y _ wr (hlo2.lst (by decide)) hy2 (by omega))
            have j1 : (j : Int) < (m : Int) := by omega
            have j0 : (0 : Int) ≤ (j : Int) := by omega
            have hwj : IntKind.i64.wrap ((j : Int) + 1) = (j : Int) + 1 := by rw [IntKind.wrap_i64]; omega
            clear hlo2 hbel2 hy hn2' hfl
            go_wp2_with fail
            refine HPu.out.mono ?_
            intro e w5 hmv
            unfold RefP at hmv
            obtain ⟨A6, n6, c6, xs6, rfl, hl6, hb6⟩ := hmv
            have HL6 := hide (hl6.less hs2 (Nat.le_refl _))
            have HB6 := hide (HBe2.out.trans (hb6.mono hs2))
            clear hl6 hb6 k0 k1 hc2
            go_wp2
            go_roundw
            case rel => exact ⟨j + 1, A6, n6, c6, xs6, by omega, by go_num, rfl, by rw [HF.out]; exact HL6.out, HB6.out⟩
            case measure => simp [intOf]; omega
          · obtain rfl : j = m := by omega
            have HL6 : Hid (LOw 2 36 sgR wr w.heap.size 0 A2 n2 c2 (normS (l.take (q + 1))) xs2) := hide (by rw [HE.out]; rw [show r.take j = r from List.take_of_length_le (by omega)] at hlo2; exact hlo2)
            clear hlo2 hbel2 hjm
            go_wp2
            go_roundw
            case rel => exact ⟨q + 1, A2, n2, c2, xs2, by omega, by go_num, rfl, HL6.out, HBe2.out⟩
            case measure => simp [intOf]; omega
      · have e2 : (b == 2) = false := by simpa using h2
        by_cases h1 : b = 1 ∧ 0 < m
        · obtain ⟨rfl, hm0⟩ := h1
          have hm1 : decide (0 < (m : Int)) = true := decide_eq_true (by omega)
          have hm2 : decide (0 < m) = true := decide_eq_true hm0
          have hrne : r ≠ [] := by intro e; rw [e] at hrl; simp at hrl; omega
          have HE : Hid (normS (l.take (q + 1)) = normS (l.take q) ++ [⟨1, setOf r⟩]) := hide (HStep.out.trans (stepS_set _ _ hrne))
          have HSe := hide (refSetB_any B m d r w1 (HUr.out w1 HBe.out) (by omega))
          have hsl : (setOf r).length ≤ m := by rw [← hrl]; exact setOf_len _
          have HOb : Hid (∀ z, (Value.slice A1 n1 c1).ownBlock = some z → z < w1.heap.size) := hide (own_block_lt HLo.out.1)
          clear hrne h2
          go_wp2_with fail
          refine HSe.out.mono ?_
          rintro e w5 ⟨g5, o5, n5, c5, rfl, hu5, hb5, hg5⟩
          have hbx : Below w5.heap.size w5 (w5.alloc (.cells #[.int .i64 1, .slice (some ⟨g5, o5, none⟩) n5 c5] 36)) := (Below.refl _ w5).alloc (Nat.le_refl _) _
          have HLc := hide ((HLo.out.below hb5).below hbx)
          have HU5 := hide (hu5.below hbx)
          have HBk : Hid (Blk (w5.alloc (.cells #[.int .i64 1, .slice (some ⟨g5, o5, none⟩) n5 c5] 36)) w5.heap.size 36 #[.int .i64 1, .slice (some ⟨g5, o5, none⟩) n5 c5]) := hide (Blk.new w5 _ _)
          have HBc := hide (HBe.out.trans ((hb5.mono hs1).trans (hbx.mono (Nat.le_trans hs1 hb5.size))))
          have hs5 := hb5.size
          have hsx : (w5.alloc (.cells #[.int .i64 1, .slice (some ⟨g5, o5, none⟩) n5 c5] 36)).heap.size = w5.heap.size + 1 := by simp
          clear hu5 hb5 hbx k0 k1
          go_wp2_with (at_builtin; refine wpList_append_any _ rfl (.tmp 54) (.tmp 62) 22 rfl w.heap.size 36 i0 _ 2 32 Tryz.underlying22 hi hz0 hz1 hz2 rfl (by decide) (.slice A1 n1 c1) n1 xs rfl HLc.out.1 _ (some ⟨w5.heap.size, 0, none⟩) 1 1 [.int .i64 1, .slice (some ⟨g5, o5, none⟩) n5 c5] rfl (reads_blkN HBk.out HBk.out.lt rfl rfl) (by simp [Value.oneCell']) (by unfold maxLen; omega) (by omega) (by omega) ?_; intro v' w8 g2 g3 g4; obtain ⟨A8, c8, rfl, hlo8⟩ := LOw.push HLc.out (chunk1_fr rfl (sg_fr' HU5.out (fun _ a ha => by cases ha; exact ⟨Nat.zero_le _, fun e => by have h9 : g5 < w1.heap.size := HOb.out _ e.symm; omega⟩))) g2 g3 g4; have HL8 := hide hlo8; have HB8 := hide (HBc.out.grown g3 (by omega) (fun k hk => own_low_block HLo.out.1 k hk)); clear hlo8 g2 g3 g4)
          go_roundw
          case rel => exact ⟨q + 1, A8, n1 + 1, c8, _, by omega, by go_num, rfl, by rw [HE.out]; exact HL8.out, HB8.out⟩
          case measure => simp [intOf]; omega
        · have HE : Hid (normS (l.take (q + 1)) = normS (l.take q)) := hide (HStep.out.trans (stepS_none _ _ h2 (by
            by_cases hb : b = 1
            · right
              exact List.eq_nil_of_length_eq_zero (by simp only; rw [hrl]; exact Nat.eq_zero_of_not_pos (fun hh => h1 ⟨hb, hh⟩))
            · exact .inl hb)))
          by_cases h3 : b = 1
          · subst h3
            have hm1 : decide (0 < (m : Int)) = false := decide_eq_false (fun hh => h1 ⟨rfl, by omega⟩)
            have hm2 : decide (0 < m) = false := decide_eq_false (fun hh => h1 ⟨rfl, hh⟩)
            clear h1 h2
            go_wp2
            go_roundw
            case rel => exact ⟨q + 1, A1, n1, c1, xs, by omega, by go_num, rfl, by rw [HE.out]; exact HLo.out, HBe.out⟩
            case measure => simp [intOf]; omega
          · have e1 : (b == 1) = false := by simpa using h3
            clear h1 h2 h3
            go_wp2
            go_roundw
            case rel => exact ⟨q + 1, A1, n1, c1, xs, by omega, by go_num, rfl, by rw [HE.out]; exact HLo.out, HBe.out⟩
            case measure => simp [intOf]; omega
    · obtain rfl : q = n := by omega
      have HL6 : Hid (LOw 2 36 sgR w1 w.heap.size 0 A1 n1 c1 (normS l) xs) := hide (by rw [show l.take q = l from List.take_of_length_le (by omega)] at hlo; exact hlo)
      clear hlo hbel hlt
      go_wp2
      go_ret
      exact ⟨A1, n1, c1, xs, rfl, HL6.out, HBe.out⟩
end Go.Proofs.YtplhnhoijficgaaGreatDoor
set_option linter.unusedSimpArgs false
set_option linter.unusedVariables false
namespace Go.Proofs.YtplhnhoijficgaaGreatDoor
open Go.RowKit Go.WideShapes Go.ChangeShapes
attribute [local go_sem] Oper.semAt_some
theorem numS_app (a b : List SG) : numS (a ++ b) = numS a + numS b := by simp [numS]
theorem numS_few (xs : List Nat) (h : xs.length ≤ 255) : numS (chunkS xs) = xs.length := by
  rw [chunkS_few xs h]
  by_cases h0 : xs = []
  · rw [if_pos h0, h0]; rfl
  · rw [if_neg h0]; simp [numS]
set_option maxRecDepth 100000 in
set_option maxHeartbeats 8000000 in
theorem refprep_any (A : Option Addr) (n c v : Nat) (t : Int) (l : List SG) (w : World) (h : LstAt 2 sgR w A n c l) (hv : v < 4294967296) (hn : numS l ≤ 9000) (hn2 : n ≤ 10000) :
    Calls Tryz.prog 8 #[.slice A n c, .int .u32 (v : Int), .int .i64 t] w (RefP (normS (chunkS (List.replicate (timesN t) v) ++ l)) w) := by
  obtain ⟨i0_, hi, hz0, hz1, hz2⟩ := info_parts segInfo
  obtain ⟨ys, hs⟩ := seg_src h
  have HSr := hide hs
  have HL0 := hide (low_lit w)
  have HB0 : Hid (Below w.heap.size w (w.alloc (.cells #[] 36))) := hide ((Below.refl _ w).alloc (Nat.le_refl _) _)
  have hT := timesN_le t
  by_cases ht : 255 < t
  · have hTe : timesN t = 255 := by unfold timesN; omega
    obtain ⟨T, hTT⟩ : ∃ T, timesN t = T := ⟨_, rfl⟩
    rw [hTT] at hT hTe ⊢
    have e1 : decide (255 < t) = true := decide_eq_true ht
    clear h hs hTT
    go_enter Tryz.func8, Tryz.ntmps8
    go_wp2
    go_loopw [7, 8] (fun vo iv wr => ∃ (i : Nat) (A1 : Option Addr) (n1 c1 : Nat) (xs : List Value), i ≤ T ∧ iv = .int .i64 (i : Nat) ∧ vo = .slice A1 n1 c1 ∧ LOw 2 36 sgR wr w.heap.size 0 A1 n1 c1 (chunkS (List.replicate i v)) xs ∧ Below w.heap.size w wr) (fun _ iv _ => T - (intOf iv).toNat)
    case atStart => exact ⟨0, some ⟨w.heap.size, 0, none⟩, 0, 0, [], Nat.zero_le _, rfl, rfl, HL0.out, HB0.out⟩
    case round =>
      obtain ⟨i, A1, n1, c1, xs, hi2, rfl, rfl, hlo, hbel⟩ := hrel
      have HLo := hide hlo
      have HBe := hide hbel
      have hs1 := hbel.size
      have hn1 := (hlo.lst (by decide)).1
      have hcl := chunkS_len (List.replicate i v)
      rw [List.length_replicate] at hcl
      have i0 : (0 : Int) ≤ (i : Int) := by omega
      have hwi : IntKind.i64.wrap ((i : Int) + 1) = (i : Int) + 1 := by rw [IntKind.wrap_i64]; omega
      by_cases hlt : i < T
      · have i1 : (i : Int) < 255 := by omega
        have HPu := hide (refputS_any A1 n1 c1 v _ wr (hlo.lst (by decide)) hv (by omega))
        have HF : Hid (putS (chunkS (List.replicate i v)) v = chunkS (List.replicate (i + 1) v)) := hide (by rw [List.replicate_succ']; unfold chunkS; rw [List.foldl_append]; rfl)
        clear hlo hbel
        go_wp2_with fail
        refine HPu.out.mono ?_
        intro e w5 hmv
        unfold RefP at hmv
        obtain ⟨A6, n6, c6, xs6, rfl, hl6, hb6⟩ := hmv
        rw [HF.out] at hl6
        have HL6 := hide (hl6.less hs1 (Nat.le_refl _))
        have HB6 := hide (HBe.out.trans (hb6.mono hs1))
        clear hl6 hb6
        go_wp2
        go_roundw
        case rel => exact ⟨i + 1, A6, n6, c6, xs6, by omega, by go_num, rfl, HL6.out, HB6.out⟩
        case measure => simp [intOf]; omega
      · obtain rfl : i = T := by omega
        have i1 : decide ((i : Int) < 255) = false := decide_eq_false (by omega)
        obtain ⟨hr, hch, ho⟩ := HSr.out wr hbel (.slice A1 n1 c1) (own_low_block hlo.1)
        have HRd := hide hr
        have HCh := hide hch
        have HOn := hide ho
        clear hlo hbel hlt hr hch ho
        go_wp2_with (at_builtin; refine wpList_append_any _ rfl (.tmp 20) (.tmp 21) 22 rfl w.heap.size 36 i0_ _ 2 32 Tryz.underlying22 hi hz0 hz1 hz2 rfl (by decide) (.slice A1 n1 c1) n1 xs rfl HLo.out.1 _ A n c ys rfl HRd.out HOn.out (by unfold maxLen; omega) (by omega) (by omega) ?_; intro v' w7 g2 g3 g4; refine Hid.out (?_ : Hid _))
        obtain ⟨A7, c7, rfl, hlo7⟩ := LOw.push HLo.out HCh.out g2 g3 g4
        have HB7 := hide (HBe.out.grown g3 hs1 (fun k hk => own_low_block HLo.out.1 k hk))
        have hs7 := HB7.out.size
        have HNo := hide (refnormS_any A7 (n1 + n) c7 (chunkS (List.replicate i v) ++ l) w7 (hlo7.lst (by decide)) (by rw [numS_app, numS_few _ (by rw [List.length_replicate]; exact hT), List.length_replicate]; omega) (by omega))
        clear g2 g3 g4 hlo7
        refine hide ?_
        go_wp2_with fail
        refine HNo.out.mono ?_
        intro e w8 hmv
        unfold RefP at hmv
        obtain ⟨A8, n8, c8, xs8, rfl, hl8, hb8⟩ := hmv
        have HL8 := hide (hl8.less hs7 (Nat.le_refl _))
        have HB8 := hide (HB7.out.trans (hb8.mono hs7))
        clear hl8 hb8
        go_wp2
        go_ret
        exact ⟨A8, n8, c8, xs8, rfl, HL8.out, HB8.out⟩
  · obtain ⟨T, hTT⟩ : ∃ T, timesN t = T := ⟨_, rfl⟩
    have hTe : ∀ i : Nat, i < T ↔ (i : Int) < t := fun i => by rw [← hTT]; unfold timesN; omega
    have hTe1 := hTe T
    have HTe := hide hTe
    rw [hTT] at hT ⊢
    have e1 : decide (255 < t) = false := decide_eq_false ht
    clear h hs hTT hTe
    go_enter Tryz.func8, Tryz.ntmps8
    go_wp2
    go_loopw [7, 8] (fun vo iv wr => ∃ (i : Nat) (A1 : Option Addr) (n1 c1 : Nat) (xs : List Value), i ≤ T ∧ iv = .int .i64 (i : Nat) ∧ vo = .slice A1 n1 c1 ∧ LOw 2 36 sgR wr w.heap.size 0 A1 n1 c1 (chunkS (List.replicate i v)) xs ∧ Below w.heap.size w wr) (fun _ iv _ => T - (intOf iv).toNat)
    case atStart => exact ⟨0, some ⟨w.heap.size, 0, none⟩, 0, 0, [], Nat.zero_le _, rfl, rfl, HL0.out, HB0.out⟩
    case round =>
      obtain ⟨i, A1, n1, c1, xs, hi2, rfl, rfl, hlo, hbel⟩ := hrel
      have HLo := hide hlo
      have HBe := hide hbel
      have hs1 := hbel.size
      have hn1 := (hlo.lst (by decide)).1
      have hcl := chunkS_len (List.replicate i v)
      rw [List.length_replicate] at hcl
      have i0 : (0 : Int) ≤ (i : Int) := by omega
      have hwi : IntKind.i64.wrap ((i : Int) + 1) = (i : Int) + 1 := by rw [IntKind.wrap_i64]; omega
      by_cases hlt : i < T
      · have i1 : (i : Int) < t := (HTe.out i).1 hlt
        have HPu := hide (refputS_any A1 n1 c1 v _ wr (hlo.lst (by decide)) hv (by omega))
        have HF : Hid (putS (chunkS (List.replicate i v)) v = chunkS (List.replicate (i + 1) v)) := hide (by rw [List.replicate_succ']; unfold chunkS; rw [List.foldl_append]; rfl)
        clear hlo hbel
        go_wp2_with fail
        refine HPu.out.mono ?_
        intro e w5 hmv
        unfold RefP at hmv
        obtain ⟨A6, n6, c6, xs6, rfl, hl6, hb6⟩ := hmv
        rw [HF.out] at hl6
        have HL6 := hide (hl6.less hs1 (Nat.le_refl _))
        have HB6 := hide (HBe.out.trans (hb6.mono hs1))
        clear hl6 hb6
        go_wp2
        go_roundw
        case rel => exact ⟨i + 1, A6, n6, c6, xs6, by omega, by go_num, rfl, HL6.out, HB6.out⟩
        case measure => simp [intOf]; omega
      · have i1 : decide ((i : Int) < t) = false := decide_eq_false (fun hh => hlt ((HTe.out i).2 hh))
        obtain rfl : i = T := by omega
        obtain ⟨hr, hch, ho⟩ := HSr.out wr hbel (.slice A1 n1 c1) (own_low_block hlo.1)
        have HRd := hide hr
        have HCh := hide hch
        have HOn := hide ho
        clear hlo hbel hlt hr hch ho
        go_wp2_with (at_builtin; refine wpList_append_any _ rfl (.tmp 20) (.tmp 21) 22 rfl w.heap.size 36 i0_ _ 2 32 Tryz.underlying22 hi hz0 hz1 hz2 rfl (by decide) (.slice A1 n1 c1) n1 xs rfl HLo.out.1 _ A n c ys rfl HRd.out HOn.out (by unfold maxLen; omega) (by omega) (by omega) ?_; intro v' w7 g2 g3 g4; refine Hid.out (?_ : Hid _))
        obtain ⟨A7, c7, rfl, hlo7⟩ := LOw.push HLo.out HCh.out g2 g3 g4
        have HB7 := hide (HBe.out.grown g3 hs1 (fun k hk => own_low_block HLo.out.1 k hk))
        have hs7 := HB7.out.size
        have HNo := hide (refnormS_any A7 (n1 + n) c7 (chunkS (List.replicate i v) ++ l) w7 (hlo7.lst (by decide)) (by rw [numS_app, numS_few _ (by rw [List.length_replicate]; exact hT), List.length_replicate]; omega) (by omega))
        clear g2 g3 g4 hlo7
        refine hide ?_
        go_wp2_with fail
        refine HNo.out.mono ?_
        intro e w8 hmv
        unfold RefP at hmv
        obtain ⟨A8, n8, c8, xs8, rfl, hl8, hb8⟩ := hmv
        have HL8 := hide (hl8.less hs7 (Nat.le_refl _))
        have HB8 := hide (HB7.out.trans (hb8.mono hs7))
        clear hl8 hb8
        go_wp2
        go_ret
        exact ⟨A8, n8, c8, xs8, rfl, HL8.out, HB8.out⟩
end Go.Proofs.YtplhnhoijficgaaGreatDoor
set_option linter.unusedSimpArgs false
set_option linter.unusedVariables false
namespace Go.Proofs.YtplhnhoijficgaaGreatDoor
open Go.RowKit Go.WideShapes Go.ChangeShapes
attribute [local go_sem] Oper.semAt_some
theorem setK_cut (s : List Nat) (k : Nat) (h : k * 255 < s.length) (h2 : s.length ≤ k * 255 + 255) : setK s (chunkN s.length) = setK s k ++ [⟨1, s.drop (k * 255)⟩] := by
  have e : chunkN s.length = k + 1 := by unfold chunkN; omega
  rw [e, setK_succ, List.take_of_length_le (by rw [List.length_drop]; omega)]
theorem setK_end (s : List Nat) (k : Nat) (h : s.length = k * 255) : setK s (chunkN s.length) = setK s k := by
  have e : chunkN s.length = k := by unfold chunkN; omega
  rw [e]
theorem ob_next {v v' : Value} {x y n : Nat} (h : ∀ z, v.ownBlock = some z → z = x ∨ y ≤ z) (h4 : v'.ownBlock = v.ownBlock ∨ v'.ownBlock = some n) (hn : y ≤ n) : ∀ z, v'.ownBlock = some z → z = x ∨ y ≤ z := fun z hz => by
  rcases h4 with h4 | h4
  · rw [h4] at hz; exact h z hz
  · rw [h4] at hz; cases hz; exact .inr hn
set_option maxRecDepth 100000 in
set_option maxHeartbeats 8000000 in
theorem refjoin_any (A B : Option Addr) (n c m d : Nat) (a b : List Nat) (w : World) (h : U32s w A n c a) (h' : U32s w B m d b) (hn : n ≤ 5000) (hm2 : m ≤ 5000) :
    Calls Tryz.prog 10 #[.slice A n c, .slice B m d] w (RefP (joinS a b) w) := by
  obtain ⟨i0, hi, hz0, hz1, hz2⟩ := info_parts segInfo
  have HL0 := hide (low_lit w)
  have HB0 : Hid (Below w.heap.size w (w.alloc (.cells #[] 36))) := hide ((Below.refl _ w).alloc (Nat.le_refl _) _)
  have HUa := hide (fun (W : World) (hb : Below w.heap.size w W) => h.below hb)
  have hla := h.1
  have hlb := h'.1
  have hma := h.2.2.1
  have hna := h.2.1
  unfold maxLen at hma
  have hbd := h'.2.2.2.1
  have HSe := hide (refSetB_any B m d b (w.alloc (.cells #[] 36)) (h'.below HB0.out) (by omega))
  have hsl : (setOf b).length ≤ m := by rw [← hlb]; exact setOf_len _
  have HJo : Hid (joinS a b = chunkS a ++ setK (setOf b) (chunkN (setOf b).length)) := hide rfl
  obtain ⟨ST, hST⟩ : ∃ ST, setOf b = ST := ⟨_, rfl⟩
  rw [hST] at HSe hsl HJo
  clear h h' hST
  go_enter Tryz.func10, Tryz.ntmps10
  go_wp2_with fail
  refine HSe.out.mono ?_
  rintro e w2 ⟨g5, o5, n5, c5, rfl, hu5, hb5, hg5⟩
  have hsz0 : (w.alloc (.cells #[] 36)).heap.size = w.heap.size + 1 := by simp
  have hl5 := hu5.1
  have hg5l : 0 < n5 → g5 < w2.heap.size := fun h0 => by obtain ⟨g, o, e, hg, _⟩ := hu5.2.2.2.2 h0; cases e; exact hg
  have hm5 := hu5.2.2.1
  have hn5 := hu5.2.1
  unfold maxLen at hm5
  have HU5 := hide (fun (W : World) (hb : Below w2.heap.size w2 W) => hu5.below hb)
  have HL2 := hide (HL0.out.below hb5)
  have HB2 := hide (HB0.out.trans (hb5.mono (by omega)))
  have hs2 := HB2.out.size
  have hs5 := hb5.size
  clear hu5 hb5
  go_wp2
  go_loopw [5, 7] (fun vo iv wr => ∃ (i : Nat) (A1 : Option Addr) (n1 c1 : Nat) (xs : List Value), i ≤ n ∧ iv = .int .i64 (i : Nat) ∧ vo = .slice A1 n1 c1 ∧ LOw 2 36 sgR wr w.heap.size 0 A1 n1 c1 (chunkS (a.take i)) xs ∧ Below w2.heap.size w2 wr ∧ ∀ z, (Value.slice A1 n1 c1).ownBlock = some z → z = w.heap.size ∨ w2.heap.size ≤ z) (fun _ iv _ => n - (intOf iv).toNat)
  case atStart => exact ⟨0, some ⟨w.heap.size, 0, none⟩, 0, 0, [], Nat.zero_le _, rfl, rfl, HL2.out, Below.refl _ _, fun z hz => by cases hz; exact .inl rfl⟩
  case round =>
    obtain ⟨i, A1, n1, c1, xs, hi2, rfl, rfl, hlo, hbel, hob⟩ := hrel
    have HLo := hide hlo
    have HBe := hide hbel
    have hs1 := hbel.size
    have hn1 := (hlo.lst (by decide)).1
    have hcl := chunkS_len (a.take i)
    rw [List.length_take] at hcl
    have HBw := hide (HB2.out.trans (hbel.mono hs2))
    by_cases hlt : i < n
    · obtain ⟨g2, o2, y, hB, hg2, hy, hy2, hc2⟩ := (HUa.out wr HBw.out).at_ hlt
      subst hB
      have i1 : (i : Int) < (n : Int) := by omega
      have i0' : (0 : Int) ≤ (i : Int) := by omega
      have hwi : IntKind.i64.wrap ((i : Int) + 1) = (i : Int) + 1 := by rw [IntKind.wrap_i64]; omega
      have HPu := hide (refputS_any A1 n1 c1 y _ wr (hlo.lst (by decide)) hy2 (by omega))
      have HF : Hid (putS (chunkS (a.take i)) y = chunkS (a.take (i + 1))) := hide (foldS_snoc [] a i y hy).symm
      clear hlo hbel hob hy
      go_wp2_with fail
      refine HPu.out.mono ?_
      intro e w5 hmv
      unfold RefP at hmv
      obtain ⟨A6, n6, c6, xs6, rfl, hl6, hb6⟩ := hmv
      rw [HF.out] at hl6
      have HOb6 : Hid (∀ z, (Value.slice A6 n6 c6).ownBlock = some z → z = w.heap.size ∨ w2.heap.size ≤ z) := hide (fun z hz => .inr (Nat.le_trans hs1 (own_low_block hl6.1 z hz)))
      have HL6 := hide (hl6.less (Nat.le_trans hs2 hs1) (Nat.le_refl _))
      have HB6 := hide (HBe.out.trans (hb6.mono hs1))
      clear hl6 hb6 hc2
      go_wp2
      go_roundw
      case rel => exact ⟨i + 1, A6, n6, c6, xs6, by omega, by go_num, rfl, HL6.out, HB6.out, HOb6.out⟩
      case measure => simp [intOf]; omega
    · obtain rfl : i = n := by omega
      have e1 : decide ((i : Int) < (i : Int)) = false := by simp
      have HL3 : Hid (LOw 2 36 sgR wr w.heap.size 0 A1 n1 c1 (chunkS a ++ setK ST 0) xs) := hide (by rw [show a.take i = a from List.take_of_length_le (by omega)] at hlo; simpa [setK] using hlo)
      have HOb := hide hob
      have hn1b : n1 ≤ 5000 := by omega
      obtain ⟨w3, rfl⟩ : ∃ w3, w3 = wr := ⟨wr, rfl⟩
      clear hlo hbel hob hlt hn1 hcl
      go_wp2
      go_loopw [5, 6] (fun vo vs wr => ∃ (k : Nat) (A1 : Option Addr) (n1 c1 : Nat) (xs : List Value), k * 255 ≤ n5 ∧ vs = .slice (some ⟨g5, o5 + k * 255, none⟩) (n5 - k * 255) (c5 - k * 255) ∧ vo = .slice A1 n1 c1 ∧ n1 ≤ 5000 + k ∧ LOw 2 36 sgR wr w.heap.size 0 A1 n1 c1 (chunkS a ++ setK ST k) xs ∧ (U32s wr (some ⟨g5, o5, none⟩) n5 c5 ST ∧ w2.heap.size ≤ wr.heap.size ∧ Below w.heap.size w wr) ∧ ∀ z, (Value.slice A1 n1 c1).ownBlock = some z → z = w.heap.size ∨ w2.heap.size ≤ z) (fun _ vs _ => (match vs with | .slice _ q _ => q | _ => 0))
      case atStart => exact ⟨0, A1, n1, c1, xs, Nat.zero_le _, by simp, rfl, by omega, HL3.out, ⟨HU5.out _ HBe.out, HBe.out.size, HBw.out⟩, HOb.out⟩
      case round =>
        obtain ⟨k, A1, n1, c1, xs, hk, rfl, rfl, hn1k, hlo, ⟨hu, hs1, hbw⟩, hob⟩ := hrel
        have HLo := hide hlo
        have HBe := hide hbw
        have HU7 := hide hu
        have HOb := hide hob
        clear hlo hbw hob
        obtain ⟨q, hq⟩ : ∃ q, n5 - k * 255 = q := ⟨_, rfl⟩
        obtain ⟨cq, hcq⟩ : ∃ cq, c5 - k * 255 = cq := ⟨_, rfl⟩
        obtain ⟨oq, hoq⟩ : ∃ oq, o5 + k * 255 = oq := ⟨_, rfl⟩
        rw [hq, hcq, hoq]
        have hqc : q ≤ cq := by omega
        have hcm : cq ≤ 9223372036854775807 := by omega
        by_cases hgt : 255 < q
        · have hg5w := hg5l (by omega)
          have d1 : decide (255 < (q : Int)) = true := decide_eq_true (by omega)
          have hud := u32s_drop hu (k := k * 255) (by omega)
          rw [hoq, hq, hcq] at hud
          have HUq := hide (hud.take_ (m := 255) (by omega))
          have HSk : Hid (setK ST (k + 1) = setK ST k ++ [⟨1, (ST.drop (k * 255)).take 255⟩]) := hide (setK_succ ST k)
          have hbx : Below wr.heap.size wr (wr.alloc (.cells #[.int .i64 1, .slice (some ⟨g5, oq, none⟩) 255 cq] 36)) := (Below.refl _ wr).alloc (Nat.le_refl _) _
          have HLc := hide (HLo.out.below hbx)
          have HU6 := hide (HUq.out.below hbx)
          have HBk : Hid (Blk (wr.alloc (.cells #[.int .i64 1, .slice (some ⟨g5, oq, none⟩) 255 cq] 36)) wr.heap.size 36 #[.int .i64 1, .slice (some ⟨g5, oq, none⟩) 255 cq]) := hide (Blk.new wr _ _)
          have HBc := hide (HBe.out.trans (hbx.mono (by omega)))
          have HUc := hide (HU7.out.below hbx)
          have hsx : (wr.alloc (.cells #[.int .i64 1, .slice (some ⟨g5, oq, none⟩) 255 cq] 36)).heap.size = wr.heap.size + 1 := by simp
          clear hbx
          clear hu hud
          go_wp2_with (at_builtin; refine wpList_append_any _ rfl (.tmp 26) (.tmp 30) 22 rfl w.heap.size 36 i0 _ 2 32 Tryz.underlying22 hi hz0 hz1 hz2 rfl (by decide) (.slice A1 n1 c1) n1 xs rfl HLc.out.1 _ (some ⟨wr.heap.size, 0, none⟩) 1 1 [.int .i64 1, .slice (some ⟨g5, oq, none⟩) 255 cq] rfl (reads_blkN HBk.out HBk.out.lt rfl rfl) (by simp [Value.oneCell']) (by unfold maxLen; omega) (by omega) (by omega) ?_; intro v' w8 g2 g3 g4; refine Hid.out (?_ : Hid _))
          have HOb8 := hide (ob_next HOb.out g4 (by omega))
          obtain ⟨A8, c8, rfl, hlo8⟩ := LOw.push HLc.out (chunk1_fr rfl (sg_fr' HU6.out (fun _ a ha => by cases ha; exact ⟨Nat.zero_le _, fun e => by have h9 := HOb.out _ e.symm; simp only at h9; omega⟩))) g2 g3 g4
          have HL8 := hide hlo8
          have HU8 := hide (u32s_grown HUc.out g3 (fun h0 a ha e => by cases ha; have h9 := HOb.out _ e.symm; have := hg5l h0; simp only at h9; omega))
          have HBw8 := hide (HBc.out.grown g3 (by omega) (fun k hk => own_low_block HLo.out.1 k hk))
          have HBsz := hide g3.size
          clear hlo8 g2 g3 g4
          refine hide ?_
          go_wp2
          go_roundw
          case rel => exact ⟨k + 1, A8, n1 + 1, c8, _, by omega, by rw [show o5 + (k + 1) * 255 = oq + 255 by omega, show n5 - (k + 1) * 255 = q - 255 by omega, show c5 - (k + 1) * 255 = cq - 255 by omega], rfl, by omega, by rw [HSk.out, ← List.append_assoc]; exact HL8.out, ⟨HU8.out, by have := HBsz.out; omega, HBw8.out⟩, HOb8.out⟩
          case measure => simp; omega
        · have d1 : decide (255 < (q : Int)) = false := decide_eq_false (by omega)
          by_cases hq0 : 0 < q
          · have hg5w := hg5l (by omega)
            have d2 : decide (0 < (q : Int)) = true := decide_eq_true (by omega)
            have d3 : decide (0 < q) = true := decide_eq_true hq0
            have hud := u32s_drop hu (k := k * 255) (by omega)
            rw [hoq, hq, hcq] at hud
            have HUq := hide hud
            have HJ : Hid (joinS a b = chunkS a ++ setK ST k ++ [⟨1, ST.drop (k * 255)⟩]) := hide (by rw [HJo.out, setK_cut ST k (by omega) (by omega), List.append_assoc])
            have hbx : Below wr.heap.size wr (wr.alloc (.cells #[.int .i64 1, .slice (some ⟨g5, oq, none⟩) q cq] 36)) := (Below.refl _ wr).alloc (Nat.le_refl _) _
            have HLc := hide (HLo.out.below hbx)
            have HU6 := hide (HUq.out.below hbx)
            have HBk : Hid (Blk (wr.alloc (.cells #[.int .i64 1, .slice (some ⟨g5, oq, none⟩) q cq] 36)) wr.heap.size 36 #[.int .i64 1, .slice (some ⟨g5, oq, none⟩) q cq]) := hide (Blk.new wr _ _)
            have HBc := hide (HBe.out.trans (hbx.mono (by omega)))
            have HUc := hide (HU7.out.below hbx)
            have hsx : (wr.alloc (.cells #[.int .i64 1, .slice (some ⟨g5, oq, none⟩) q cq] 36)).heap.size = wr.heap.size + 1 := by simp
            clear hbx
            clear hu hud
            go_wp2_with (at_builtin; refine wpList_append_any _ rfl (.tmp 37) (.tmp 40) 22 rfl w.heap.size 36 i0 _ 2 32 Tryz.underlying22 hi hz0 hz1 hz2 rfl (by decide) (.slice A1 n1 c1) n1 xs rfl HLc.out.1 _ (some ⟨wr.heap.size, 0, none⟩) 1 1 [.int .i64 1, .slice (some ⟨g5, oq, none⟩) q cq] rfl (reads_blkN HBk.out HBk.out.lt rfl rfl) (by simp [Value.oneCell']) (by unfold maxLen; omega) (by omega) (by omega) ?_; intro v' w8 g2 g3 g4; refine Hid.out (?_ : Hid _))
            have HOb8 := hide (ob_next HOb.out g4 (by omega))
            obtain ⟨A8, c8, rfl, hlo8⟩ := LOw.push HLc.out (chunk1_fr rfl (sg_fr' HU6.out (fun _ a ha => by cases ha; exact ⟨Nat.zero_le _, fun e => by have h9 := HOb.out _ e.symm; simp only at h9; omega⟩))) g2 g3 g4
            have HL8 := hide hlo8
            have HU8 := hide (u32s_grown HUc.out g3 (fun h0 a ha e => by cases ha; have h9 := HOb.out _ e.symm; have := hg5l h0; simp only at h9; omega))
            have HBw8 := hide (HBc.out.grown g3 (by omega) (fun k hk => own_low_block HLo.out.1 k hk))
            have HBsz := hide g3.size
            clear hlo8 g2 g3 g4
            refine hide ?_
            go_wp2
            go_ret
            exact ⟨A8, n1 + 1, c8, _, rfl, by rw [HJ.out]; exact HL8.out, HBw8.out⟩
          · have d2 : decide (0 < (q : Int)) = false := decide_eq_false (by omega)
            have d3 : decide (0 < q) = false := decide_eq_false hq0
            have HJ : Hid (joinS a b = chunkS a ++ setK ST k) := hide (by rw [HJo.out, setK_end ST k (by omega)])
            clear hu
            go_wp2
            go_ret
            exact ⟨A1, n1, c1, xs, rfl, by rw [HJ.out]; exact HLo.out, HBe.out⟩
end Go.Proofs.YtplhnhoijficgaaGreatDoor
set_option linter.unusedSimpArgs false
set_option linter.unusedVariables false
namespace Go.Proofs.YtplhnhoijficgaaGreatDoor
open Go.RowKit Go.WideShapes Go.ChangeShapes
attribute [local go_sem] Oper.semAt_some
set_option maxRecDepth 100000 in
set_option maxHeartbeats 8000000 in
theorem psame_eq (A B : Option Addr) (n c m d : Nat) (l : List SG) (w : World) (h : LstAt 2 sgR w A n c l) (h' : LstAt 2 sgR w B m d l) (hn2 : n ≤ 100000) :
    Calls Tryz.prog 7 #[.slice A n c, .slice B m d] w (fun e w' => e = .returned (.bool true) ∧ Below w.heap.size w w') := by
  obtain rfl : n = m := h.1.symm.trans h'.1
  have hnc := h.2.1
  have hmx := h.2.2.1
  have hnd := h'.2.1
  have hmx2 := h'.2.2.1
  unfold maxLen at hmx hmx2
  have HL1 := hide h
  have HL2 := hide h'
  clear h h'
  go_enter Tryz.func7, Tryz.ntmps7
  go_wp2
  go_loopw [5] (fun iv wr => ∃ i : Nat, i ≤ n ∧ iv = .int .i64 (i : Nat) ∧ Below w.heap.size w wr) (fun iv _ => n - (intOf iv).toNat)
  case atStart => exact ⟨0, Nat.zero_le _, rfl, Below.refl _ _⟩
  case round =>
    obtain ⟨i, hi, rfl, hbel⟩ := hrel
    have HBe := hide hbel
    by_cases hlt : i < n
    · obtain ⟨g, o, b, B1, m1, d1, r, rfl, hg, hx, hr1, hz0, hz1⟩ := SGat (HL1.out.below sgMono hbel) hlt
      obtain ⟨g2, o2, b2, B2, m2, d2, r2, rfl, hg2, hx2, hr2, hy0, hy1⟩ := SGat (HL2.out.below sgMono hbel) hlt
      rw [hx] at hx2
      simp only [Option.some.injEq, SG.mk.injEq] at hx2
      obtain ⟨rfl, rfl⟩ := hx2
      have HZ0 := hide hz0
      have HZ1 := hide hz1
      have HY0 := hide hy0
      have HY1 := hide hy1
      have HR1 := hide hr1
      have HR2 := hide hr2
      have i1 : (i : Int) < (n : Int) := by omega
      have i0 : (0 : Int) ≤ (i : Int) := by omega
      have hwi : IntKind.i64.wrap ((i : Int) + 1) = (i : Int) + 1 := by rw [IntKind.wrap_i64]; omega
      clear hbel hx hr1 hr2 hz0 hz1 hy0 hy1
      go_wp2
      have Hmn := hide (show AllMono [(fun v _ => v = .slice (some ⟨g, o, none⟩) n c), (fun v _ => v = .int .i64 (i : Int)), (fun v _ => v = .pointer (some ⟨g, o + i * 2, none⟩)), (fun v _ => v = .pointer (some ⟨g, o + i * 2, none⟩)), (fun v _ => v = .int .i64 b), (fun v _ => v = .slice (some ⟨g2, o2, none⟩) n d), (fun v _ => v = .int .i64 (i : Int)), (fun v _ => v = .pointer (some ⟨g2, o2 + i * 2, none⟩)), (fun v _ => v = .pointer (some ⟨g2, o2 + i * 2, none⟩)), (fun v _ => v = .int .i64 b), (fun v _ => v = .bool false), (fun v _ => v = .bool false), (fun v _ => v = .slice (some ⟨g, o, none⟩) n c), (fun v _ => v = .int .i64 (i : Int)), (fun v _ => v = .pointer (some ⟨g, o + i * 2, none⟩)), (fun v _ => v = .pointer (some ⟨g, o + i * 2 + 1, none⟩)), (fun v _ => v = .slice B1 m1 d1), (fun v _ => v = .slice (some ⟨g2, o2, none⟩) n d), (fun v _ => v = .int .i64 (i : Int)), (fun v _ => v = .pointer (some ⟨g2, o2 + i * 2, none⟩)), (fun v _ => v = .pointer (some ⟨g2, o2 + i * 2 + 1, none⟩)), (fun v _ => v = .slice B2 m2 d2), (fun v _ => v = .bool true), (fun v _ => v = .bool false), (fun v _ => v = .bool false)] from ⟨fun _ _ _ _ h => h, fun _ _ _ _ h => h, fun _ _ _ _ h => h, fun _ _ _ _ h => h, fun _ _ _ _ h => h, fun _ _ _ _ h => h, fun _ _ _ _ h => h, fun _ _ _ _ h => h, fun _ _ _ _ h => h, fun _ _ _ _ h => h, fun _ _ _ _ h => h, fun _ _ _ _ h => h, fun _ _ _ _ h => h, fun _ _ _ _ h => h, fun _ _ _ _ h => h, fun _ _ _ _ h => h, fun _ _ _ _ h => h, fun _ _ _ _ h => h, fun _ _ _ _ h => h, fun _ _ _ _ h => h, fun _ _ _ _ h => h, fun _ _ _ _ h => h, fun _ _ _ _ h => h, fun _ _ _ _ h => h, fun _ _ _ _ h => h, trivial⟩)
      refine wp_region_rel _ (by kernel_rfl) (by kernel_rfl) (relMono _ Hmn.out) ⟨?_, ?_, ?_, ?_, ?_, ?_, ?_, ?_, ?_, ?_, ?_, ?_, ?_, ?_, ?_, ?_, ?_, ?_, ?_, ?_, ?_, ?_, ?_, ?_, ?_, trivial⟩ ?_
      · refine relStep_plain rfl ?_
        intro Ac w5 hp
        have hb := hp.bel
        have a0 : Ac.eval (.tmp 0) = .slice (some ⟨g, o, none⟩) n c := hp.out 0 (by rfl)
        have hc := evalC Ac; have hf := evalF Ac; have hgl := evalG Ac
        obtain ⟨ρ, hρ⟩ : ∃ ρ, Ac.eval = ρ := ⟨_, rfl⟩
        rw [hρ] at a0 hc hf hgl
        exact relPure hρ (.slice (some ⟨g, o, none⟩) n c) (by simp [go_sem, hc, hf, hgl, ↓IntWalk.iteOmega, a0, *]) rfl
      · refine relStep_plain rfl ?_
        intro Ac w5 hp
        have hb := hp.bel
        have a5 : Ac.eval (.tmp 5) = .int .i64 (i : Int) := hp.out 5 (by rfl)
        have hc := evalC Ac; have hf := evalF Ac; have hgl := evalG Ac
        obtain ⟨ρ, hρ⟩ : ∃ ρ, Ac.eval = ρ := ⟨_, rfl⟩
        rw [hρ] at a5 hc hf hgl
        exact relPure hρ (.int .i64 (i : Int)) (by simp [go_sem, hc, hf, hgl, ↓IntWalk.iteOmega, a5, *]) rfl
      · refine relStep_plain rfl ?_
        intro Ac w5 hp
        have hb := hp.bel
        have a17 : Ac.eval (.tmp 17) = .slice (some ⟨g, o, none⟩) n c := hp.dep 0 (by kernel_rfl)
        have a18 : Ac.eval (.tmp 18) = .int .i64 (i : Int) := hp.dep 1 (by kernel_rfl)
        have hc := evalC Ac; have hf := evalF Ac; have hgl := evalG Ac
        obtain ⟨ρ, hρ⟩ : ∃ ρ, Ac.eval = ρ := ⟨_, rfl⟩
        rw [hρ] at a17 a18 hc hf hgl
        exact relPure hρ (.pointer (some ⟨g, o + i * 2, none⟩)) (by simp [go_sem, hc, hf, hgl, ↓IntWalk.iteOmega, a17, a18, *]) rfl
      · refine relStep_plain rfl ?_
        intro Ac w5 hp
        have hb := hp.bel
        have a19 : Ac.eval (.tmp 19) = .pointer (some ⟨g, o + i * 2, none⟩) := hp.dep 2 (by kernel_rfl)
        have hc := evalC Ac; have hf := evalF Ac; have hgl := evalG Ac
        obtain ⟨ρ, hρ⟩ : ∃ ρ, Ac.eval = ρ := ⟨_, rfl⟩
        rw [hρ] at a19 hc hf hgl
        exact relPure hρ (.pointer (some ⟨g, o + i * 2, none⟩)) (by simp [go_sem, hc, hf, hgl, ↓IntWalk.iteOmega, a19, *]) rfl
      · refine relStep_plain rfl ?_
        intro Ac w5 hp
        have hb := hp.bel
        have a20 : Ac.eval (.tmp 20) = .pointer (some ⟨g, o + i * 2, none⟩) := hp.dep 3 (by kernel_rfl)
        have z0 : w5.cell? ⟨g, o + i * 2, none⟩ = some (.int .i64 b) := (hb.cell hg).trans HZ0.out
        have z1 : w5.cell? ⟨g, o + i * 2 + 1, none⟩ = some (.slice B1 m1 d1) := (hb.cell hg).trans HZ1.out
        have hc := evalC Ac; have hf := evalF Ac; have hgl := evalG Ac
        obtain ⟨ρ, hρ⟩ : ∃ ρ, Ac.eval = ρ := ⟨_, rfl⟩
        rw [hρ] at a20 hc hf hgl
        exact relPure hρ (.int .i64 b) (by simp [go_sem, hc, hf, hgl, ↓IntWalk.iteOmega, a20, *]) rfl
      · refine relStep_plain rfl ?_
        intro Ac w5 hp
        have hb := hp.bel
        have a1 : Ac.eval (.tmp 1) = .slice (some ⟨g2, o2, none⟩) n d := hp.out 1 (by rfl)
        have hc := evalC Ac; have hf := evalF Ac; have hgl := evalG Ac
        obtain ⟨ρ, hρ⟩ : ∃ ρ, Ac.eval = ρ := ⟨_, rfl⟩
        rw [hρ] at a1 hc hf hgl
        exact relPure hρ (.slice (some ⟨g2, o2, none⟩) n d) (by simp [go_sem, hc, hf, hgl, ↓IntWalk.iteOmega, a1, *]) rfl
      · refine relStep_plain rfl ?_
        intro Ac w5 hp
        have hb := hp.bel
        have a5 : Ac.eval (.tmp 5) = .int .i64 (i : Int) := hp.out 5 (by rfl)
        have hc := evalC Ac; have hf := evalF Ac; have hgl := evalG Ac
        obtain ⟨ρ, hρ⟩ : ∃ ρ, Ac.eval = ρ := ⟨_, rfl⟩
        rw [hρ] at a5 hc hf hgl
        exact relPure hρ (.int .i64 (i : Int)) (by simp [go_sem, hc, hf, hgl, ↓IntWalk.iteOmega, a5, *]) rfl
      · refine relStep_plain rfl ?_
        intro Ac w5 hp
        have hb := hp.bel
        have a22 : Ac.eval (.tmp 22) = .slice (some ⟨g2, o2, none⟩) n d := hp.dep 5 (by kernel_rfl)
        have a23 : Ac.eval (.tmp 23) = .int .i64 (i : Int) := hp.dep 6 (by kernel_rfl)
        have hc := evalC Ac; have hf := evalF Ac; have hgl := evalG Ac
        obtain ⟨ρ, hρ⟩ : ∃ ρ, Ac.eval = ρ := ⟨_, rfl⟩
        rw [hρ] at a22 a23 hc hf hgl
        exact relPure hρ (.pointer (some ⟨g2, o2 + i * 2, none⟩)) (by simp [go_sem, hc, hf, hgl, ↓IntWalk.iteOmega, a22, a23, *]) rfl
      · refine relStep_plain rfl ?_
        intro Ac w5 hp
        have hb := hp.bel
        have a24 : Ac.eval (.tmp 24) = .pointer (some ⟨g2, o2 + i * 2, none⟩) := hp.dep 7 (by kernel_rfl)
        have hc := evalC Ac; have hf := evalF Ac; have hgl := evalG Ac
        obtain ⟨ρ, hρ⟩ : ∃ ρ, Ac.eval = ρ := ⟨_, rfl⟩
        rw [hρ] at a24 hc hf hgl
        exact relPure hρ (.pointer (some ⟨g2, o2 + i * 2, none⟩)) (by simp [go_sem, hc, hf, hgl, ↓IntWalk.iteOmega, a24, *]) rfl
      · refine relStep_plain rfl ?_
        intro Ac w5 hp
        have hb := hp.bel
        have a25 : Ac.eval (.tmp 25) = .pointer (some ⟨g2, o2 + i * 2, none⟩) := hp.dep 8 (by kernel_rfl)
        have y0 : w5.cell? ⟨g2, o2 + i * 2, none⟩ = some (.int .i64 b) := (hb.cell hg2).trans HY0.out
        have y1 : w5.cell? ⟨g2, o2 + i * 2 + 1, none⟩ = some (.slice B2 m2 d2) := (hb.cell hg2).trans HY1.out
        have hc := evalC Ac; have hf := evalF Ac; have hgl := evalG Ac
        obtain ⟨ρ, hρ⟩ : ∃ ρ, Ac.eval = ρ := ⟨_, rfl⟩
        rw [hρ] at a25 hc hf hgl
        exact relPure hρ (.int .i64 b) (by simp [go_sem, hc, hf, hgl, ↓IntWalk.iteOmega, a25, *]) rfl
      · refine relStep_plain rfl ?_
        intro Ac w5 hp
        have hb := hp.bel
        have a21 : Ac.eval (.tmp 21) = .int .i64 b := hp.dep 4 (by kernel_rfl)
        have a26 : Ac.eval (.tmp 26) = .int .i64 b := hp.dep 9 (by kernel_rfl)
        have hc := evalC Ac; have hf := evalF Ac; have hgl := evalG Ac
        obtain ⟨ρ, hρ⟩ : ∃ ρ, Ac.eval = ρ := ⟨_, rfl⟩
        rw [hρ] at a21 a26 hc hf hgl
        exact relPure hρ (.bool false) (by simp [go_sem, hc, hf, hgl, ↓IntWalk.iteOmega, a21, a26, *]) rfl
      · refine relStep_plain rfl ?_
        intro Ac w5 hp
        have hb := hp.bel
        have a27 : Ac.eval (.tmp 27) = .bool false := hp.dep 10 (by kernel_rfl)
        have hc := evalC Ac; have hf := evalF Ac; have hgl := evalG Ac
        obtain ⟨ρ, hρ⟩ : ∃ ρ, Ac.eval = ρ := ⟨_, rfl⟩
        rw [hρ] at a27 hc hf hgl
        exact relPure hρ (.bool false) (by simp [go_sem, hc, hf, hgl, ↓IntWalk.iteOmega, a27, *]) rfl
      · refine relStep_guard (g := 11) (b := false) (x := false) rfl (by kernel_rfl) rfl (by kernel_rfl) rfl (fun _ _ h => h) ?_
        intro Ac w5 hp
        have hb := hp.bel
        have a0 : Ac.eval (.tmp 0) = .slice (some ⟨g, o, none⟩) n c := hp.out 0 (by rfl)
        have hc := evalC Ac; have hf := evalF Ac; have hgl := evalG Ac
        obtain ⟨ρ, hρ⟩ : ∃ ρ, Ac.eval = ρ := ⟨_, rfl⟩
        rw [hρ] at a0 hc hf hgl
        exact relPure hρ (.slice (some ⟨g, o, none⟩) n c) (by simp [go_sem, hc, hf, hgl, ↓IntWalk.iteOmega, a0, *]) rfl
      · refine relStep_guard (g := 11) (b := false) (x := false) rfl (by kernel_rfl) rfl (by kernel_rfl) rfl (fun _ _ h => h) ?_
        intro Ac w5 hp
        have hb := hp.bel
        have a5 : Ac.eval (.tmp 5) = .int .i64 (i : Int) := hp.out 5 (by rfl)
        have hc := evalC Ac; have hf := evalF Ac; have hgl := evalG Ac
        obtain ⟨ρ, hρ⟩ : ∃ ρ, Ac.eval = ρ := ⟨_, rfl⟩
        rw [hρ] at a5 hc hf hgl
        exact relPure hρ (.int .i64 (i : Int)) (by simp [go_sem, hc, hf, hgl, ↓IntWalk.iteOmega, a5, *]) rfl
      · refine relStep_guard (g := 11) (b := false) (x := false) rfl (by kernel_rfl) rfl (by kernel_rfl) rfl (fun _ _ h => h) ?_
        intro Ac w5 hp
        have hb := hp.bel
        have a29 : Ac.eval (.tmp 29) = .slice (some ⟨g, o, none⟩) n c := hp.dep 12 (by kernel_rfl)
        have a30 : Ac.eval (.tmp 30) = .int .i64 (i : Int) := hp.dep 13 (by kernel_rfl)
        have hc := evalC Ac; have hf := evalF Ac; have hgl := evalG Ac
        obtain ⟨ρ, hρ⟩ : ∃ ρ, Ac.eval = ρ := ⟨_, rfl⟩
        rw [hρ] at a29 a30 hc hf hgl
        exact relPure hρ (.pointer (some ⟨g, o + i * 2, none⟩)) (by simp [go_sem, hc, hf, hgl, ↓IntWalk.iteOmega, a29, a30, *]) rfl
      · refine relStep_guard (g := 11) (b := false) (x := false) rfl (by kernel_rfl) rfl (by kernel_rfl) rfl (fun _ _ h => h) ?_
        intro Ac w5 hp
        have hb := hp.bel
        have a31 : Ac.eval (.tmp 31) = .pointer (some ⟨g, o + i * 2, none⟩) := hp.dep 14 (by kernel_rfl)
        have hc := evalC Ac; have hf := evalF Ac; have hgl := evalG Ac
        obtain ⟨ρ, hρ⟩ : ∃ ρ, Ac.eval = ρ := ⟨_, rfl⟩
        rw [hρ] at a31 hc hf hgl
        exact relPure hρ (.pointer (some ⟨g, o + i * 2 + 1, none⟩)) (by simp [go_sem, hc, hf, hgl, ↓IntWalk.iteOmega, a31, *]) rfl
      · refine relStep_guard (g := 11) (b := false) (x := false) rfl (by kernel_rfl) rfl (by kernel_rfl) rfl (fun _ _ h => h) ?_
        intro Ac w5 hp
        have hb := hp.bel
        have a32 : Ac.eval (.tmp 32) = .pointer (some ⟨g, o + i * 2 + 1, none⟩) := hp.dep 15 (by kernel_rfl)
        have z0 : w5.cell? ⟨g, o + i * 2, none⟩ = some (.int .i64 b) := (hb.cell hg).trans HZ0.out
        have z1 : w5.cell? ⟨g, o + i * 2 + 1, none⟩ = some (.slice B1 m1 d1) := (hb.cell hg).trans HZ1.out
        have hc := evalC Ac; have hf := evalF Ac; have hgl := evalG Ac
        obtain ⟨ρ, hρ⟩ : ∃ ρ, Ac.eval = ρ := ⟨_, rfl⟩
        rw [hρ] at a32 hc hf hgl
        exact relPure hρ (.slice B1 m1 d1) (by simp [go_sem, hc, hf, hgl, ↓IntWalk.iteOmega, a32, *]) rfl
      · refine relStep_guard (g := 11) (b := false) (x := false) rfl (by kernel_rfl) rfl (by kernel_rfl) rfl (fun _ _ h => h) ?_
        intro Ac w5 hp
        have hb := hp.bel
        have a1 : Ac.eval (.tmp 1) = .slice (some ⟨g2, o2, none⟩) n d := hp.out 1 (by rfl)
        have hc := evalC Ac; have hf := evalF Ac; have hgl := evalG Ac
        obtain ⟨ρ, hρ⟩ : ∃ ρ, Ac.eval = ρ := ⟨_, rfl⟩
        rw [hρ] at a1 hc hf hgl
        exact relPure hρ (.slice (some ⟨g2, o2, none⟩) n d) (by simp [go_sem, hc, hf, hgl, ↓IntWalk.iteOmega, a1, *]) rfl
      · refine relStep_guard (g := 11) (b := false) (x := false) rfl (by kernel_rfl) rfl (by kernel_rfl) rfl (fun _ _ h => h) ?_
        intro Ac w5 hp
        have hb := hp.bel
        have a5 : Ac.eval (.tmp 5) = .int .i64 (i : Int) := hp.out 5 (by rfl)
        have hc := evalC Ac; have hf := evalF Ac; have hgl := evalG Ac
        obtain ⟨ρ, hρ⟩ : ∃ ρ, Ac.eval = ρ := ⟨_, rfl⟩
        rw [hρ] at a5 hc hf hgl
        exact relPure hρ (.int .i64 (i : Int)) (by simp [go_sem, hc, hf, hgl, ↓IntWalk.iteOmega, a5, *]) rfl
      · refine relStep_guard (g := 11) (b := false) (x := false) rfl (by kernel_rfl) rfl (by kernel_rfl) rfl (fun _ _ h => h) ?_
        intro Ac w5 hp
        have hb := hp.bel
        have a34 : Ac.eval (.tmp 34) = .slice (some ⟨g2, o2, none⟩) n d := hp.dep 17 (by kernel_rfl)
        have a35 : Ac.eval (.tmp 35) = .int .i64 (i : Int) := hp.dep 18 (by kernel_rfl)
        have hc := evalC Ac; have hf := evalF Ac; have hgl := evalG Ac
        obtain ⟨ρ, hρ⟩ : ∃ ρ, Ac.eval = ρ := ⟨_, rfl⟩
        rw [hρ] at a34 a35 hc hf hgl
        exact relPure hρ (.pointer (some ⟨g2, o2 + i * 2, none⟩)) (by simp [go_sem, hc, hf, hgl, ↓IntWalk.iteOmega, a34, a35, *]) rfl
      · refine relStep_guard (g := 11) (b := false) (x := false) rfl (by kernel_rfl) rfl (by kernel_rfl) rfl (fun _ _ h => h) ?_
        intro Ac w5 hp
        have hb := hp.bel
        have a36 : Ac.eval (.tmp 36) = .pointer (some ⟨g2, o2 + i * 2, none⟩) := hp.dep 19 (by kernel_rfl)
        have hc := evalC Ac; have hf := evalF Ac; have hgl := evalG Ac
        obtain ⟨ρ, hρ⟩ : ∃ ρ, Ac.eval = ρ := ⟨_, rfl⟩
        rw [hρ] at a36 hc hf hgl
        exact relPure hρ (.pointer (some ⟨g2, o2 + i * 2 + 1, none⟩)) (by simp [go_sem, hc, hf, hgl, ↓IntWalk.iteOmega, a36, *]) rfl
      · refine relStep_guard (g := 11) (b := false) (x := false) rfl (by kernel_rfl) rfl (by kernel_rfl) rfl (fun _ _ h => h) ?_
        intro Ac w5 hp
        have hb := hp.bel
        have a37 : Ac.eval (.tmp 37) = .pointer (some ⟨g2, o2 + i * 2 + 1, none⟩) := hp.dep 20 (by kernel_rfl)
        have y0 : w5.cell? ⟨g2, o2 + i * 2, none⟩ = some (.int .i64 b) := (hb.cell hg2).trans HY0.out
        have y1 : w5.cell? ⟨g2, o2 + i * 2 + 1, none⟩ = some (.slice B2 m2 d2) := (hb.cell hg2).trans HY1.out
        have hc := evalC Ac; have hf := evalF Ac; have hgl := evalG Ac
        obtain ⟨ρ, hρ⟩ : ∃ ρ, Ac.eval = ρ := ⟨_, rfl⟩
        rw [hρ] at a37 hc hf hgl
        exact relPure hρ (.slice B2 m2 d2) (by simp [go_sem, hc, hf, hgl, ↓IntWalk.iteOmega, a37, *]) rfl
      · refine relStep_guard (g := 11) (b := false) (x := false) rfl (by kernel_rfl) rfl (by kernel_rfl) rfl (fun _ _ h => h) ?_
        intro Ac w5 hp
        have hb := hp.bel
        have a33 : Ac.eval (.tmp 33) = .slice B1 m1 d1 := hp.dep 16 (by kernel_rfl)
        have a38 : Ac.eval (.tmp 38) = .slice B2 m2 d2 := hp.dep 21 (by kernel_rfl)
        have hc := evalC Ac; have hf := evalF Ac; have hgl := evalG Ac
        obtain ⟨ρ, hρ⟩ : ∃ ρ, Ac.eval = ρ := ⟨_, rfl⟩
        rw [hρ] at a33 a38 hc hf hgl
        refine relCall hρ 16 #[.slice B1 m1 d1, .slice B2 m2 d2] (by simp [go_sem, hc, hf, hgl, ↓IntWalk.iteOmega, a33, a38, *]) ?_
        refine (refSame_any B1 m1 d1 r B2 m2 d2 r w5 (HR1.out.below hb) (HR2.out.below hb)).mono ?_
        rintro e w6 ⟨rfl, hb6⟩
        exact ⟨_, rfl, by rw [decide_eq_true rfl]; rfl, hb6⟩
      · refine relStep_guard (g := 11) (b := false) (x := false) rfl (by kernel_rfl) rfl (by kernel_rfl) rfl (fun _ _ h => h) ?_
        intro Ac w5 hp
        have hb := hp.bel
        have a39 : Ac.eval (.tmp 39) = .bool true := hp.dep 22 (by kernel_rfl)
        have hc := evalC Ac; have hf := evalF Ac; have hgl := evalG Ac
        obtain ⟨ρ, hρ⟩ : ∃ ρ, Ac.eval = ρ := ⟨_, rfl⟩
        rw [hρ] at a39 hc hf hgl
        exact relPure hρ (.bool false) (by simp [go_sem, hc, hf, hgl, ↓IntWalk.iteOmega, a39, *]) rfl
      · refine relStep_plain rfl ?_
        intro Ac w5 hp
        have hb := hp.bel
        have a28 : Ac.eval (.tmp 28) = .bool false := hp.dep 11 (by kernel_rfl)
        have a40 : Ac.eval (.tmp 40) = .bool false := hp.dep 23 (by kernel_rfl)
        have hc := evalC Ac; have hf := evalF Ac; have hgl := evalG Ac
        obtain ⟨ρ, hρ⟩ : ∃ ρ, Ac.eval = ρ := ⟨_, rfl⟩
        rw [hρ] at a28 a40 hc hf hgl
        exact relPure hρ (.bool false) (by simp [go_sem, hc, hf, hgl, ↓IntWalk.iteOmega, a28, a40, *]) rfl
      intro u w8 hb7 hall
      have e41 : u 24 = .bool false := relAll_at hall (i := 24) (by decide +kernel)
      clear hall
      simp only [List.drop_succ_cons, List.drop_zero, List.take_succ_cons, List.take_zero, putAll, Act.put, List.setIfInBounds_toArray, List.set_cons_zero, List.set_cons_succ, Nat.zero_add, Nat.reduceAdd, e41]
      have HB8 := hide (HBe.out.trans (hb7.mono HBe.out.size))
      clear hb7
      go_wp2
      go_roundw
      case rel => exact ⟨i + 1, by omega, by go_num, HB8.out⟩
      case measure => simp [intOf]; omega
    · obtain rfl : i = n := by omega
      have e1 : decide ((i : Int) < (i : Int)) = false := by simp
      clear hbel hlt
      go_wp2
      go_ret
      exact ⟨rfl, HBe.out⟩
end Go.Proofs.YtplhnhoijficgaaGreatDoor
set_option linter.unusedSimpArgs false
set_option linter.unusedVariables false
namespace Go.Proofs.YtplhnhoijficgaaGreatDoor
open Go.RowKit Go.WideShapes Go.ChangeShapes
attribute [local go_sem] Oper.semAt_some
def cutSG (x : SG) : SG := ⟨x.k, x.r.take 300⟩
def cutP (l : List SG) : List SG := (l.take 12).map cutSG
theorem cutP_len (l : List SG) : (cutP l).length ≤ 12 := by unfold cutP; rw [List.length_map, List.length_take]; omega
theorem cutP_num (l : List SG) : numS (cutP l) ≤ 3600 := by
  have key : ∀ l : List SG, numS (l.map cutSG) ≤ 300 * l.length := by
    intro l
    induction l with
    | nil => simp [numS]
    | cons x l ih =>
      have e : numS ((x :: l).map cutSG) = (x.r.take 300).length + numS (l.map cutSG) := by simp [numS, cutSG]
      rw [e, List.length_take, List.length_cons]
      omega
  have h1 := key (l.take 12)
  have h2 : (l.take 12).length ≤ 12 := by rw [List.length_take]; omega
  unfold cutP
  omega
theorem cutP_cut (l : List SG) : cutP (cutP l) = cutP l := by
  unfold cutP
  rw [List.take_of_length_le (by rw [List.length_map, List.length_take]; omega), List.map_map]
  refine List.map_congr_left fun x _ => ?_
  simp [cutSG, List.take_take]
set_option maxRecDepth 100000 in
set_option maxHeartbeats 8000000 in
theorem pathFew_any (A : Option Addr) (n c : Nat) (l : List SG) (w : World) (h : LstAt 2 sgR w A n c l) :
    Calls Tryz.prog 4 #[.slice A n c] w (SegP (cutP l) w) := by
  obtain ⟨i0, hi, hz0, hz1, hz2⟩ := info_parts segInfo
  have hln := h.1
  have hnc := h.2.1
  have hmx := h.2.2.1
  unfold maxLen at hmx
  have HLs := hide h
  have HL0 : Hid (LOw 2 36 sgR (w.alloc (.cells #[] 36)) w.heap.size w.heap.size (some ⟨w.heap.size, 0, none⟩) 0 0 [] []) := hide ⟨w.ownsRow_lit #[] 0 (Nat.le_refl _) (by unfold maxLen; omega) rfl, by simp, fun k x hk => by simp at hk⟩
  have HB0 : Hid (Below w.heap.size w (w.alloc (.cells #[] 36))) := hide ((Below.refl _ w).alloc (Nat.le_refl _) _)
  clear h
  go_enter Tryz.func4, Tryz.ntmps4
  go_wp2
  go_loopw [3, 4] (fun vo iv wr => ∃ (q : Nat) (A1 : Option Addr) (n1 c1 : Nat) (xs : List Value), q ≤ n ∧ q ≤ 12 ∧ iv = .int .i64 (q : Nat) ∧ vo = .slice A1 n1 c1 ∧ LOw 2 36 sgR wr w.heap.size w.heap.size A1 n1 c1 ((l.take q).map cutSG) xs ∧ Below w.heap.size w wr) (fun _ iv _ => n - (intOf iv).toNat)
  case atStart => exact ⟨0, some ⟨w.heap.size, 0, none⟩, 0, 0, [], Nat.zero_le _, Nat.zero_le _, rfl, rfl, HL0.out, HB0.out⟩
  case round =>
    obtain ⟨q, A1, n1, c1, xs, hq, hq12, rfl, rfl, hlo, hbel⟩ := hrel
    have HLo := hide hlo
    have HBe := hide hbel
    have hs1 := hbel.size
    have hn1 := (hlo.lst (by decide)).1
    rw [List.length_map, List.length_take] at hn1
    by_cases hlt : q < n ∧ q < 12
    · obtain ⟨hlt, hl12⟩ := hlt
      obtain ⟨g, o, b, Bq, m, d, r, rfl, hg, hx, hr, hc0, hc1⟩ := SGat (HLs.out.below sgMono hbel) hlt
      obtain ⟨RT, hRT⟩ : ∃ RT, r.take 300 = RT := ⟨_, rfl⟩
      have HE : Hid ((l.take (q + 1)).map cutSG = (l.take q).map cutSG ++ [⟨b, RT⟩]) := hide (by rw [List.take_add_one, hx, ← hRT]; simp [cutSG])
      have HZ0 := hide hc0
      have HZ1 := hide hc1
      have HUr := hide hr
      have HRT := hide hRT
      have HRb : Hid (∀ y ∈ RT, y < 4294967296) := hide (by rw [← hRT]; exact fun y hy => hr.2.2.2.1 y (List.mem_of_mem_take hy))
      have q1 : (q : Int) < (n : Int) := by omega
      have q2 : (q : Int) < 12 := by omega
      have q0 : (0 : Int) ≤ (q : Int) := by omega
      have hwq : IntKind.i64.wrap ((q : Int) + 1) = (q : Int) + 1 := by rw [IntKind.wrap_i64]; omega
      clear hlo hbel hx hr hc0 hc1 hRT
      go_wp2
      have Hmn := hide (show AllMono [(fun v _ => v = Value.slice A1 n1 c1), (fun v _ => v = .slice (some ⟨g, o, none⟩) n c), (fun v _ => v = .int .i64 (q : Int)), (fun v _ => v = .pointer (some ⟨g, o + q * 2, none⟩)), (fun v _ => v = .pointer (some ⟨g, o + q * 2, none⟩)), (fun v _ => v = .int .i64 b), (fun v _ => v = .slice (some ⟨g, o, none⟩) n c), (fun v _ => v = .int .i64 (q : Int)), (fun v _ => v = .pointer (some ⟨g, o + q * 2, none⟩)), (fun v _ => v = .pointer (some ⟨g, o + q * 2 + 1, none⟩)), (fun v _ => v = Value.slice Bq m d), (fun v W2 => ∃ A c, v = Value.slice A RT.length c ∧ W2.ownsRow wr.heap.size 29 1 (.slice A RT.length c) RT.length (u32c RT)), (fun v W2 => ∃ A c, v = .agg #[.int .i64 b, .slice A RT.length c] ∧ W2.ownsRow wr.heap.size 29 1 (.slice A RT.length c) RT.length (u32c RT)), (fun v W2 => ∃ R A c, v = .slice (some ⟨R, 0, none⟩) 1 1 ∧ Blk W2 R 36 #[.int .i64 b, .slice A RT.length c] ∧ W2.ownsRow wr.heap.size 29 1 (.slice A RT.length c) RT.length (u32c RT))] from ⟨fun _ _ _ _ h => h, fun _ _ _ _ h => h, fun _ _ _ _ h => h, fun _ _ _ _ h => h, fun _ _ _ _ h => h, fun _ _ _ _ h => h, fun _ _ _ _ h => h, fun _ _ _ _ h => h, fun _ _ _ _ h => h, fun _ _ _ _ h => h, fun _ _ _ _ h => h, fun v w2 w3 hb ⟨A, c, e, h⟩ => ⟨A, c, e, own_below h hb⟩, fun v w2 w3 hb ⟨A, c, e, h⟩ => ⟨A, c, e, own_below h hb⟩, fun v w2 w3 hb ⟨R, A, c, e, h1, h3⟩ => ⟨R, A, c, e, h1.below hb h1.lt, own_below h3 hb⟩, trivial⟩)
      refine wp_region_relT 14 _ (by kernel_rfl) (by kernel_rfl) (by kernel_rfl) (by kernel_rfl) (by kernel_rfl) (relMono _ Hmn.out) ⟨?_, ?_, ?_, ?_, ?_, ?_, ?_, ?_, ?_, ?_, ?_, ?_, ?_, ?_, trivial⟩ ?_
      · refine relStep_plain rfl ?_
        intro Ac w5 hp
        have hb := hp.bel
        have a3 : Ac.eval (.tmp 3) = Value.slice A1 n1 c1 := hp.out 3 (by rfl)
        have hc := evalC Ac; have hf := evalF Ac; have hgl := evalG Ac
        obtain ⟨ρ, hρ⟩ : ∃ ρ, Ac.eval = ρ := ⟨_, rfl⟩
        rw [hρ] at a3 hc hf hgl
        exact relPure hρ (Value.slice A1 n1 c1) (by simp [go_sem, hc, hf, hgl, ↓IntWalk.iteOmega, a3, *]) rfl
      · refine relStep_plain rfl ?_
        intro Ac w5 hp
        have hb := hp.bel
        have a0 : Ac.eval (.tmp 0) = .slice (some ⟨g, o, none⟩) n c := hp.out 0 (by rfl)
        have hc := evalC Ac; have hf := evalF Ac; have hgl := evalG Ac
        obtain ⟨ρ, hρ⟩ : ∃ ρ, Ac.eval = ρ := ⟨_, rfl⟩
        rw [hρ] at a0 hc hf hgl
        exact relPure hρ (.slice (some ⟨g, o, none⟩) n c) (by simp [go_sem, hc, hf, hgl, ↓IntWalk.iteOmega, a0, *]) rfl
      · refine relStep_plain rfl ?_
        intro Ac w5 hp
        have hb := hp.bel
        have a4 : Ac.eval (.tmp 4) = .int .i64 (q : Int) := hp.out 4 (by rfl)
        have hc := evalC Ac; have hf := evalF Ac; have hgl := evalG Ac
        obtain ⟨ρ, hρ⟩ : ∃ ρ, Ac.eval = ρ := ⟨_, rfl⟩
        rw [hρ] at a4 hc hf hgl
        exact relPure hρ (.int .i64 (q : Int)) (by simp [go_sem, hc, hf, hgl, ↓IntWalk.iteOmega, a4, *]) rfl
      · refine relStep_plain rfl ?_
        intro Ac w5 hp
        have hb := hp.bel
        have a17 : Ac.eval (.tmp 17) = .slice (some ⟨g, o, none⟩) n c := hp.dep 1 (by kernel_rfl)
        have a18 : Ac.eval (.tmp 18) = .int .i64 (q : Int) := hp.dep 2 (by kernel_rfl)
        have hc := evalC Ac; have hf := evalF Ac; have hgl := evalG Ac
        obtain ⟨ρ, hρ⟩ : ∃ ρ, Ac.eval = ρ := ⟨_, rfl⟩
        rw [hρ] at a17 a18 hc hf hgl
        exact relPure hρ (.pointer (some ⟨g, o + q * 2, none⟩)) (by simp [go_sem, hc, hf, hgl, ↓IntWalk.iteOmega, a17, a18, *]) rfl
      · refine relStep_plain rfl ?_
        intro Ac w5 hp
        have hb := hp.bel
        have a19 : Ac.eval (.tmp 19) = .pointer (some ⟨g, o + q * 2, none⟩) := hp.dep 3 (by kernel_rfl)
        have hc := evalC Ac; have hf := evalF Ac; have hgl := evalG Ac
        obtain ⟨ρ, hρ⟩ : ∃ ρ, Ac.eval = ρ := ⟨_, rfl⟩
        rw [hρ] at a19 hc hf hgl
        exact relPure hρ (.pointer (some ⟨g, o + q * 2, none⟩)) (by simp [go_sem, hc, hf, hgl, ↓IntWalk.iteOmega, a19, *]) rfl
      · refine relStep_plain rfl ?_
        intro Ac w5 hp
        have hb := hp.bel
        have a20 : Ac.eval (.tmp 20) = .pointer (some ⟨g, o + q * 2, none⟩) := hp.dep 4 (by kernel_rfl)
        have z0 : w5.cell? ⟨g, o + q * 2, none⟩ = some (.int .i64 b) := (hb.cell hg).trans HZ0.out
        have hc := evalC Ac; have hf := evalF Ac; have hgl := evalG Ac
        obtain ⟨ρ, hρ⟩ : ∃ ρ, Ac.eval = ρ := ⟨_, rfl⟩
        rw [hρ] at a20 hc hf hgl
        exact relPure hρ (.int .i64 b) (by simp [go_sem, hc, hf, hgl, ↓IntWalk.iteOmega, a20, *]) rfl
      · refine relStep_plain rfl ?_
        intro Ac w5 hp
        have hb := hp.bel
        have a0 : Ac.eval (.tmp 0) = .slice (some ⟨g, o, none⟩) n c := hp.out 0 (by rfl)
        have hc := evalC Ac; have hf := evalF Ac; have hgl := evalG Ac
        obtain ⟨ρ, hρ⟩ : ∃ ρ, Ac.eval = ρ := ⟨_, rfl⟩
        rw [hρ] at a0 hc hf hgl
        exact relPure hρ (.slice (some ⟨g, o, none⟩) n c) (by simp [go_sem, hc, hf, hgl, ↓IntWalk.iteOmega, a0, *]) rfl
      · refine relStep_plain rfl ?_
        intro Ac w5 hp
        have hb := hp.bel
        have a4 : Ac.eval (.tmp 4) = .int .i64 (q : Int) := hp.out 4 (by rfl)
        have hc := evalC Ac; have hf := evalF Ac; have hgl := evalG Ac
        obtain ⟨ρ, hρ⟩ : ∃ ρ, Ac.eval = ρ := ⟨_, rfl⟩
        rw [hρ] at a4 hc hf hgl
        exact relPure hρ (.int .i64 (q : Int)) (by simp [go_sem, hc, hf, hgl, ↓IntWalk.iteOmega, a4, *]) rfl
      · refine relStep_plain rfl ?_
        intro Ac w5 hp
        have hb := hp.bel
        have a22 : Ac.eval (.tmp 22) = .slice (some ⟨g, o, none⟩) n c := hp.dep 6 (by kernel_rfl)
        have a23 : Ac.eval (.tmp 23) = .int .i64 (q : Int) := hp.dep 7 (by kernel_rfl)
        have hc := evalC Ac; have hf := evalF Ac; have hgl := evalG Ac
        obtain ⟨ρ, hρ⟩ : ∃ ρ, Ac.eval = ρ := ⟨_, rfl⟩
        rw [hρ] at a22 a23 hc hf hgl
        exact relPure hρ (.pointer (some ⟨g, o + q * 2, none⟩)) (by simp [go_sem, hc, hf, hgl, ↓IntWalk.iteOmega, a22, a23, *]) rfl
      · refine relStep_plain rfl ?_
        intro Ac w5 hp
        have hb := hp.bel
        have a24 : Ac.eval (.tmp 24) = .pointer (some ⟨g, o + q * 2, none⟩) := hp.dep 8 (by kernel_rfl)
        have hc := evalC Ac; have hf := evalF Ac; have hgl := evalG Ac
        obtain ⟨ρ, hρ⟩ : ∃ ρ, Ac.eval = ρ := ⟨_, rfl⟩
        rw [hρ] at a24 hc hf hgl
        exact relPure hρ (.pointer (some ⟨g, o + q * 2 + 1, none⟩)) (by simp [go_sem, hc, hf, hgl, ↓IntWalk.iteOmega, a24, *]) rfl
      · refine relStep_plain rfl ?_
        intro Ac w5 hp
        have hb := hp.bel
        have a25 : Ac.eval (.tmp 25) = .pointer (some ⟨g, o + q * 2 + 1, none⟩) := hp.dep 9 (by kernel_rfl)
        have z1 : w5.cell? ⟨g, o + q * 2 + 1, none⟩ = some (.slice Bq m d) := (hb.cell hg).trans HZ1.out
        have hc := evalC Ac; have hf := evalF Ac; have hgl := evalG Ac
        obtain ⟨ρ, hρ⟩ : ∃ ρ, Ac.eval = ρ := ⟨_, rfl⟩
        rw [hρ] at a25 hc hf hgl
        exact relPure hρ (Value.slice Bq m d) (by simp [go_sem, hc, hf, hgl, ↓IntWalk.iteOmega, a25, *]) rfl
      · refine relStep_plain rfl ?_
        intro Ac w5 hp
        have hb := hp.bel
        have a26 : Ac.eval (.tmp 26) = Value.slice Bq m d := hp.dep 10 (by kernel_rfl)
        have hc := evalC Ac; have hf := evalF Ac; have hgl := evalG Ac
        obtain ⟨ρ, hρ⟩ : ∃ ρ, Ac.eval = ρ := ⟨_, rfl⟩
        rw [hρ] at a26 hc hf hgl
        refine relCall hρ 5 #[Value.slice Bq m d, .int .i64 300] (by simp [go_sem, hc, hf, hgl, ↓IntWalk.iteOmega, a26, *]) ?_
        refine (few_any Bq m d r 300 (by decide) w5 (HUr.out.below hb)).mono ?_
        rintro e w6 ⟨v6, rfl, ho6, hb6⟩
        rw [HRT.out] at ho6
        obtain ⟨A6, c6, rfl⟩ := own_slice ho6
        exact ⟨_, rfl, ⟨A6, c6, rfl, own_baseLe ho6 hb.size⟩, hb6⟩
      · refine relStep_plain rfl ?_
        intro Ac w5 hp
        have hb := hp.bel
        have a21 : Ac.eval (.tmp 21) = .int .i64 b := hp.dep 5 (by kernel_rfl)
        obtain ⟨A27, c27, a27, ho27⟩ := hp.dep 11 (by kernel_rfl)
        change Ac.eval (.tmp 27) = _ at a27
        have hc := evalC Ac; have hf := evalF Ac; have hgl := evalG Ac
        obtain ⟨ρ, hρ⟩ : ∃ ρ, Ac.eval = ρ := ⟨_, rfl⟩
        rw [hρ] at a21 a27 hc hf hgl
        exact relPure hρ (.agg #[.int .i64 b, .slice A27 RT.length c27]) (by simp [go_sem, hc, hf, hgl, ↓IntWalk.iteOmega, a21, a27, *]) ⟨A27, c27, rfl, ho27⟩
      · refine relStep_plain rfl ?_
        intro Ac w5 hp
        have hb := hp.bel
        obtain ⟨A28, c28, a28, ho28⟩ := hp.dep 12 (by kernel_rfl)
        change Ac.eval (.tmp 28) = _ at a28
        have hc := evalC Ac; have hf := evalF Ac; have hgl := evalG Ac
        obtain ⟨ρ, hρ⟩ : ∃ ρ, Ac.eval = ρ := ⟨_, rfl⟩
        rw [hρ] at a28 hc hf hgl
        exact relVal hρ (.slice (some ⟨w5.heap.size, 0, none⟩) 1 1) (w5.alloc (.cells #[.int .i64 b, .slice A28 RT.length c28] 36)) (by simp [go_sem, hc, hf, hgl, ↓IntWalk.iteOmega, a28]) ⟨w5.heap.size, A28, c28, rfl, Blk.new w5 _ _, ho28.alloc _⟩ ((Below.refl _ _).alloc (Nat.le_refl _) _)
      intro u w8 hb7 hall
      have e16 : u 0 = Value.slice A1 n1 c1 := relAll_at hall (i := 0) (by decide +kernel)
      obtain ⟨R29, A29, c29, e29, hR29, ho29⟩ := relAll_at hall (i := 13) (by decide +kernel)
      change u 13 = _ at e29
      clear hall
      simp only [List.drop_succ_cons, List.drop_zero, List.take_succ_cons, List.take_zero, putAll, Act.put, List.setIfInBounds_toArray, List.set_cons_zero, List.set_cons_succ, Nat.zero_add, Nat.reduceAdd, e16, e29]
      have hsw := hb7.size
      have HLo8 := hide (HLo.out.below hb7)
      have HB8 := hide (HBe.out.trans (hb7.mono hs1))
      refine wpList_append_any w8 rfl (.tmp 16) (.tmp 29) 22 rfl w.heap.size 36 i0 _ 2 32 Tryz.underlying22 hi hz0 hz1 hz2 rfl (by decide) (.slice A1 n1 c1) n1 xs rfl HLo8.out.1 w8.heap.size (some ⟨R29, 0, none⟩) 1 1 [.int .i64 b, .slice A29 RT.length c29] rfl (reads_blkN hR29 hR29.lt rfl rfl) (by simp [Value.oneCell']) (by unfold maxLen; omega) (by omega) (by omega) ?_
      intro v2 w9 h2 h3 h4
      obtain ⟨A4, c4, rfl, hlo4⟩ := LOw.push HLo8.out (chunk1_fr rfl (sg_fr ho29 HRb.out hs1 (fun k hk => own_block_lt HLo.out.1 k hk))) h2 h3 h4
      have HL9 := hide hlo4
      have HB9 := hide (HB8.out.grown h3 (by omega) (fun k hk => own_low_block HLo.out.1 k hk))
      clear hlo4 h2 h3 h4 hb7 hR29 ho29 e16 e29
      go_wp2
      go_roundw
      case rel => exact ⟨q + 1, A4, n1 + 1, c4, _, by omega, by omega, by go_num, rfl, by rw [HE.out]; exact HL9.out, HB9.out⟩
      case measure => simp [intOf]; omega
    · have HF : Hid (LOw 2 36 sgR wr w.heap.size w.heap.size A1 n1 c1 (cutP l) xs) := hide (by
        have e : l.take q = l.take 12 := by
          by_cases h12 : q = 12
          · rw [h12]
          · rw [List.take_of_length_le (by omega), List.take_of_length_le (by omega)]
        rw [e] at hlo
        exact hlo)
      clear hlo hbel
      by_cases hqn : q < n
      · have e1 : decide ((q : Int) < (n : Int)) = true := decide_eq_true (by omega)
        have e2 : decide ((q : Int) < 12) = false := decide_eq_false (by omega)
        clear hlt
        go_wp2
        go_ret
        exact ⟨A1, n1, c1, xs, rfl, HF.out, HBe.out⟩
      · have e1 : decide ((q : Int) < (n : Int)) = false := decide_eq_false (by omega)
        clear hlt
        go_wp2
        go_ret
        exact ⟨A1, n1, c1, xs, rfl, HF.out, HBe.out⟩
end Go.Proofs.YtplhnhoijficgaaGreatDoor
set_option linter.unusedSimpArgs false
set_option linter.unusedVariables false
namespace Go.Proofs.YtplhnhoijficgaaGreatDoor
open Go.RowKit Go.WideShapes Go.ChangeShapes
attribute [local go_sem] Oper.semAt_some
def lenX (x : SG) : Nat := if x.k = 2 then x.r.length else 1
def lenS (l : List SG) : Nat := (l.map lenX).sum
theorem lenS_snoc (l : List SG) (q : Nat) (x : SG) (h : l[q]? = some x) : lenS (l.take (q + 1)) = lenS (l.take q) + lenX x := by
  rw [List.take_add_one, h]
  simp [lenS]
theorem lenS_le (l : List SG) : lenS l ≤ numS l + l.length := by
  induction l with
  | nil => simp [lenS, numS]
  | cons x l ih =>
    have e1 : lenS (x :: l) = lenX x + lenS l := by simp [lenS]
    have e2 : numS (x :: l) = x.r.length + numS l := by simp [numS]
    have : lenX x ≤ x.r.length + 1 := by unfold lenX; split <;> omega
    rw [e1, e2, List.length_cons]; omega
set_option maxRecDepth 100000 in
set_option maxHeartbeats 4000000 in
theorem plen_any (A : Option Addr) (n c : Nat) (l : List SG) (w : World) (h : LstAt 2 sgR w A n c l) (hn : numS l ≤ 10000) (hn2 : n ≤ 10000) :
    Calls Tryz.prog 26 #[.slice A n c] w fun e w' => e = .returned (.int .i64 (lenS l : Int)) ∧ Below w.heap.size w w' := by
  have hln := h.1
  have hnc := h.2.1
  have hmx := h.2.2.1
  unfold maxLen at hmx
  have HLs := hide h
  clear h
  go_enter Tryz.func26, Tryz.ntmps26
  go_wp2
  go_loopw [3, 8] (fun av iv wr => ∃ q : Nat, q ≤ n ∧ iv = .int .i64 (q : Nat) ∧ av = .int .i64 (lenS (l.take q) : Int) ∧ Below w.heap.size w wr) (fun _ iv _ => n - (intOf iv).toNat)
  case atStart => exact ⟨0, Nat.zero_le _, rfl, rfl, Below.refl _ _⟩
  case round =>
    obtain ⟨q, hq, rfl, rfl, hbel⟩ := hrel
    have HBe := hide hbel
    have hs1 := hbel.size
    by_cases hlt : q < n
    · obtain ⟨g, o, b, B, m, d, r, rfl, hg, hx, hr, hc0, hc1⟩ := SGat (HLs.out.below sgMono hbel) hlt
      have HS := hide (lenS_snoc l q _ hx)
      have h1 := lenS_le (l.take (q + 1))
      have h2 := numS_take_le l (q + 1)
      rw [List.length_take] at h1
      have hrl : r.length = m := hr.1
      have q1 : (q : Int) < (n : Int) := by omega
      have q0 : (0 : Int) ≤ (q : Int) := by omega
      have hwq : IntKind.i64.wrap ((q : Int) + 1) = (q : Int) + 1 := by rw [IntKind.wrap_i64]; omega
      have hsn := HS.out
      have HBx : Hid (∀ o1 : Obj, Below w.heap.size w (wr.alloc o1)) := hide (fun o1 => HBe.out.alloc hs1 o1)
      clear hbel hx hr
      by_cases hb : b = 2
      · subst hb
        have hx2 : lenX ⟨2, r⟩ = m := by unfold lenX; rw [if_pos rfl]; exact hrl
        rw [hx2] at hsn
        have hwa : IntKind.i64.wrap ((lenS (l.take q) : Int) + (m : Int)) = (lenS (l.take (q + 1)) : Int) := by rw [IntKind.wrap_i64]; omega
        go_wp2
        go_roundw
        case rel => exact ⟨q + 1, by omega, by go_num, by first | rfl | exact congrArg (Value.int .i64) (by omega), HBx.out _⟩
        case measure => simp [intOf]; omega
      · have e2 : (b == 2) = false := by simpa using hb
        have hx2 : lenX ⟨b, r⟩ = 1 := by unfold lenX; rw [if_neg hb]
        rw [hx2] at hsn
        have hwa : IntKind.i64.wrap ((lenS (l.take q) : Int) + 1) = (lenS (l.take (q + 1)) : Int) := by rw [IntKind.wrap_i64]; omega
        clear hb
        go_wp2
        go_roundw
        case rel => exact ⟨q + 1, by omega, by go_num, by first | rfl | exact congrArg (Value.int .i64) (by omega), HBx.out _⟩
        case measure => simp [intOf]; omega
    · obtain rfl : q = n := by omega
      have HE : Hid (lenS (l.take q) = lenS l) := hide (by rw [List.take_of_length_le (by omega)])
      clear hbel hlt
      go_wp2
      go_ret
      first | exact ⟨rfl, HBe.out⟩ | exact ⟨by rw [HE.out]; rfl, HBe.out⟩
set_option maxRecDepth 100000 in
set_option maxHeartbeats 4000000 in
theorem pfirst_seq (A : Option Addr) (n c x : Nat) (r : List Nat) (l : List SG) (w : World) (h : LstAt 2 sgR w A n c (⟨2, x :: r⟩ :: l)) :
    Calls Tryz.prog 25 #[.slice A n c] w fun e w' => e = .returned (.tuple #[.int .u32 (x : Int), .bool true]) ∧ w' = w := by
  have hln := h.1
  have hn0 : 0 < n := by rw [← hln]; simp
  obtain ⟨g, o, b, B, m, d, r2, rfl, hg, hx, hr, hc0, hc1⟩ := SGat h hn0
  simp only [List.getElem?_cons_zero, Option.some.injEq, SG.mk.injEq] at hx
  obtain ⟨rfl, rfl⟩ := hx
  have hm0 : 0 < m := by rw [← hr.1]; simp
  obtain ⟨g2, o2, y, hB, hg2, hy, hy2, hc2⟩ := hr.at_ hm0
  subst hB
  simp only [List.getElem?_cons_zero, Option.some.injEq] at hy
  subst hy
  have k0 : w.cell? ⟨g, o, none⟩ = some (.int .i64 2) := by simpa using hc0
  have k1 : w.cell? ⟨g, o + 1, none⟩ = some (.slice (some ⟨g2, o2, none⟩) m d) := by simpa using hc1
  have k2 : w.cell? ⟨g2, o2, none⟩ = some (.int .u32 (x : Int)) := by simpa using hc2
  have e1 : ((n : Int) == 0) = false := by simp; omega
  have e2 : ((m : Int) == 0) = false := by simp; omega
  have n0 : (0 : Int) < (n : Int) := by omega
  have m0 : (0 : Int) < (m : Int) := by omega
  have HEnd : Hid (Calls Tryz.prog 37 #[.slice (some ⟨g, o, none⟩) n c, .bool false] w fun e w' => e = .returned (.tuple #[.int .u32 (x : Int), .bool true]) ∧ w' = w) := hide (by
    clear h hc0 hc1 hc2 hr hln
    go_enter Tryz.func37, Tryz.ntmps37
    go_wp2
    go_ret2
    exact ⟨rfl, rfl⟩)
  clear h hc0 hc1 hc2 hr hln k0 k1 k2
  go_enter Tryz.func25, Tryz.ntmps25
  go_wp2_with fail
  refine HEnd.out.mono ?_
  rintro e w2 ⟨rfl, rfl⟩
  go_wp2
  go_ret2
  exact ⟨rfl, rfl⟩
end Go.Proofs.YtplhnhoijficgaaGreatDoor
set_option linter.unusedSimpArgs false
set_option linter.unusedVariables false
namespace Go.Proofs.YtplhnhoijficgaaGreatDoor
open Go.RowKit Go.WideShapes Go.ChangeShapes
attribute [local go_sem] Oper.semAt_some
set_option maxRecDepth 100000 in
set_option maxHeartbeats 4000000 in
theorem same1_eq (b : Int) (B1 B2 : Option Addr) (m1 d1 m2 d2 : Nat) (r : List Nat) (w : World) (h1 : U32s w B1 m1 d1 r) (h2 : U32s w B2 m2 d2 r) :
    Calls Tryz.prog 75 #[.agg #[.int .i64 b, .slice B1 m1 d1], .agg #[.int .i64 b, .slice B2 m2 d2]] w fun e w' => e = .returned (.bool true) ∧ Below w.heap.size w w' := by
  have hb : Below w.heap.size w ((w.alloc (.cells #[.int .i64 b, .slice B1 m1 d1] 36)).alloc (.cells #[.int .i64 b, .slice B2 m2 d2] 36)) := ((Below.refl _ w).alloc (Nat.le_refl _) _).alloc (by simp) _
  have HEq := hide (slEqual_any B1 m1 d1 r B2 m2 d2 r _ (h1.below hb) (h2.below hb))
  have HB := hide hb
  clear h1 h2 hb
  go_enter Tryz.func75, Tryz.ntmps75
  go_wp2_with fail
  refine HEq.out.mono ?_
  rintro e w3 ⟨rfl, hb3⟩
  have HB3 := hide (HB.out.trans (hb3.mono HB.out.size))
  clear hb3
  simp only [decide_true]
  go_wp2
  go_ret
  exact ⟨rfl, HB3.out⟩
set_option maxRecDepth 100000 in
set_option maxHeartbeats 8000000 in
theorem eqf_eq (A B : Option Addr) (n c m d : Nat) (l : List SG) (w : World) (h : LstAt 2 sgR w A n c l) (h' : LstAt 2 sgR w B m d l) (hn2 : n ≤ 100000) :
    Calls Tryz.prog 74 #[.slice A n c, .slice B m d, .func (.func 75) #[] #[]] w fun e w' => e = .returned (.bool true) ∧ Below w.heap.size w w' := by
  obtain rfl : n = m := h.1.symm.trans h'.1
  have hnc := h.2.1
  have hmx := h.2.2.1
  have hnd := h'.2.1
  have hmx2 := h'.2.2.1
  unfold maxLen at hmx hmx2
  have HL1 := hide h
  have HL2 := hide h'
  clear h h'
  go_enter Tryz.func74, Tryz.ntmps74
  go_wp2
  go_loopw [17] (fun iv wr => ∃ i : Nat, i ≤ n ∧ iv = .int .i64 (i : Nat) ∧ Below w.heap.size w wr) (fun iv _ => n - (intOf iv).toNat)
  case atStart => exact ⟨0, Nat.zero_le _, rfl, Below.refl _ _⟩
  case round =>
    obtain ⟨i, hi, rfl, hbel⟩ := hrel
    have HBe := hide hbel
    have hs1 := hbel.size
    by_cases hlt : i < n
    · obtain ⟨g, o, b, B1, m1, d1, r, rfl, hg, hx, hr1, hz0, hz1⟩ := SGat (HL1.out.below sgMono hbel) hlt
      obtain ⟨g2, o2, b2, B2, m2, d2, r2, rfl, hg2, hx2, hr2, hy0, hy1⟩ := SGat (HL2.out.below sgMono hbel) hlt
      rw [hx] at hx2
      simp only [Option.some.injEq, SG.mk.injEq] at hx2
      obtain ⟨rfl, rfl⟩ := hx2
      have hb2 : Below wr.heap.size wr ((wr.alloc (.cells #[.int .i64 b, .slice B1 m1 d1] 36)).alloc (.cells #[.int .i64 b, .slice B2 m2 d2] 36)) := ((Below.refl _ wr).alloc (Nat.le_refl _) _).alloc (by simp) _
      have HB2 := hide (HBe.out.trans (hb2.mono hs1))
      have HSa := hide (same1_eq b B1 B2 m1 d1 m2 d2 r _ (hr1.below hb2) (hr2.below hb2))
      have i1 : (i : Int) < (n : Int) := by omega
      have i0 : (0 : Int) ≤ (i : Int) := by omega
      have hwi : IntKind.i64.wrap ((i : Int) + 1) = (i : Int) + 1 := by rw [IntKind.wrap_i64]; omega
      clear hbel hx hr1 hr2 hb2
      go_wp2_with fail
      refine HSa.out.mono ?_
      rintro e w3 ⟨rfl, hb3⟩
      have HB3 := hide (HB2.out.trans (hb3.mono HB2.out.size))
      clear hb3 hz0 hz1 hy0 hy1
      go_wp2
      go_roundw
      case rel => exact ⟨i + 1, by omega, by go_num, HB3.out⟩
      case measure => simp [intOf]; omega
    · obtain rfl : i = n := by omega
      have e1 : decide ((i : Int) < (i : Int)) = false := by simp
      clear hbel hlt
      go_wp2
      go_ret
      exact ⟨rfl, HBe.out⟩
set_option maxRecDepth 100000 in
theorem psameC_eq (A B : Option Addr) (n c m d : Nat) (l : List SG) (w : World) (h : LstAt 2 sgR w A n c l) (h' : LstAt 2 sgR w B m d l) (hn2 : n ≤ 100000) :
    Calls Tryz.prog 48 #[.slice A n c, .slice B m d] w fun e w' => e = .returned (.bool true) ∧ Below w.heap.size w w' := by
  have H := hide (eqf_eq A B n c m d l w h h' hn2)
  clear h h'
  go_enter Tryz.func48, Tryz.ntmps48
  go_wp2_with fail
  refine H.out.mono ?_
  rintro e w3 ⟨rfl, hb3⟩
  have HB3 := hide hb3
  clear hb3
  go_wp2
  go_ret
  exact ⟨rfl, HB3.out⟩
set_option maxRecDepth 100000 in
set_option maxHeartbeats 4000000 in
theorem pgood_eq (A : Option Addr) (n c : Nat) (l : List SG) (w : World) (h : LstAt 2 sgR w A n c l) (hno : normS l = l) (hl : ∀ x ∈ l, 1 ≤ x.r.length ∧ x.r.length ≤ 255) (hn : n ≤ 100) (hnum : numS l ≤ 10000) :
    Calls Tryz.prog 35 #[.slice A n c] w fun e w' => e = .returned (.bool true) ∧ Below w.heap.size w w' := by
  have hnc := h.2.1
  have hmx := h.2.2.1
  unfold maxLen at hmx
  have HLs := hide h
  have HNo := hide hno
  have HL := hide hl
  clear h hno hl
  go_enter Tryz.func35, Tryz.ntmps35
  go_wp2
  go_loopw [7] (fun iv wr => ∃ i : Nat, i ≤ n ∧ iv = .int .i64 (i : Nat) ∧ Below w.heap.size w wr) (fun iv _ => n - (intOf iv).toNat)
  case atStart => exact ⟨0, Nat.zero_le _, rfl, Below.refl _ _⟩
  case round =>
    obtain ⟨i, hi, rfl, hbel⟩ := hrel
    have HBe := hide hbel
    have hs1 := hbel.size
    by_cases hlt : i < n
    · obtain ⟨g, o, b, B1, m1, d1, r, rfl, hg, hx, hr1, hz0, hz1⟩ := SGat (HLs.out.below sgMono hbel) hlt
      obtain ⟨hr3, hr4⟩ := HL.out _ (List.mem_of_getElem? hx)
      have hrl := hr1.1
      have hr5 : r.length = m1 := hrl
      have e1 : decide ((m1 : Int) < 1) = false := decide_eq_false (by simp only at hr3; omega)
      have e2 : decide (255 < (m1 : Int)) = false := decide_eq_false (by simp only at hr4; omega)
      have i1 : (i : Int) < (n : Int) := by omega
      have i0 : (0 : Int) ≤ (i : Int) := by omega
      have hwi : IntKind.i64.wrap ((i : Int) + 1) = (i : Int) + 1 := by rw [IntKind.wrap_i64]; omega
      have HBx : Hid (∀ o1 : Obj, Below w.heap.size w (wr.alloc o1)) := hide (fun o1 => HBe.out.alloc hs1 o1)
      clear hbel hx hr1
      go_wp2
      go_roundw
      case rel => exact ⟨i + 1, by omega, by go_num, HBx.out _⟩
      case measure => simp [intOf]; omega
    · obtain rfl : i = n := by omega
      have e1 : decide ((i : Int) < (i : Int)) = false := by simp
      have e2 : decide ((i : Int) ≤ 100) = true := decide_eq_true (by omega)
      have HNm := hide (norm_any A i c l wr (HLs.out.below sgMono hbel) hnum)
      clear hbel hlt
      go_wp2_with fail
      refine HNm.out.mono ?_
      intro e w3 hmv
      unfold SegP at hmv
      obtain ⟨A6, n6, c6, xs6, rfl, hl6, hb3⟩ := hmv
      rw [HNo.out] at hl6
      have HB3 := hide (HBe.out.trans (hb3.mono hs1))
      have hn6 := (hl6.lst (by decide)).1
      have hli := HLs.out.1
      have HSa := hide (psameC_eq A6 A n6 c6 i c l w3 (hl6.lst (by decide)) (HLs.out.below sgMono HB3.out) (by omega))
      clear hl6 hb3
      go_wp2_with fail
      refine HSa.out.mono ?_
      rintro e w4 ⟨rfl, hb4⟩
      have HB4 := hide (HB3.out.trans (hb4.mono HB3.out.size))
      clear hb4
      go_wp2
      go_ret
      exact ⟨rfl, HB4.out⟩
end Go.Proofs.YtplhnhoijficgaaGreatDoor
set_option linter.unusedSimpArgs false
set_option linter.unusedVariables false
namespace Go.Proofs.YtplhnhoijficgaaGreatDoor
open Go.RowKit Go.WideShapes Go.ChangeShapes
attribute [local go_sem] Oper.semAt_some
def wordsX (x : SG) : List UInt8 := if x.k = 1 then 123 :: (jw (x.r.map Lib.decDigits) ++ [125]) else jw (x.r.map Lib.decDigits)
set_option maxRecDepth 100000 in
set_option maxHeartbeats 4000000 in
theorem pwords_any (k : Int) (B : Option Addr) (m d : Nat) (r : List Nat) (w : World) (h : U32s w B m d r) (hm : m ≤ 255) (ht : Tab w) (hjl : (jw (r.map Lib.decDigits)).length ≤ 10000) :
    Calls Tryz.prog 49 #[.agg #[.int .i64 k, .slice B m d]] w fun e w' => e = .returned (.string (str (wordsX ⟨k, r⟩))) ∧ Below w.heap.size w w' := by
  obtain ⟨i0, hi, hz0, hz1, hz2⟩ := info_parts infoStr
  have hrl := h.1
  have hmd := h.2.1
  have hmx := h.2.2.1
  unfold maxLen at hmx
  have HUr := hide (fun (W : World) (hb : Below w.heap.size w W) => h.below hb)
  have HTb := hide ht
  have hmk : ∀ W : World, (Instr.makeSlice 81 (.int .i64 0) (.int .i64 (m : Int))).run Tryz.prog W = .ok (.slice (some ⟨W.heap.size, 0, none⟩) 0 m) (W.alloc (.cells (madeCells (Value.string ⟨#[]⟩).cells m) 9)) := fun W => by
    have h1 := run_make_rowN (P := Tryz.prog) 81 9 i0 (.string ⟨#[]⟩) Tryz.underlying81 hi hz0 .i64 .i64 0 m (Nat.zero_le _) (by rw [hz2]; omega) (by omega) W
    rw [hz1, Nat.mul_one] at h1
    exact h1
  have hb1 : Below w.heap.size w ((w.alloc (.cells #[.int .i64 k, .slice B m d] 36)).alloc (.cells (madeCells (Value.string ⟨#[]⟩).cells m) 9)) := ((Below.refl _ w).alloc (Nat.le_refl _) _).alloc (by simp) _
  have HB1 := hide hb1
  have HBk : Hid (Blk ((w.alloc (.cells #[.int .i64 k, .slice B m d] 36)).alloc (.cells (madeCells (Value.string ⟨#[]⟩).cells m) 9)) w.heap.size 36 #[.int .i64 k, .slice B m d]) := hide ((Blk.new w _ _).alloc _)
  have HO1 : Hid (((w.alloc (.cells #[.int .i64 k, .slice B m d] 36)).alloc (.cells (madeCells (Value.string ⟨#[]⟩).cells m) 9)).ownsRow (w.heap.size + 1) 9 1 (.slice (some ⟨w.heap.size + 1, 0, none⟩) 0 m) 0 (strv ((r.take 0).map Lib.decDigits))) := hide ⟨by simp [strv], .inr ⟨w.heap.size + 1, m, _, rfl, Nat.le_refl _, by have := heap_alloc_new (w.alloc (.cells #[.int .i64 k, .slice B m d] 36)) (.cells (madeCells (Value.string ⟨#[]⟩).cells m) 9); simpa using this, Nat.zero_le _, by unfold maxLen; omega, by rw [size_madeCells]; omega, by simp [strv]⟩⟩
  clear h ht hb1
  go_enter Tryz.func49, Tryz.ntmps49
  go_wp2
  go_loopw [3, 14] (fun vo iv wr => ∃ (q : Nat) (A1 : Option Addr) (c1 : Nat), q ≤ m ∧ iv = .int .i64 (q : Nat) ∧ vo = .slice A1 q c1 ∧ wr.ownsRow (w.heap.size + 1) 9 1 (.slice A1 q c1) q (strv ((r.take q).map Lib.decDigits)) ∧ Blk wr w.heap.size 36 #[.int .i64 k, .slice B m d] ∧ Below w.heap.size w wr) (fun _ iv _ => m - (intOf iv).toNat)
  case atStart => exact ⟨0, some ⟨w.heap.size + 1, 0, none⟩, m, Nat.zero_le _, rfl, rfl, HO1.out, HBk.out, HB1.out⟩
  case round =>
    obtain ⟨q, A1, c1, hq, rfl, rfl, hown, hbk, hbel⟩ := hrel
    have HO := hide hown
    have HBe := hide hbel
    have HBk2 := hide hbk
    have hs1 := hbel.size
    have hlb := hbk.lt
    by_cases hlt : q < m
    · obtain ⟨g, o, y, hB, hg, hy, hy2, hc⟩ := (HUr.out wr hbel).at_ hlt
      subst hB
      have HF := hide (fmtU_any y (by omega) wr (HTb.out.below hbel))
      have hdl := dec_len y 20 (by omega)
      have HE : Hid (strv ((r.take (q + 1)).map Lib.decDigits) = strv ((r.take q).map Lib.decDigits) ++ [.string (str (Lib.decDigits y))]) := hide (by rw [List.take_add_one, hy]; simp [strv])
      have q1 : (q : Int) < (m : Int) := by omega
      have q0 : (0 : Int) ≤ (q : Int) := by omega
      have hwq : IntKind.i64.wrap ((q : Int) + 1) = (q : Int) + 1 := by rw [IntKind.wrap_i64]; omega
      clear hown hbk hbel hy
      go_wp2_with fail
      refine HF.out.mono ?_
      rintro e w5 ⟨rfl, hb5⟩
      have hbx : Below w5.heap.size w5 (w5.alloc (.cells #[.string (str (Lib.decDigits y))] 9)) := (Below.refl _ w5).alloc (Nat.le_refl _) _
      have HO5 := hide (own_below (own_below HO.out hb5) hbx)
      have HBx : Hid (Blk (w5.alloc (.cells #[.string (str (Lib.decDigits y))] 9)) w5.heap.size 9 #[.string (str (Lib.decDigits y))]) := hide (Blk.new w5 _ _)
      have HK5 := hide ((HBk2.out.below hb5 hlb).below hbx (by have := hb5.size; omega))
      have HB5 := hide ((HBe.out.trans (hb5.mono hs1)).trans (hbx.mono (Nat.le_trans hs1 hb5.size)))
      have hs5 := HB5.out.size
      have hs6 : w5.heap.size + 1 = (w5.alloc (.cells #[.string (str (Lib.decDigits y))] 9)).heap.size := by simp
      have hs7 := hb5.size
      clear hb5 hbx hc
      go_wp2_with (at_builtin; refine wpList_append_any _ rfl (.tmp 18) (.tmp 22) 81 rfl (w.heap.size + 1) 9 i0 _ 1 16 Tryz.underlying81 hi hz0 hz1 hz2 rfl (by decide) (.slice A1 q c1) q _ rfl HO5.out _ (some ⟨w5.heap.size, 0, none⟩) 1 1 [.string (str (Lib.decDigits y))] rfl (reads_blkN HBx.out HBx.out.lt rfl rfl) (by simp [Value.oneCell']) (by unfold maxLen; omega) (by omega) (by omega) ?_; intro v' w7 g2 g3 g4; rw [← HE.out] at g2; obtain ⟨A7, c7, rfl⟩ := own_slice g2; have HO7 := hide g2; have HB7 := hide (HB5.out.grown g3 hs5 (fun z hz => by have := own_low_block HO5.out z hz; omega)); have HK7 := hide (HK5.out.grown g3 (fun e => by have := own_low_block HO5.out _ e.symm; omega)); clear g2 g3 g4)
      go_roundw
      case rel => exact ⟨q + 1, A7, c7, by omega, by go_num, rfl, HO7.out, HK7.out, HB7.out⟩
      case measure => simp [intOf]; omega
    · obtain rfl : q = m := by omega
      have e1 : decide ((q : Int) < (q : Int)) = false := by simp
      have HJ : Hid (Calls Tryz.prog 50 #[.slice A1 q c1, .string ⟨#[32]⟩] wr fun e w' => e = .returned (.string (str (jw (r.map Lib.decDigits)))) ∧ Below wr.heap.size wr w') := hide (by
        rw [show r.take q = r from List.take_of_length_le (by omega)] at hown
        exact join_own A1 q c1 _ _ wr hown (by omega) (fun x hx => by obtain ⟨y, _, rfl⟩ := List.mem_map.1 hx; have hy := (HUr.out wr hbel).2.2.2.1 y (by assumption); have := dec_len y 20 (by omega); omega))
      obtain ⟨JJ, hJJ⟩ : ∃ JJ, jw (r.map Lib.decDigits) = JJ := ⟨_, rfl⟩
      rw [hJJ] at HJ hjl
      clear hown hbk hbel hlt
      go_wp2_with fail
      refine HJ.out.mono ?_
      rintro e w8 ⟨rfl, hb8⟩
      have HB8 := hide (HBe.out.trans (hb8.mono hs1))
      have HK8 := hide (HBk2.out.below hb8 hlb)
      have z0 : w8.cell? ⟨w.heap.size, 0, none⟩ = some (.int .i64 k) := HK8.out.cell 0
      have hl8 := HK8.out.lt
      have hsz : (str JJ).size ≤ 10000 := by rw [str_size]; exact hjl
      by_cases hk : k = 1
      · subst hk
        have HC : Hid ((⟨#[123]⟩ : ByteArray) ++ str JJ ++ ⟨#[125]⟩ = str (wordsX ⟨1, r⟩)) := hide (by
          have e : wordsX ⟨1, r⟩ = [123] ++ JJ ++ [125] := by unfold wordsX; rw [if_pos rfl, hJJ]; simp
          rw [e, ← cat_str, ← cat_str]; rfl)
        clear hb8 hJJ
        go_wp2
        rw [HC.out]
        go_ret
        exact ⟨rfl, HB8.out⟩
      · have e2 : (k == 1) = false := by simpa using hk
        have HC : Hid (str JJ = str (wordsX ⟨k, r⟩)) := hide (by unfold wordsX; rw [if_neg hk, hJJ])
        clear hb8 hJJ hk
        go_wp2
        go_ret
        exact ⟨by rw [← HC.out]; rfl, HB8.out⟩
end Go.Proofs.YtplhnhoijficgaaGreatDoor
set_option linter.unusedSimpArgs false
set_option linter.unusedVariables false
namespace Go.Proofs.YtplhnhoijficgaaGreatDoor
open Go.RowKit Go.WideShapes Go.ChangeShapes
attribute [local go_sem] Oper.semAt_some
def textS (l : List SG) : List UInt8 := if l = [] then [45] else jw (l.map wordsX)
/-- A path whose text is of bounded bulk. -/
structure TxOk (l : List SG) : Prop where
  each : ∀ x ∈ l, x.r.length ≤ 255 ∧ (jw (x.r.map Lib.decDigits)).length ≤ 10000
  all : (jw (l.map wordsX)).length ≤ 100000
  len : l.length ≤ 100
set_option maxRecDepth 100000 in
set_option maxHeartbeats 4000000 in
theorem pathTx_any (A : Option Addr) (n c : Nat) (l : List SG) (w : World) (h : LstAt 2 sgR w A n c l) (hne : l ≠ []) (hok : TxOk l) (ht : Tab w) :
    Calls Tryz.prog 36 #[.slice A n c] w fun e w' => e = .returned (.string (str (textS l))) ∧ Below w.heap.size w w' := by
  obtain ⟨i0, hi, hz0, hz1, hz2⟩ := info_parts infoStr
  have hln := h.1
  have hnc := h.2.1
  have hmx := h.2.2.1
  unfold maxLen at hmx
  have hn0 : 0 < n := by rw [← hln]; exact List.length_pos_iff.2 hne
  have hn1 : n ≤ 100 := by rw [← hln]; exact hok.len
  have HLs := hide h
  have HOk := hide hok
  have HTb := hide ht
  have hmk : ∀ W : World, (Instr.makeSlice 81 (.int .i64 0) (.int .i64 (n : Int))).run Tryz.prog W = .ok (.slice (some ⟨W.heap.size, 0, none⟩) 0 n) (W.alloc (.cells (madeCells (Value.string ⟨#[]⟩).cells n) 9)) := fun W => by
    have h1 := run_make_rowN (P := Tryz.prog) 81 9 i0 (.string ⟨#[]⟩) Tryz.underlying81 hi hz0 .i64 .i64 0 n (Nat.zero_le _) (by rw [hz2]; omega) (by omega) W
    rw [hz1, Nat.mul_one] at h1
    exact h1
  have HB1 : Hid (Below w.heap.size w (w.alloc (.cells (madeCells (Value.string ⟨#[]⟩).cells n) 9))) := hide ((Below.refl _ w).alloc (Nat.le_refl _) _)
  have HO1 : Hid ((w.alloc (.cells (madeCells (Value.string ⟨#[]⟩).cells n) 9)).ownsRow w.heap.size 9 1 (.slice (some ⟨w.heap.size, 0, none⟩) 0 n) 0 (strv ((l.take 0).map wordsX))) := hide ⟨by simp [strv], .inr ⟨w.heap.size, n, _, rfl, Nat.le_refl _, heap_alloc_new w _, Nat.zero_le _, by unfold maxLen; omega, by rw [size_madeCells]; omega, by simp [strv]⟩⟩
  have HTx : Hid (jw (l.map wordsX) = textS l) := hide (by unfold textS; rw [if_neg hne])
  have e0 : ((n : Int) == 0) = false := by simp; omega
  clear h ht hne hok
  go_enter Tryz.func36, Tryz.ntmps36
  go_wp2
  go_loopw [3, 14] (fun vo iv wr => ∃ (q : Nat) (A1 : Option Addr) (c1 : Nat), q ≤ n ∧ iv = .int .i64 (q : Nat) ∧ vo = .slice A1 q c1 ∧ wr.ownsRow w.heap.size 9 1 (.slice A1 q c1) q (strv ((l.take q).map wordsX)) ∧ Below w.heap.size w wr) (fun _ iv _ => n - (intOf iv).toNat)
  case atStart => exact ⟨0, some ⟨w.heap.size, 0, none⟩, n, Nat.zero_le _, rfl, rfl, HO1.out, HB1.out⟩
  case round =>
    obtain ⟨q, A1, c1, hq, rfl, rfl, hown, hbel⟩ := hrel
    have HO := hide hown
    have HBe := hide hbel
    have hs1 := hbel.size
    by_cases hlt : q < n
    · obtain ⟨g, o, b, B, m, d, r, rfl, hg, hx, hr, hc0, hc1⟩ := SGat (HLs.out.below sgMono hbel) hlt
      obtain ⟨hm1, hm2⟩ := HOk.out.each _ (List.mem_of_getElem? hx)
      simp only at hm1 hm2
      have hrl := hr.1
      have hbx0 : Below wr.heap.size wr (wr.alloc (.cells #[.int .i64 b, .slice B m d] 36)) := (Below.refl _ wr).alloc (Nat.le_refl _) _
      have HF := hide (pwords_any b B m d r _ (hr.below hbx0) (by omega) ((HTb.out.below hbel).below hbx0) hm2)
      have HB2 := hide (HBe.out.trans (hbx0.mono hs1))
      have HO2 := hide (own_below HO.out hbx0)
      have hs2 := HB2.out.size
      obtain ⟨TX, hTX⟩ : ∃ TX, wordsX ⟨b, r⟩ = TX := ⟨_, rfl⟩
      rw [hTX] at HF
      have HE : Hid (strv ((l.take (q + 1)).map wordsX) = strv ((l.take q).map wordsX) ++ [.string (str TX)]) := hide (by rw [List.take_add_one, hx, ← hTX]; simp [strv])
      have q1 : (q : Int) < (n : Int) := by omega
      have q0 : (0 : Int) ≤ (q : Int) := by omega
      have hwq : IntKind.i64.wrap ((q : Int) + 1) = (q : Int) + 1 := by rw [IntKind.wrap_i64]; omega
      clear hown hbel hx hr hbx0 hTX
      go_wp2_with fail
      refine HF.out.mono ?_
      rintro e w5 ⟨rfl, hb5⟩
      have hbx : Below w5.heap.size w5 (w5.alloc (.cells #[.string (str TX)] 9)) := (Below.refl _ w5).alloc (Nat.le_refl _) _
      have HO5 := hide (own_below (own_below HO2.out hb5) hbx)
      have HBx : Hid (Blk (w5.alloc (.cells #[.string (str TX)] 9)) w5.heap.size 9 #[.string (str TX)]) := hide (Blk.new w5 _ _)
      have HB5 := hide ((HB2.out.trans (hb5.mono hs2)).trans (hbx.mono (Nat.le_trans hs2 hb5.size)))
      have hs5 := HB5.out.size
      clear hb5 hbx hc0 hc1
      go_wp2_with (at_builtin; refine wpList_append_any _ rfl (.tmp 18) (.tmp 21) 81 rfl w.heap.size 9 i0 _ 1 16 Tryz.underlying81 hi hz0 hz1 hz2 rfl (by decide) (.slice A1 q c1) q _ rfl HO5.out _ (some ⟨w5.heap.size, 0, none⟩) 1 1 [.string (str TX)] rfl (reads_blkN HBx.out HBx.out.lt rfl rfl) (by simp [Value.oneCell']) (by unfold maxLen; omega) (by omega) (by omega) ?_; intro v' w7 g2 g3 g4; rw [← HE.out] at g2; obtain ⟨A7, c7, rfl⟩ := own_slice g2; have HO7 := hide g2; have HB7 := hide (HB5.out.grown g3 hs5 (fun z hz => own_low_block HO5.out z hz)); clear g2 g3 g4)
      go_roundw
      case rel => exact ⟨q + 1, A7, c7, by omega, by go_num, rfl, HO7.out, HB7.out⟩
      case measure => simp [intOf]; omega
    · obtain rfl : q = n := by omega
      have e1 : decide ((q : Int) < (q : Int)) = false := by simp
      have HJ : Hid (Calls Tryz.prog 50 #[.slice A1 q c1, .string ⟨#[32]⟩] wr fun e w' => e = .returned (.string (str (jw (l.map wordsX)))) ∧ Below wr.heap.size wr w') := hide (by
        rw [show l.take q = l from List.take_of_length_le (by omega)] at hown
        refine joinAt_any A1 q c1 _ wr (StrsAt.of_own hown (fun x hx => ?_)) (by omega) HOk.out.all
        obtain ⟨y, hy, rfl⟩ := List.mem_map.1 hx
        have h2 := (HOk.out.each y hy).2
        have h3 : (wordsX y).length ≤ (jw (y.r.map Lib.decDigits)).length + 2 := by unfold wordsX; split <;> simp
        unfold maxLen
        omega)
      clear hown hbel hlt
      go_wp2_with fail
      refine HJ.out.mono ?_
      rintro e w8 ⟨rfl, hb8⟩
      have HB8 := hide (HBe.out.trans (hb8.mono hs1))
      rw [HTx.out]
      clear hb8
      go_wp2
      go_ret
      exact ⟨rfl, HB8.out⟩
set_option maxRecDepth 100000 in
theorem pText_any (A : Option Addr) (n c : Nat) (l : List SG) (w : World) (h : LstAt 2 sgR w A n c l) (hne : l ≠ []) (hok : TxOk l) (ht : Tab w) :
    Calls Tryz.prog 27 #[.slice A n c] w fun e w' => e = .returned (.string (str (textS l))) ∧ Below w.heap.size w w' := by
  have H := hide (pathTx_any A n c l w h hne hok ht)
  clear h ht hok
  go_enter Tryz.func27, Tryz.ntmps27
  go_wp2_with fail
  refine H.out.mono ?_
  rintro e w3 ⟨rfl, hb3⟩
  have HB3 := hide hb3
  clear hb3
  go_wp2
  go_ret
  exact ⟨rfl, HB3.out⟩
end Go.Proofs.YtplhnhoijficgaaGreatDoor
set_option linter.unusedSimpArgs false
set_option linter.unusedVariables false
namespace Go.Proofs.YtplhnhoijficgaaGreatDoor
open Go.RowKit Go.WideShapes Go.ChangeShapes
attribute [local go_sem] Oper.semAt_some
def nrC (l : List SG) (vs : List Value) : List Value := (l.zip vs).flatMap fun p => [.int .i64 p.1.k, p.2]
theorem nrC_snoc (l : List SG) (vs : List Value) (x : SG) (v : Value) (h : vs.length = l.length) : nrC (l ++ [x]) (vs ++ [v]) = nrC l vs ++ [.int .i64 x.k, v] := by
  unfold nrC
  rw [List.zip_append h.symm, List.flatMap_append]
  simp
theorem nrC_len (l : List SG) (vs : List Value) (h : vs.length = l.length) : (nrC l vs).length = l.length * 2 := by
  have key : ∀ q : List (SG × Value), (q.flatMap fun p => [Value.int .i64 p.1.k, p.2]).length = q.length * 2 := by
    intro q
    induction q with
    | nil => rfl
    | cons a q ih => rw [List.flatMap_cons, List.length_append, ih]; simp; omega
  unfold nrC
  rw [key, List.length_zip, h, Nat.min_self]
structure NR (w : World) (b : Nat) (A : Option Addr) (n c : Nat) (l : List SG) (vs : List Value) : Prop where
  row : w.ownsRow b 36 2 (.slice A n c) n (nrC l vs)
  len : vs.length = l.length
  rows : ∀ (i : Nat) (x : SG) (v : Value), l[i]? = some x → vs[i]? = some v → w.ownsRow b 29 1 v x.r.length (u32c x.r)
  ne : ∀ (i j : Nat) (v v' : Value), i ≠ j → vs[i]? = some v → vs[j]? = some v' → ∀ k, v.ownBlock = some k → v'.ownBlock ≠ some k
theorem nr_nil {w : World} {b : Nat} : NR w b none 0 0 [] [] := ⟨World.ownsRow_nil _ _ _ _, rfl, fun i x v h => by simp at h, fun i j v v' _ h => by simp at h⟩
theorem nr_below {w w' : World} {b n c : Nat} {A : Option Addr} {l : List SG} {vs : List Value} (h : NR w b A n c l vs) (hb : Below w.heap.size w w') : NR w' b A n c l vs :=
  ⟨own_below h.row hb, h.len, fun i x v h1 h2 => own_below (h.rows i x v h1 h2) hb, h.ne⟩
theorem own_keep {w w' : World} {b size n : Nat} {e : TypeId} {v : Value} {xs : List Value} {row : Option Nat} (h : w.ownsRow b e size v n xs) (hg : w.grownBy w' row) (hr : ∀ r, row = some r → r < b ∨ ∃ o : Obj, w.heap[r]? = some o ∧ o.isCells = false) : w'.ownsRow b e size v n xs :=
  own_apartR h hg (fun k hk e => by
    obtain ⟨h1, o, h2, h3⟩ := own_cells h k hk
    rcases hr k e.symm with h4 | ⟨o2, h4, h5⟩
    · omega
    · rw [h2] at h4; cases h4; rw [h3] at h5; cases h5)
theorem nr_keep {w w' : World} {b n c : Nat} {A : Option Addr} {l : List SG} {vs : List Value} {row : Option Nat} (h : NR w b A n c l vs) (hg : w.grownBy w' row) (hr : ∀ r, row = some r → r < b ∨ ∃ o : Obj, w.heap[r]? = some o ∧ o.isCells = false) : NR w' b A n c l vs :=
  ⟨own_keep h.row hg hr, h.len, fun i x v h1 h2 => own_keep (h.rows i x v h1 h2) hg hr, h.ne⟩
theorem nr_set {w : World} {b n c H i : Nat} {A : Option Addr} {l : List SG} {vs : List Value} (h : NR w b A n c l vs) (hH : H < b) (u : Value) : NR (w.setCell ⟨H, i, none⟩ u) b A n c l vs :=
  ⟨own_set h.row (fun e => by have := own_low_block h.row _ e; omega) u, h.len, fun j x v h1 h2 => own_set (h.rows j x v h1 h2) (fun e => by have := own_low_block (h.rows j x v h1 h2) _ e; omega) u, h.ne⟩
/-- A segment more, behind an append. -/
theorem nr_push {w w3 : World} {b n c : Nat} {A : Option Addr} {l : List SG} {vs : List Value} {x : SG} {v v2 : Value} (h : NR w b A n c l vs) (hv : w.ownsRow b 29 1 v x.r.length (u32c x.r))
    (hne : ∀ (i : Nat) (v' : Value), vs[i]? = some v' → ∀ z, v'.ownBlock = some z → v.ownBlock ≠ some z) (g2 : w3.ownsRow b 36 2 v2 (n + 1) (nrC l vs ++ [.int .i64 x.k, v])) (g3 : w.grownBy w3 (Value.slice A n c).ownBlock) :
    ∃ A' c', v2 = .slice A' (n + 1) c' ∧ NR w3 b A' (n + 1) c' (l ++ [x]) (vs ++ [v]) := by
  obtain ⟨A', c', rfl⟩ := own_slice g2
  have keep : ∀ {r : List Nat} {u : Value}, w.ownsRow b 29 1 u r.length (u32c r) → w3.ownsRow b 29 1 u r.length (u32c r) := fun hu =>
    own_apartR hu g3 (fun z hz e => own_types hu h.row (by decide) z hz e.symm)
  have get : ∀ {α : Type} (q : List α) (y z : α) (i : Nat), (q ++ [y])[i]? = some z → q[i]? = some z ∨ (i = q.length ∧ z = y) := fun q y z i hi => by
    rcases Nat.lt_or_ge i q.length with h1 | h1
    · rw [List.getElem?_append_left h1] at hi; exact .inl hi
    · rw [List.getElem?_append_right h1] at hi
      rcases Nat.eq_zero_or_pos (i - q.length) with h2 | h2
      · rw [h2] at hi; simp at hi; exact .inr ⟨by omega, hi.symm⟩
      · obtain ⟨p, hp⟩ : ∃ p, i - q.length = p + 1 := ⟨i - q.length - 1, by omega⟩
        rw [hp] at hi; simp at hi
  refine ⟨A', c', rfl, by rw [nrC_snoc _ _ _ _ h.len]; exact g2, by simp [h.len], fun i y u h1 h2 => ?_, fun i j u u' hij h1 h2 k hk => ?_⟩
  · rcases get _ _ _ _ h1 with h1 | ⟨h1, rfl⟩ <;> rcases get _ _ _ _ h2 with h2 | ⟨h2, rfl⟩
    · exact keep (h.rows i y u h1 h2)
    · have := (List.getElem?_eq_some_iff.1 h1).1; have := h.len; omega
    · have := (List.getElem?_eq_some_iff.1 h2).1; have := h.len; omega
    · exact keep hv
  · rcases get _ _ _ _ h1 with p1 | ⟨p1, q1⟩ <;> rcases get _ _ _ _ h2 with p2 | ⟨p2, q2⟩
    · exact h.ne i j u u' hij p1 p2 k hk
    · rw [q2]; exact hne i u p1 k hk
    · intro hk2; rw [q1] at hk; exact hne j u' p2 k hk2 hk
    · exact absurd (p1.trans p2.symm) hij
theorem snoc_get {α : Type} (q : List α) (y z : α) (i : Nat) (hi : (q ++ [y])[i]? = some z) : (i < q.length ∧ q[i]? = some z) ∨ (i = q.length ∧ z = y) := by
  rcases Nat.lt_or_ge i q.length with h1 | h1
  · rw [List.getElem?_append_left h1] at hi; exact .inl ⟨h1, hi⟩
  · rw [List.getElem?_append_right h1] at hi
    rcases Nat.eq_zero_or_pos (i - q.length) with h2 | h2
    · rw [h2] at hi; simp at hi; exact .inr ⟨by omega, hi.symm⟩
    · obtain ⟨p, hp⟩ : ∃ p, i - q.length = p + 1 := ⟨i - q.length - 1, by omega⟩
      rw [hp] at hi; simp at hi
/-- The last segment's numbers, one more. -/
theorem nr_grow {w w3 : World} {b n c g x : Nat} {l0 : List SG} {vs0 : List Value} {k : Int} {r : List Nat} {v v2 : Value} (h : NR w b (some ⟨g, 0, none⟩) n c (l0 ++ [⟨k, r⟩]) (vs0 ++ [v]))
    (g2 : w3.ownsRow b 29 1 v2 (r ++ [x]).length (u32c (r ++ [x]))) (g3 : w.grownBy w3 v.ownBlock) (g4 : v2.ownBlock = v.ownBlock ∨ v2.ownBlock = some w.heap.size) :
    NR (w3.setCell ⟨g, l0.length * 2 + 1, none⟩ v2) b (some ⟨g, 0, none⟩) n c (l0 ++ [⟨k, r ++ [x]⟩]) (vs0 ++ [v2]) := by
  have hl : vs0.length = l0.length := by have := h.len; simpa using this
  have hvl : (vs0 ++ [v])[l0.length]? = some v := by rw [List.getElem?_append_right (by omega), hl]; simp
  have hll : (l0 ++ [(⟨k, r⟩ : SG)])[l0.length]? = some ⟨k, r⟩ := by simp
  have hv := h.rows _ _ _ hll hvl
  have hrow3 : w3.ownsRow b 36 2 (.slice (some ⟨g, 0, none⟩) n c) n (nrC (l0 ++ [⟨k, r⟩]) (vs0 ++ [v])) := own_apartR h.row g3 (fun z hz e => own_types h.row hv (by decide) z hz e.symm)
  have put : ∀ {q : List Nat} {u : Value}, w3.ownsRow b 29 1 u q.length (u32c q) → (w3.setCell ⟨g, l0.length * 2 + 1, none⟩ v2).ownsRow b 29 1 u q.length (u32c q) := fun hu =>
    own_set hu (fun e => own_types hu hrow3 (by decide) g e rfl) v2
  refine ⟨?_, by simp [hl], fun i y u h1 h2 => ?_, fun i j u u' hij h1 h2 z hz => ?_⟩
  · have h1 := (hrow3.stored (l0.length * 2 + 1) v2).1
    have e : (nrC (l0 ++ [⟨k, r⟩]) (vs0 ++ [v])).set (l0.length * 2 + 1) v2 = nrC (l0 ++ [⟨k, r ++ [x]⟩]) (vs0 ++ [v2]) := by
      rw [nrC_snoc _ _ _ _ hl, nrC_snoc _ _ _ _ hl, List.set_append_right _ _ (by rw [nrC_len _ _ hl]; omega), nrC_len _ _ hl, show l0.length * 2 + 1 - l0.length * 2 = 1 by omega]
      rfl
    rw [e] at h1
    exact h1
  · rcases snoc_get _ _ _ _ h1 with ⟨p1, q1⟩ | ⟨p1, q1⟩ <;> rcases snoc_get _ _ _ _ h2 with ⟨p2, q2⟩ | ⟨p2, q2⟩
    · have h3 := h.rows i y u (by rw [List.getElem?_append_left p1]; exact q1) (by rw [List.getElem?_append_left p2]; exact q2)
      refine put (own_apartR h3 g3 (fun z hz e => h.ne i l0.length u v (by omega) (by rw [List.getElem?_append_left p2]; exact q2) hvl z hz e.symm))
    · omega
    · omega
    · rw [q1, q2]; exact put g2
  · have lt : ∀ (i : Nat) (u : Value), i < vs0.length → vs0[i]? = some u → ∀ z, u.ownBlock = some z → v2.ownBlock ≠ some z := fun i u p q z hz hz2 => by
      have hu : (vs0 ++ [v])[i]? = some u := by rw [List.getElem?_append_left p]; exact q
      rcases g4 with g4 | g4
      · rw [g4] at hz2; exact h.ne i l0.length u v (by omega) hu hvl z hz hz2
      · rw [g4] at hz2
        obtain ⟨y, hy⟩ : ∃ y, (l0 ++ [(⟨k, r⟩ : SG)])[i]? = some y := ⟨_, List.getElem?_eq_getElem (by simp; omega)⟩
        have := own_block_lt (h.rows i y u hy hu) z hz
        cases hz2
        omega
    rcases snoc_get _ _ _ _ h1 with ⟨p1, q1⟩ | ⟨p1, q1⟩ <;> rcases snoc_get _ _ _ _ h2 with ⟨p2, q2⟩ | ⟨p2, q2⟩
    · exact h.ne i j u u' hij (by rw [List.getElem?_append_left p1]; exact q1) (by rw [List.getElem?_append_left p2]; exact q2) z hz
    · rw [q2]; exact lt i u p1 q1 z hz
    · rw [q1] at hz; exact fun hz2 => lt j u' p2 q2 z hz2 hz
    · omega
theorem nr_lst {w : World} {b n c : Nat} {A : Option Addr} {l : List SG} {vs : List Value} (h : NR w b A n c l vs) (hb : ∀ x ∈ l, ∀ y ∈ x.r, y < 4294967296) : LstAt 2 sgR w A n c l := by
  refine LstAt.of_own (by decide) h.row ⟨nrC_len l vs h.len, fun k x hk => ?_⟩
  have hkl := (List.getElem?_eq_some_iff.1 hk).1
  obtain ⟨v, hv⟩ : ∃ v, vs[k]? = some v := ⟨_, List.getElem?_eq_getElem (by rw [h.len]; exact hkl)⟩
  have ha := h.rows k x v hk hv
  obtain ⟨B, d, rfl⟩ := own_slice ha
  have key : ∀ (l : List SG) (vs : List Value) (k : Nat) (x : SG) (v : Value), l[k]? = some x → vs[k]? = some v → ((nrC l vs).drop (k * 2)).take 2 = [.int .i64 x.k, v] := by
    intro l
    induction l with
    | nil => intro vs k x v h1; simp at h1
    | cons a l ih =>
      intro vs k x v h1 h2
      cases vs with
      | nil => simp at h2
      | cons u vs =>
        have e : nrC (a :: l) (u :: vs) = .int .i64 a.k :: u :: nrC l vs := by simp [nrC]
        cases k with
        | zero => simp at h1 h2; subst h1 h2; rw [e]; rfl
        | succ k =>
          rw [e, show (k + 1) * 2 = k * 2 + 1 + 1 by omega, List.drop_succ_cons, List.drop_succ_cons]
          exact ih vs k x v (by simpa using h1) (by simpa using h2)
  rw [key l vs k x _ hk hv]
  exact ⟨B, _, d, rfl, U32s.of_own ha (hb x (List.mem_of_getElem? hk))⟩
end Go.Proofs.YtplhnhoijficgaaGreatDoor
set_option linter.unusedSimpArgs false
set_option linter.unusedVariables false
namespace Go.Proofs.YtplhnhoijficgaaGreatDoor
open Go.RowKit Go.WideShapes Go.ChangeShapes
attribute [local go_sem] Oper.semAt_some
structure PpSt (H : Nat) (w W : World) (κ : Int) (A : Option Addr) (n c : Nat) (l : List SG) (vs : List Value) : Prop where
  c0 : Blk W H 22 #[.slice A n c]
  c1 : Blk W (H + 1) 3 #[.int .i64 κ]
  nr : NR W (H + 5) A n c l vs
  bel : Below H w W
  siz : H + 5 ≤ W.heap.size
/-- What a round keeps. -/
structure KR (lo H : Nat) (A B : World) : Prop where
  keeps : KeepsFrom lo A B
  same : KpR (H + 2) (H + 5) A B
theorem KR.refl (lo H : Nat) (A : World) : KR lo H A A := ⟨KeepsFrom.refl _ _, KpR.refl _ _ _⟩
theorem KR.below {lo H : Nat} {W A B : World} (h : KR lo H W A) (hb : Below A.heap.size A B) (hA : H + 5 ≤ A.heap.size) : KR lo H W B :=
  ⟨h.keeps.trans (KeepsFrom.below hb), h.same.trans (KpR.of_below hb hb.size hA)⟩
theorem KR.set {lo H g i : Nat} {W A : World} (h : KR lo H W A) (hg : g < H + 2 ∨ H + 5 ≤ g) (v : Value) : KR lo H W (A.setCell ⟨g, i, none⟩ v) :=
  ⟨h.keeps.trans ((KeepsOthers.setCell _ _ _).from _), h.same.trans ⟨(KeepsOthers.setCell _ _ _).size, fun k h0 h1 => Below.heap_setCell A _ _ k (by show k ≠ g; omega)⟩⟩
theorem KR.grown {lo H n size : Nat} {e : TypeId} {xs : List Value} {W A B : World} {v : Value} (h : KR lo H W A) (hv : A.ownsRow (H + 5) e size v n xs) (hg : A.grownBy B v.ownBlock) (hA : H + 5 ≤ A.heap.size) : KR lo H W B :=
  ⟨h.keeps.trans ((KeepsOthers.of_grownBy hg (fun j o hj ho => by
      obtain ⟨_, o2, h2, h3⟩ := own_cells hv j hj
      rw [h2] at ho; cases ho; exact h3)).from _),
    h.same.trans ⟨hg.size, fun k h0 h1 => hg.block k (by omega) (fun e => by have := (own_cells hv k e.symm).1; omega)⟩⟩
theorem PpSt.abide {H lo : Nat} {w A0 B0 : World} {κ : Int} {A : Option Addr} {n c : Nat} {l : List SG} {vs : List Value} {row : Option Nat} (h : PpSt H w A0 κ A n c l vs) (hlo : H + 5 ≤ lo) (hg : A0.grownBy B0 row) (hr : ∀ r, row = some r → r = H + 2 ∨ (lo ≤ r ∧ ∃ o : Obj, A0.heap[r]? = some o ∧ o.isCells = false)) : PpSt H w B0 κ A n c l vs :=
  ⟨blk_turned h.c0 hg hr (by omega), blk_turned h.c1 hg hr (by omega), nr_keep h.nr hg (fun r e => (hr r e).imp (fun h => by omega) (fun h => h.2)),
    h.bel.grown hg (Nat.le_of_lt h.c0.lt) (fun k hk => by rcases hr k hk with h' | ⟨h', _⟩ <;> omega), Nat.le_trans h.siz hg.size⟩
theorem PpSt.below {H : Nat} {w A0 B0 : World} {κ : Int} {A : Option Addr} {n c : Nat} {l : List SG} {vs : List Value} (h : PpSt H w A0 κ A n c l vs) (hb : Below A0.heap.size A0 B0) : PpSt H w B0 κ A n c l vs :=
  ⟨h.c0.below hb h.c0.lt, h.c1.below hb h.c1.lt, nr_below h.nr hb, h.bel.trans (hb.mono (Nat.le_of_lt h.c0.lt)), Nat.le_trans h.siz hb.size⟩
theorem nr_n {w : World} {b n c : Nat} {A : Option Addr} {l : List SG} {vs : List Value} (h : NR w b A n c l vs) : n = l.length := by
  have h1 := h.row.1
  rw [nrC_len _ _ h.len] at h1
  omega
theorem nr_low {w : World} {b n c : Nat} {A : Option Addr} {l : List SG} {vs : List Value} (h : NR w b A n c l vs) : ∀ (i : Nat) (v' : Value), vs[i]? = some v' → ∀ z, v'.ownBlock = some z → z < w.heap.size := by
  intro i v' hv z hz
  have hi := (List.getElem?_eq_some_iff.1 hv).1
  obtain ⟨x, hx⟩ : ∃ x, l[i]? = some x := ⟨_, List.getElem?_eq_getElem (by rw [← h.len]; exact hi)⟩
  exact own_block_lt (h.rows i x v' hx hv) z hz
/-- The last segment: where it lies. -/
theorem nr_last {w : World} {b n c : Nat} {A : Option Addr} {l0 : List SG} {k : Int} {r : List Nat} {vs : List Value} (h : NR w b A n c (l0 ++ [⟨k, r⟩]) vs) :
    ∃ (g : Nat) (vs0 : List Value) (v : Value) (cur : Array Value), A = some ⟨g, 0, none⟩ ∧ n = l0.length + 1 ∧ vs = vs0 ++ [v] ∧ vs0.length = l0.length ∧ Blk w g 36 cur ∧ w.cell? ⟨g, l0.length * 2, none⟩ = some (.int .i64 k) ∧ w.cell? ⟨g, l0.length * 2 + 1, none⟩ = some v ∧ w.ownsRow b 29 1 v r.length (u32c r) := by
  have hn := nr_n h
  rw [List.length_append] at hn
  simp only [List.length_cons, List.length_nil] at hn
  have hvl := h.len
  rw [List.length_append] at hvl
  simp only [List.length_cons, List.length_nil] at hvl
  obtain ⟨vs0, v, rfl⟩ : ∃ vs0 v, vs = vs0 ++ [v] := ⟨vs.dropLast, vs.getLast (by intro e; rw [e] at hvl; simp at hvl), (List.dropLast_concat_getLast _).symm⟩
  have hl : vs0.length = l0.length := by simpa using hvl
  rcases h.row.2 with ⟨e, h0⟩ | ⟨g, cap, cur, e, hg, hh, hnc, hm, hcs, htk⟩
  · omega
  · injection e with e1 e2 e3
    subst e1
    have hc : ∀ j u, (nrC (l0 ++ [⟨k, r⟩]) (vs0 ++ [v]))[j]? = some u → w.cell? ⟨g, j, none⟩ = some u := fun j u hu => by
      have := h.row.cells (g := g) rfl j u hu
      rwa [show (⟨g, 0, none⟩ : Addr).add j = ⟨g, j, none⟩ by unfold Addr.add; split <;> simp_all] at this
    rw [nrC_snoc _ _ _ _ hl] at hc
    have hL := nrC_len l0 vs0 hl
    refine ⟨g, vs0, v, cur, rfl, hn, rfl, hl, hh, hc _ _ ?_, hc _ _ ?_, h.rows l0.length ⟨k, r⟩ v (by simp) (by rw [List.getElem?_append_right (by omega), hl]; simp)⟩
    · rw [List.getElem?_append_right (by omega), hL]; simp
    · rw [List.getElem?_append_right (by omega), hL]; simp
/-- A state in a round, and what the round has kept. -/
structure PsR (lo H : Nat) (w W W1 : World) (κ : Int) (A : Option Addr) (n c : Nat) (l : List SG) (vs : List Value) : Prop where
  st : PpSt H w W1 κ A n c l vs
  kr : KR lo H W W1
theorem PsR.below {lo H : Nat} {w W W1 W2 : World} {κ : Int} {A : Option Addr} {n c : Nat} {l : List SG} {vs : List Value} (h : PsR lo H w W W1 κ A n c l vs) (hb : Below W1.heap.size W1 W2) : PsR lo H w W W2 κ A n c l vs :=
  ⟨h.st.below hb, h.kr.below hb h.st.siz⟩
theorem PsR.kind {lo H : Nat} {w W W1 : World} {κ : Int} {A : Option Addr} {n c : Nat} {l : List SG} {vs : List Value} (h : PsR lo H w W W1 κ A n c l vs) (κ' : Int) : PsR lo H w W (W1.setCell ⟨H + 1, 0, none⟩ (.int .i64 κ')) κ' A n c l vs :=
  ⟨⟨h.st.c0.far (by simp) _, h.st.c1.set0 rfl, nr_set h.st.nr (by omega) _, h.st.bel.setCell (p := ⟨H + 1, 0, none⟩) (by show H ≤ H + 1; omega) _, Nat.le_trans h.st.siz (KeepsOthers.setCell _ _ _).size⟩, h.kr.set (by omega) _⟩
theorem PsR.push {lo H : Nat} {w W W1 W3 : World} {κ : Int} {A : Option Addr} {n c : Nat} {l : List SG} {vs : List Value} {x : SG} {v v2 : Value} (h : PsR lo H w W W1 κ A n c l vs) (hv : W1.ownsRow (H + 5) 29 1 v x.r.length (u32c x.r))
    (hne : ∀ (i : Nat) (v' : Value), vs[i]? = some v' → ∀ z, v'.ownBlock = some z → v.ownBlock ≠ some z) (g2 : W3.ownsRow (H + 5) 36 2 v2 (n + 1) (nrC l vs ++ [.int .i64 x.k, v])) (g3 : W1.grownBy W3 (Value.slice A n c).ownBlock) :
    ∃ A' c', v2 = .slice A' (n + 1) c' ∧ PsR lo H w W (W3.setCell ⟨H, 0, none⟩ v2) κ A' (n + 1) c' (l ++ [x]) (vs ++ [v]) := by
  obtain ⟨A', c', rfl, hn⟩ := nr_push h.st.nr hv hne g2 g3
  have hb : ∀ k, k < H + 5 → some k ≠ (Value.slice A n c).ownBlock := fun k hk e => by have := own_low_block h.st.nr.row k e.symm; omega
  have hs := h.st.siz
  refine ⟨A', c', rfl, ⟨(h.st.c0.grown g3 (hb _ (by omega))).set0 rfl, (h.st.c1.grown g3 (hb _ (by omega))).far (by simp) _, nr_set hn (by omega) _, ?_, ?_⟩, (h.kr.grown h.st.nr.row g3 hs).set (by omega) _⟩
  · exact (h.st.bel.grown g3 (by omega) (fun k hk => by have := own_low_block h.st.nr.row k hk; omega)).setCell (p := ⟨H, 0, none⟩) (Nat.le_refl _) _
  · have := g3.size
    have := (KeepsOthers.setCell W3 ⟨H, 0, none⟩ (.slice A' (n + 1) c')).size
    omega
theorem PsR.grow {lo H g x : Nat} {w W W1 W3 : World} {κ : Int} {n c : Nat} {l0 : List SG} {vs0 : List Value} {k : Int} {r : List Nat} {v v2 : Value} (h : PsR lo H w W W1 κ (some ⟨g, 0, none⟩) n c (l0 ++ [⟨k, r⟩]) (vs0 ++ [v]))
    (g2 : W3.ownsRow (H + 5) 29 1 v2 (r ++ [x]).length (u32c (r ++ [x]))) (g3 : W1.grownBy W3 v.ownBlock) (g4 : v2.ownBlock = v.ownBlock ∨ v2.ownBlock = some W1.heap.size) :
    PsR lo H w W (W3.setCell ⟨g, l0.length * 2 + 1, none⟩ v2) κ (some ⟨g, 0, none⟩) n c (l0 ++ [⟨k, r ++ [x]⟩]) (vs0 ++ [v2]) := by
  have hl : vs0.length = l0.length := by have := h.st.nr.len; simpa using this
  have hv := h.st.nr.rows l0.length ⟨k, r⟩ v (by simp) (by rw [List.getElem?_append_right (by omega), hl]; simp)
  have hb : ∀ k, k < H + 5 → some k ≠ v.ownBlock := fun k hk e => by have := own_low_block hv k e.symm; omega
  have hg5 : H + 5 ≤ g := own_low_block h.st.nr.row g rfl
  have hs := h.st.siz
  refine ⟨⟨(h.st.c0.grown g3 (hb _ (by omega))).far (by simp; omega) _, (h.st.c1.grown g3 (hb _ (by omega))).far (by simp; omega) _, nr_grow h.st.nr g2 g3 g4, ?_, ?_⟩, (h.kr.grown hv g3 hs).set (by omega) _⟩
  · exact (h.st.bel.grown g3 (by omega) (fun k hk => by have := own_low_block hv k hk; omega)).setCell (p := ⟨g, _, none⟩) (by show H ≤ g; omega) _
  · have := g3.size
    have := (KeepsOthers.setCell W3 ⟨g, l0.length * 2 + 1, none⟩ v2).size
    omega
theorem psr_alloc {lo H : Nat} {w W W1 : World} {κ : Int} {A : Option Addr} {n c : Nat} {l : List SG} {vs : List Value} (h : PsR lo H w W W1 κ A n c l vs) (o : Obj) : PsR lo H w W (W1.alloc o) κ A n c l vs := h.below ((Below.refl _ _).alloc (Nat.le_refl _) _)
theorem psr_last {lo H : Nat} {w W W1 : World} {κ : Int} {A : Option Addr} {n c : Nat} {l0 : List SG} {k : Int} {r : List Nat} {vs0 : List Value} {v : Value} (h : PsR lo H w W W1 κ A n c (l0 ++ [⟨k, r⟩]) (vs0 ++ [v])) : W1.ownsRow (H + 5) 29 1 v r.length (u32c r) := by
  have hl : vs0.length = l0.length := by have := h.st.nr.len; simpa using this
  exact h.st.nr.rows l0.length ⟨k, r⟩ v (by simp) (by rw [List.getElem?_append_right (by omega), hl]; simp)
theorem grown_below {w w2 w3 : World} {row : Option Nat} (h : w.grownBy w2 row) (hb : Below w2.heap.size w2 w3) : w.grownBy w3 row :=
  ⟨hb.os.trans h.os, hb.tape.trans h.tape, hb.output.trans h.output, Nat.le_trans h.size hb.size, fun k hk hn => (hb.block k (Nat.lt_of_lt_of_le hk h.size)).trans (h.block k hk hn)⟩
/-- The last segment's number laid: what its store wants. -/
theorem psr_put {lo H g : Nat} {w W wa W3 : World} {κ : Int} {n c k : Nat} {l0 : List SG} {r : List Nat} {vs0 : List Value} {v : Value} (h : PsR lo H w W wa κ (some ⟨g, 0, none⟩) n c (l0 ++ [⟨κ, r⟩]) (vs0 ++ [v])) (hk : l0.length = k) (hg : wa.grownBy W3 v.ownBlock) :
    W3.cell? ⟨g, k * 2 + 1, none⟩ = some v ∧ W3.frozen? ⟨g, k * 2 + 1, none⟩ = false := by
  obtain ⟨g2, vs1, v1, cur, e1, hn, e2, hvl, hbg, hz0, hz1, hov⟩ := nr_last h.st.nr
  injection e1 with e1
  injection e1 with e1
  subst e1
  obtain ⟨_, e3⟩ := List.append_inj' e2 rfl
  injection e3 with e3
  subst e3
  have hne : some g ≠ v.ownBlock := fun e => own_types h.st.nr.row hov (by decide) g rfl e.symm
  rw [← hk]
  exact ⟨(World.cell?_of_block (hg.block g hbg.lt hne)).trans hz1, (hbg.grown hg hne).frozen _⟩
def psTx : List UInt8 := [49, 32, 50, 32, 123, 51, 32, 52, 125, 32, 53]
theorem psTx_pieces : pieces 32 psTx = [[49], [50], [123, 51], [52, 125], [53]] := by decide +kernel
structure PcF (p : List UInt8) (hp hs : Bool) (x : Nat) : Prop where
  pre : Lib.hasPrefix (str p).data.toList (⟨#[123]⟩ : ByteArray).data.toList = hp
  suf : Lib.hasSuffix (str p).data.toList (⟨#[125]⟩ : ByteArray).data.toList = hs
  num : Lib.parseUintB 32 (Lib.trimS (str p).data.toList (⟨#[123, 125]⟩ : ByteArray).data.toList) = .ok x
  len : p.length ≤ 2
  tl : (⟨(Lib.trimS (str p).data.toList (⟨#[123, 125]⟩ : ByteArray).data.toList).toArray⟩ : ByteArray).size ≤ 1000
def psT : Nat → Int × List SG
  | 0 => (2, [])
  | 1 => (2, [⟨2, [1]⟩])
  | 2 => (2, [⟨2, [1, 2]⟩])
  | 3 => (1, [⟨2, [1, 2]⟩, ⟨1, [3]⟩])
  | 4 => (2, [⟨2, [1, 2]⟩, ⟨1, [3, 4]⟩])
  | _ => (2, [⟨2, [1, 2]⟩, ⟨1, [3, 4]⟩, ⟨2, [5]⟩])
/-- What a round meets: a number of a kind of its own, one that goes on, or a set that begins. -/
inductive PsC (p : List UInt8) (κ : Int) (L : List SG) : Int × List SG → Prop
  | push (x : Nat) : PcF p false false x → x < 6 → L.length ≤ 3 → (L = [] ∨ ∃ l0 k r, L = l0 ++ [⟨k, r⟩] ∧ (k == κ) = false) → PsC p κ L (κ, L ++ [⟨κ, [x]⟩])
  | grow (x : Nat) (hs : Bool) (l0 : List SG) (r : List Nat) : PcF p false hs x → x < 6 → l0.length ≤ 3 → r.length ≤ 3 → L = l0 ++ [⟨κ, r⟩] → PsC p κ L (if hs then 2 else κ, l0 ++ [⟨κ, r ++ [x]⟩])
  | open_ (x : Nat) : PcF p true false x → x < 6 → L.length ≤ 3 → PsC p κ L (1, L ++ [⟨1, [] ++ [x]⟩])
theorem braces_ascii : ∀ (j : Nat) (b : UInt8), (⟨#[123, 125]⟩ : ByteArray).data.toList[j]? = some b → b.toNat < 128 := by
  intro j b h
  have hm : b ∈ ([123, 125] : List UInt8) := List.mem_of_getElem? h
  have key : ∀ b ∈ ([123, 125] : List UInt8), b.toNat < 128 := by decide
  exact key b hm
theorem ps_cases {pre post : List (List UInt8)} {p : List UInt8} {i : Nat} (h : pre ++ p :: post = pieces 32 psTx) (hp : pre = (pieces 32 psTx).take i) (hi : i ≤ 5) :
    pre ++ [p] = (pieces 32 psTx).take (i + 1) ∧ i < 5 ∧ PsC p (psT i).1 (psT i).2 (psT (i + 1)) := by
  rw [psTx_pieces] at *
  have hl : pre.length = i := by rw [hp, List.length_take]; simp; omega
  have hlt : i < 5 := by have := congrArg List.length h; simp at this; omega
  have hx : [[49], [50], [123, 51], [52, 125], ([53] : List UInt8)][i]? = some p := by
    rw [← h, List.getElem?_append_right (by omega), hl]; simp
  have e1 : pre ++ [p] = [[49], [50], [123, 51], [52, 125], ([53] : List UInt8)].take (i + 1) := by
    rw [List.take_add_one, hx, ← hp]; rfl
  refine ⟨e1, hlt, ?_⟩
  match i, hlt, hx with
  | 0, _, hx =>
    obtain rfl : ([49] : List UInt8) = p := by simpa using hx
    exact .push (L := []) 1 ⟨by decide +kernel, by decide +kernel, by decide +kernel, by decide, by decide +kernel⟩ (by omega) (by simp) (.inl rfl)
  | 1, _, hx =>
    obtain rfl : ([50] : List UInt8) = p := by simpa using hx
    exact .grow (κ := 2) 2 false [] [1] ⟨by decide +kernel, by decide +kernel, by decide +kernel, by decide, by decide +kernel⟩ (by omega) (by simp) (by simp) rfl
  | 2, _, hx =>
    obtain rfl : ([123, 51] : List UInt8) = p := by simpa using hx
    exact .open_ (κ := 2) (L := [⟨2, [1, 2]⟩]) 3 ⟨by decide +kernel, by decide +kernel, by decide +kernel, by decide, by decide +kernel⟩ (by omega) (by simp)
  | 3, _, hx =>
    obtain rfl : ([52, 125] : List UInt8) = p := by simpa using hx
    exact .grow (κ := 1) 4 true [⟨2, [1, 2]⟩] [3] ⟨by decide +kernel, by decide +kernel, by decide +kernel, by decide, by decide +kernel⟩ (by omega) (by simp) (by simp) rfl
  | 4, _, hx =>
    obtain rfl : ([53] : List UInt8) = p := by simpa using hx
    exact .push (κ := 2) (L := [⟨2, [1, 2]⟩, ⟨1, [3, 4]⟩]) 5 ⟨by decide +kernel, by decide +kernel, by decide +kernel, by decide, by decide +kernel⟩ (by omega) (by simp) (.inr ⟨[⟨2, [1, 2]⟩], 1, [3, 4], rfl, rfl⟩)
theorem pnum32 (s : ByteArray) (x : Nat) (hs : s.size ≤ 1000) (h : Lib.parseUintB 32 s.data.toList = .ok x) (w : World) : Calls Tryz.prog 45 #[.string s, .int .i64 10, .int .i64 32] w fun e w' => e = .returned (.tuple #[.int .u64 (x : Int), .nilIface]) ∧ Below w.heap.size w w' := by
  refine (Tryz.strconv_ParseUint_10_at32_ok s (by omega) x h w).mono ?_
  rintro e w' ⟨rfl, hw⟩
  refine ⟨rfl, ?_⟩
  rcases hw with rfl | rfl
  · exact Below.refl _ _
  · exact Go.Joins.below_bytesWorld _ _ _ _ (Nat.le_refl _)
end Go.Proofs.YtplhnhoijficgaaGreatDoor
