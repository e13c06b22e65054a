import Derived.Test.YtplhnhoijficgaaGreatEw3
import Derived.WalkKit
import Derived.ProofKit
import Derived.OpenShut
import Derived.Below
import Derived.Laws.OwnMore
import Derived.Laws.Rows
import Derived.Laws.MakeOwn
import Derived.Deep.AppendLies
import Derived.Deep.Draws
import Derived.Deep.OwnRows
import Derived.Deep.QuietTactic
import Derived.Maps.AppendAt
import Derived.RegionTactic
import Derived.OwnWalk
import Derived.ChangeSame
import Derived.Outline
import Derived.BigQuiet
import Derived.WalkMore
import Derived.ScopeJumps
import Derived.WalkLawsBesides
import Derived.WalkSpells
import Derived.Deep.Slices
import Derived.Laws.BitsLemmas
import Derived.Laws.BitsAllLaws
import Derived.Deep.Quiet
import Derived.WideKeyArgs
import Derived.Deep.DeepHandedRow
import Derived.Deep.DeepWitnessRowRef
import Derived.Lib.LaidTab
import Derived.Lib.AppendIntMem
import Derived.LaidMore
import Derived.MakeChecks
import Derived.Lib.Itoa
import Derived.Lib.ItoaMem
import Derived.BigRegion
import Derived.Orders
import Derived.OrdersIn
import Derived.RangeFuncCalls
import Derived.Shelf.RegionOpen
import Derived.Lib.PathFns
import Derived.Lib.IndexBytes
import Derived.RangeFuncWrites
import Derived.RangeFuncNested
import Derived.RangeFuncBound
import Derived.RangeFuncLeaves
import Derived.RangeFuncBox
import Derived.Shelf.Abstract
import Derived.OwnWalkIn
import Derived.TacticsInMore
import Derived.LoopNIn
import Derived.LoopIn
import Derived.Lib.SmallJoins
import Derived.Lib.ParseIntBCases
import Derived.Lib.IndexMore
import Derived.Shelf.Vars
import Derived.Lib.AtoiAllCases
import Derived.SliceStrings
import Derived.Deep.RegionLaw
import Derived.Sort.LotA
import Derived.StillTailTactics
import Derived.BigRegionIn
import Derived.Deep.RegionHeld3
import Derived.RangeFuncOwn
import Derived.Sort.WalkA6
import Derived.Sort.WalkB3
import Derived.Sort.WalkC4
import Derived.Sort.WalkA14
import Derived.Sort.Walk11
import Derived.Sort.Walk7
import Derived.Sort.Walk13
import Derived.Sort.Row
import Derived.Lib.Walk
import Derived.Lib.Strings
import Derived.BigGuard
import Derived.BigCall
import Derived.CellFam
import Derived.Deep.LoopGhost
import Derived.Sort.LotC
import Derived.Deep.RegionWith
import Derived.RowKit
import Derived.Sort.LotD3
import Derived.Sort.LotD4
import Derived.Sort.Grow
import Derived.Sort.AtCall
import Derived.Sort.LotD5
import Derived.Laws.Bits64
import Derived.Laws.Bits64b
import Derived.Sort.EncStr
import Derived.Sort.LotD1
import Derived.Sort.LotB
import Derived.Deep.Cut
import Derived.Sort.Walk13a
import Derived.Sort.AssemblyPlain
import Derived.Shelf.Spec.SlicesInsertGrow
import Derived.Deep.MidRow
import Derived.Lib.RowBridge
import Derived.Laws.CopyOwn
import Derived.Lib.AppendZerosOnto
import Derived.Lib.Bytealg
import Derived.Shelf.Strings.SplitShaped
import Derived.Shelf.Strings.Prefix
import Derived.Shelf.Small.Strs
import Derived.Deep.DeepCutAuto
set_option linter.unusedSimpArgs false
set_option linter.unusedVariables false
namespace Go.Proofs.YtplhnhoijficgaaGreat
open Go.RowKit Go.WideShapes Go.ChangeShapes
attribute [local go_sem] Oper.semAt_some
/-- What the reference's functions hand back: a row of one's own, its numbers wherever they lie. -/
def RefP (l : List SG) (w : World) (e : Ending) (w' : World) : Prop := ∃ A n c xs, e = .returned (.slice A n c) ∧ LOw 2 59 sgR w' w.heap.size 0 A n c l xs ∧ Below w.heap.size w w'
theorem low_lit (w : World) : LOw 2 59 sgR (w.alloc (.cells #[] 59)) w.heap.size 0 (some ⟨w.heap.size, 0, none⟩) 0 0 [] [] :=
  ⟨w.ownsRow_lit #[] 0 (Nat.le_refl _) (by unfold maxLen; omega) rfl, by simp, fun k x hk => by simp at hk⟩
theorem u32_one {w : World} {x : Nat} (hx : x < 4294967296) : U32s (w.alloc (.cells #[.int .u32 (x : Int)] 22)) (some ⟨w.heap.size, 0, none⟩) 1 1 [x] := ⟨rfl, Nat.le_refl _, by unfold maxLen; omega, by simpa using hx, fun _ => ⟨w.heap.size, 0, rfl, by simp, fun k y hy => by
    have hk : k = 0 := by have := (List.getElem?_eq_some_iff.1 hy).1; simpa using this
    subst hk
    simp only [List.getElem?_cons_zero, Option.some.injEq] at hy
    subst hy
    exact (Blk.new w 22 #[.int .u32 (x : Int)]).cell 0⟩⟩
set_option maxRecDepth 100000 in
set_option maxHeartbeats 4000000 in
theorem refputS_any (A : Option Addr) (n c x : Nat) (l : List SG) (w : World) (h : LstAt 2 sgR w A n c l) (hx : x < 4294967296) (hn : n ≤ 20000) :
    Calls Tryz.prog 36 #[.slice A n c, .int .u32 (x : Int)] w (RefP (putS l x) w) := by
  obtain ⟨i0, hi, hz0, hz1, hz2⟩ := info_parts segInfo
  obtain ⟨j0, hj, hy0, hy1, hy2⟩ := info_parts info32
  have hnc := h.2.1
  have hmx := h.2.2.1
  unfold maxLen at hmx
  have HLs := hide h
  -- behind: all of l, and a segment of its own
  have HL0 := hide (low_lit w)
  have HB0 : Hid (Below w.heap.size w (w.alloc (.cells #[] 59))) := hide ((Below.refl _ w).alloc (Nat.le_refl _) _)
  have tailp : ∀ (hlast : ∀ y, l.getLast? = some y → ¬ (y.k = 2 ∧ y.r.length < 255)), putS l x = l ++ [⟨2, [x]⟩] := fun hlast => by
    unfold putS
    cases hl : l.getLast? with
    | none => rw [List.getLast?_eq_none_iff] at hl; subst hl; rfl
    | some y => simp only; rw [if_neg (hlast y hl)]
  by_cases h0 : n = 0
  · subst h0
    have HP : Hid (putS l x = l ++ [⟨2, [x]⟩]) := hide (tailp (by rw [List.eq_nil_of_length_eq_zero h.1]; intro y hy; simp at hy))
    obtain ⟨ys, hs⟩ := seg_src h
    obtain ⟨hr, hch, ho⟩ := hs _ HB0.out (.slice (some ⟨w.heap.size, 0, none⟩) 0 0) (fun k hk => by cases hk; exact Nat.le_refl _)
    have HRd := hide hr
    have HCh := hide hch
    have HOn := hide ho
    clear h tailp hr hch ho hs
    go_enter Tryz.func36, Tryz.ntmps36
    go_wp2_with (at_builtin; refine wpList_append_any _ rfl (.tmp 48) (.tmp 49) 37 rfl w.heap.size 59 i0 _ 2 32 Tryz.underlying37 hi hz0 hz1 hz2 rfl (by decide) (.slice (some ⟨w.heap.size, 0, none⟩) 0 0) 0 [] rfl HL0.out.1 _ A 0 c ys rfl HRd.out HOn.out (by unfold maxLen; omega) (by omega) (by simp) ?_; intro v' w7 g2 g3 g4; refine Hid.out (?_ : Hid _))
    obtain ⟨A7, c7, rfl, hlo7⟩ := LOw.push HL0.out HCh.out g2 g3 g4
    simp only [Nat.zero_add, List.nil_append] at hlo7
    have HL7 := hide hlo7
    have HB7 := hide (HB0.out.grown g3 (by simp) (fun k hk => by cases hk; exact Nat.le_refl _))
    have hs7 := HB7.out.size
    have HOb : Hid (∀ z, (Value.slice A7 0 c7).ownBlock = some z → z < w7.heap.size) := hide (own_block_lt hlo7.1)
    simp only [Nat.zero_add]
    clear g2 g3 g4 hlo7
    have hbc : Below w7.heap.size w7 ((w7.alloc (.cells #[.int .u32 (x : Int)] 22)).alloc (.cells #[.int .i64 2, .slice (some ⟨w7.heap.size, 0, none⟩) 1 1] 59)) := ((Below.refl _ w7).alloc (Nat.le_refl _) _).alloc (by simp) _
    have HLc := hide (HL7.out.below hbc)
    have HU : Hid (U32s ((w7.alloc (.cells #[.int .u32 (x : Int)] 22)).alloc (.cells #[.int .i64 2, .slice (some ⟨w7.heap.size, 0, none⟩) 1 1] 59)) (some ⟨w7.heap.size, 0, none⟩) 1 1 [x]) := hide ((u32_one hx).below ((Below.refl _ _).alloc (Nat.le_refl _) _))
    have HBk : Hid (Blk ((w7.alloc (.cells #[.int .u32 (x : Int)] 22)).alloc (.cells #[.int .i64 2, .slice (some ⟨w7.heap.size, 0, none⟩) 1 1] 59)) (w7.heap.size + 1) 59 #[.int .i64 2, .slice (some ⟨w7.heap.size, 0, none⟩) 1 1]) := hide (blk_new' _ _ (by simp))
    have HBc := hide (HB7.out.trans (hbc.mono hs7))
    have hsc : w7.heap.size + 2 = ((w7.alloc (.cells #[.int .u32 (x : Int)] 22)).alloc (.cells #[.int .i64 2, .slice (some ⟨w7.heap.size, 0, none⟩) 1 1] 59)).heap.size := by simp
    clear hbc
    refine hide ?_
    go_wp2_with (at_builtin; refine wpList_append_any _ rfl (.tmp 50) (.tmp 54) 37 rfl w.heap.size 59 i0 _ 2 32 Tryz.underlying37 hi hz0 hz1 hz2 rfl (by decide) (.slice A7 0 c7) 0 ys rfl HLc.out.1 _ (some ⟨w7.heap.size + 1, 0, none⟩) 1 1 [.int .i64 2, .slice (some ⟨w7.heap.size, 0, none⟩) 1 1] rfl (reads_blkN HBk.out HBk.out.lt rfl rfl) (by simp [Value.oneCell']) (by unfold maxLen; omega) (by omega) (by omega) ?_; intro v' w8 g2 g3 g4; obtain ⟨A8, c8, rfl, hlo8⟩ := LOw.push HLc.out (chunk1_fr rfl (sg_fr' HU.out (fun _ a ha => by cases ha; exact ⟨Nat.zero_le _, fun e => by have := HOb.out _ e.symm; simp at this⟩))) g2 g3 g4; have HL8 := hide hlo8; have HB8 := hide (HBc.out.grown g3 (by omega) (fun k hk => own_low_block HL7.out.1 k hk)); clear hlo8 g2 g3 g4)
    go_ret
    exact ⟨A8, 0 + 1, c8, _, rfl, by rw [HP.out]; exact HL8.out, HB8.out⟩
  · obtain ⟨k, rfl⟩ : ∃ k, n = k + 1 := ⟨n - 1, by omega⟩
    obtain ⟨g, o, b, B, m, d, r, rfl, hg, hxl, hr0, hc0, hc1⟩ := SGat h (k := k) (by omega)
    have hll : l.getLast? = some ⟨b, r⟩ := by rw [List.getLast?_eq_getElem?, h.1]; simpa using hxl
    have hrl : r.length = m := hr0.1
    have hwk : IntKind.i64.wrap (k : Int) = (k : Int) := by rw [IntKind.wrap_i64]; omega
    have hwk1 : IntKind.i64.wrap ((k : Int) + 1 - 1) = (k : Int) := by rw [IntKind.wrap_i64]; omega
    have hk0 : decide (0 ≤ (k : Int)) = true := decide_eq_true (by omega)
    have hkk : (k : Int) < ((k + 1 : Nat) : Int) := by omega
    by_cases hb : b = 2
    · subst hb
      by_cases hm : m < 255
      · have dm : decide ((m : Int) < 255) = true := decide_eq_true (by omega)
        have HP : Hid (putS l x = l.take k ++ [⟨2, r ++ [x]⟩]) := hide (by
          unfold putS
          rw [hll]
          simp only
          rw [if_pos (by first | exact ⟨trivial, by omega⟩ | exact ⟨rfl, by omega⟩)]
          congr 1
          rw [List.dropLast_eq_take, h.1]
          rfl)
        obtain ⟨ys, hs⟩ := seg_src (h.take_ (m := k) (by omega))
        obtain ⟨hr, hch, ho⟩ := hs _ HB0.out (.slice (some ⟨w.heap.size, 0, none⟩) 0 0) (fun k hk => by cases hk; exact Nat.le_refl _)
        have HRd := hide hr
        have HCh := hide hch
        have HOn := hide ho
        clear h tailp hr hch ho hs hll hxl
        go_enter Tryz.func36, Tryz.ntmps36
        go_wp2_with (at_builtin; refine wpList_append_any _ rfl (.tmp 29) (.tmp 32) 37 rfl w.heap.size 59 i0 _ 2 32 Tryz.underlying37 hi hz0 hz1 hz2 rfl (by decide) (.slice (some ⟨w.heap.size, 0, none⟩) 0 0) 0 [] rfl HL0.out.1 _ (some ⟨g, o, none⟩) k c ys rfl HRd.out HOn.out (by unfold maxLen; omega) (by omega) (by simp) ?_; intro v' w7 g2 g3 g4; refine Hid.out (?_ : Hid _))
        obtain ⟨A7, c7, rfl, hlo7⟩ := LOw.push HL0.out HCh.out g2 g3 g4
        simp only [Nat.zero_add, List.nil_append] at hlo7
        have HL7 := hide hlo7
        have HB7 := hide (HB0.out.grown g3 (by simp) (fun k hk => by cases hk; exact Nat.le_refl _))
        have hs7 := HB7.out.size
        have HOb : Hid (∀ z, (Value.slice A7 k c7).ownBlock = some z → z < w7.heap.size) := hide (own_block_lt hlo7.1)
        simp only [Nat.zero_add]
        clear g2 g3 g4 hlo7
        have HU0 : Hid (U32s (w7.alloc (.cells #[] 22)) B m d r) := hide ((hr0.below HB7.out).below ((Below.refl _ _).alloc (Nat.le_refl _) _))
        have HO0 : Hid ((w7.alloc (.cells #[] 22)).ownsRow w7.heap.size 22 1 (.slice (some ⟨w7.heap.size, 0, none⟩) 0 0) 0 []) := hide (w7.ownsRow_lit #[] 0 (Nat.le_refl _) (by unfold maxLen; omega) rfl)
        have HB1 : Hid (Below w7.heap.size w7 (w7.alloc (.cells #[] 22))) := hide ((Below.refl _ w7).alloc (Nat.le_refl _) _)
        have k0' : w7.cell? ⟨g, o + k * 2 + 1, none⟩ = some (.slice B m d) := (HB7.out.cell hg).trans hc1
        have hg7 : g < w7.heap.size := by omega
        refine hide ?_
        go_wp2_with (at_builtin; refine wpList_append_any _ rfl (.tmp 35) (.tmp 40) 38 rfl w7.heap.size 22 j0 _ 1 4 Tryz.underlying38 hj hy0 hy1 hy2 rfl (by decide) (.slice (some ⟨w7.heap.size, 0, none⟩) 0 0) 0 [] rfl HO0.out _ B m d (u32c r) rfl HU0.out.reads (u32c_one _) (by unfold maxLen; omega) (by omega) (by simp) ?_; intro v' w8 g2 g3 g4; refine Hid.out (?_ : Hid _))
        simp only [Nat.zero_add, List.nil_append] at g2
        obtain ⟨A9, c9, rfl⟩ := own_slice g2
        have HO9 := hide g2
        have HB8 := hide (HB1.out.grown g3 (by simp) (fun k hk => by cases hk; exact Nat.le_refl _))
        have hs8 := HB8.out.size
        have HB2 : Hid (Below w7.heap.size w7 (w8.alloc (.cells #[.int .u32 (x : Int)] 22))) := hide (HB8.out.alloc hs8 _)
        have HO10 : Hid ((w8.alloc (.cells #[.int .u32 (x : Int)] 22)).ownsRow w7.heap.size 22 1 (.slice A9 m c9) m (u32c r)) := hide (g2.alloc _)
        have HX : Hid (U32s (w8.alloc (.cells #[.int .u32 (x : Int)] 22)) (some ⟨w8.heap.size, 0, none⟩) 1 1 [x]) := hide (u32_one hx)
        have hsw2 : (w8.alloc (.cells #[.int .u32 (x : Int)] 22)).heap.size = w8.heap.size + 1 := by simp
        clear g2 g3 g4
        refine hide ?_
        go_wp2_with (at_builtin; refine wpList_append_any _ rfl (.tmp 41) (.tmp 43) 38 rfl w7.heap.size 22 j0 _ 1 4 Tryz.underlying38 hj hy0 hy1 hy2 rfl (by decide) (.slice A9 m c9) m (u32c r) rfl HO10.out _ (some ⟨w8.heap.size, 0, none⟩) 1 1 (u32c [x]) rfl HX.out.reads (u32c_one _) (by unfold maxLen; omega) (by omega) (by omega) ?_; intro v' w9 g2 g3 g4; refine Hid.out (?_ : Hid _))
        rw [← u32c_app] at g2
        obtain ⟨A10, c10, rfl⟩ := own_slice g2
        have HB9 := hide (HB2.out.grown g3 (by omega) (fun k hk => own_low_block HO10.out k hk))
        have hs9 := HB9.out.size
        have HU3 : Hid (U32s (w9.alloc (.cells #[.int .i64 2, .slice A10 (m + 1) c10] 59)) A10 (m + 1) c10 (r ++ [x])) := hide ((U32s.of_own g2 (fun y hy => by rcases List.mem_append.1 hy with hy | hy; exact hr0.2.2.2.1 y hy; rw [List.mem_singleton.1 hy]; exact hx)).below ((Below.refl _ _).alloc (Nat.le_refl _) _))
        have HLow : Hid (∀ a, A10 = some a → w7.heap.size ≤ a.block) := hide (fun a ha => own_low_block g2 a.block (by rw [ha]; rfl))
        have HB3 := hide (HB9.out.alloc hs9 (.cells #[.int .i64 2, .slice A10 (m + 1) c10] 59))
        have HLc := hide (HL7.out.below HB3.out)
        have HBk : Hid (Blk (w9.alloc (.cells #[.int .i64 2, .slice A10 (m + 1) c10] 59)) w9.heap.size 59 #[.int .i64 2, .slice A10 (m + 1) c10]) := hide (Blk.new w9 _ _)
        have HBc := hide (HB7.out.trans (HB3.out.mono hs7))
        have hsw3 : (w9.alloc (.cells #[.int .i64 2, .slice A10 (m + 1) c10] 59)).heap.size = w9.heap.size + 1 := by simp
        clear g2 g3 g4
        refine hide ?_
        go_wp2_with (at_builtin; refine wpList_append_any _ rfl (.tmp 34) (.tmp 46) 37 rfl w.heap.size 59 i0 _ 2 32 Tryz.underlying37 hi hz0 hz1 hz2 rfl (by decide) (.slice A7 k c7) k ys rfl HLc.out.1 _ (some ⟨w9.heap.size, 0, none⟩) 1 1 [.int .i64 2, .slice A10 (m + 1) c10] rfl (reads_blkN HBk.out HBk.out.lt rfl rfl) (by simp [Value.oneCell']) (by unfold maxLen; omega) (by omega) (by omega) ?_; intro v' w11 g2 g3 g4; obtain ⟨A8, c8, rfl, hlo8⟩ := LOw.push HLc.out (chunk1_fr rfl (sg_fr' HU3.out (fun _ a ha => ⟨Nat.zero_le _, fun e => by have := HOb.out _ e.symm; have := HLow.out a ha; omega⟩))) g2 g3 g4; have HL8 := hide hlo8; have HB12 := hide (HBc.out.grown g3 (by omega) (fun k hk => own_low_block HL7.out.1 k hk)); clear hlo8 g2 g3 g4)
        go_ret
        exact ⟨A8, k + 1, c8, _, rfl, by rw [HP.out]; exact HL8.out, HB12.out⟩
      · have dm : decide ((m : Int) < 255) = false := decide_eq_false (by omega)
        have HP : Hid (putS l x = l ++ [⟨2, [x]⟩]) := hide (tailp (by rw [hll]; intro y hy; cases hy; simp only; omega))
        obtain ⟨ys, hs⟩ := seg_src h
        obtain ⟨hr, hch, ho⟩ := hs _ HB0.out (.slice (some ⟨w.heap.size, 0, none⟩) 0 0) (fun k hk => by cases hk; exact Nat.le_refl _)
        have HRd := hide hr
        have HCh := hide hch
        have HOn := hide ho
        clear h tailp hr hch ho hs hll hxl
        go_enter Tryz.func36, Tryz.ntmps36
        go_wp2_with (at_builtin; refine wpList_append_any _ rfl (.tmp 48) (.tmp 49) 37 rfl w.heap.size 59 i0 _ 2 32 Tryz.underlying37 hi hz0 hz1 hz2 rfl (by decide) (.slice (some ⟨w.heap.size, 0, none⟩) 0 0) 0 [] rfl HL0.out.1 _ (some ⟨g, o, none⟩) (k + 1) c ys rfl HRd.out HOn.out (by unfold maxLen; omega) (by omega) (by simp) ?_; intro v' w7 g2 g3 g4; refine Hid.out (?_ : Hid _))
        obtain ⟨A7, c7, rfl, hlo7⟩ := LOw.push HL0.out HCh.out g2 g3 g4
        simp only [Nat.zero_add, List.nil_append] at hlo7
        have HL7 := hide hlo7
        have HB7 := hide (HB0.out.grown g3 (by simp) (fun k hk => by cases hk; exact Nat.le_refl _))
        have hs7 := HB7.out.size
        have HOb : Hid (∀ z, (Value.slice A7 (k + 1) c7).ownBlock = some z → z < w7.heap.size) := hide (own_block_lt hlo7.1)
        simp only [Nat.zero_add]
        clear g2 g3 g4 hlo7
        have hbc : Below w7.heap.size w7 ((w7.alloc (.cells #[.int .u32 (x : Int)] 22)).alloc (.cells #[.int .i64 2, .slice (some ⟨w7.heap.size, 0, none⟩) 1 1] 59)) := ((Below.refl _ w7).alloc (Nat.le_refl _) _).alloc (by simp) _
        have HLc := hide (HL7.out.below hbc)
        have HU : Hid (U32s ((w7.alloc (.cells #[.int .u32 (x : Int)] 22)).alloc (.cells #[.int .i64 2, .slice (some ⟨w7.heap.size, 0, none⟩) 1 1] 59)) (some ⟨w7.heap.size, 0, none⟩) 1 1 [x]) := hide ((u32_one hx).below ((Below.refl _ _).alloc (Nat.le_refl _) _))
        have HBk : Hid (Blk ((w7.alloc (.cells #[.int .u32 (x : Int)] 22)).alloc (.cells #[.int .i64 2, .slice (some ⟨w7.heap.size, 0, none⟩) 1 1] 59)) (w7.heap.size + 1) 59 #[.int .i64 2, .slice (some ⟨w7.heap.size, 0, none⟩) 1 1]) := hide (blk_new' _ _ (by simp))
        have HBc := hide (HB7.out.trans (hbc.mono hs7))
        have hsc : w7.heap.size + 2 = ((w7.alloc (.cells #[.int .u32 (x : Int)] 22)).alloc (.cells #[.int .i64 2, .slice (some ⟨w7.heap.size, 0, none⟩) 1 1] 59)).heap.size := by simp
        clear hbc
        refine hide ?_
        go_wp2_with (at_builtin; refine wpList_append_any _ rfl (.tmp 50) (.tmp 54) 37 rfl w.heap.size 59 i0 _ 2 32 Tryz.underlying37 hi hz0 hz1 hz2 rfl (by decide) (.slice A7 (k + 1) c7) (k + 1) ys rfl HLc.out.1 _ (some ⟨w7.heap.size + 1, 0, none⟩) 1 1 [.int .i64 2, .slice (some ⟨w7.heap.size, 0, none⟩) 1 1] rfl (reads_blkN HBk.out HBk.out.lt rfl rfl) (by simp [Value.oneCell']) (by unfold maxLen; omega) (by omega) (by omega) ?_; intro v' w8 g2 g3 g4; obtain ⟨A8, c8, rfl, hlo8⟩ := LOw.push HLc.out (chunk1_fr rfl (sg_fr' HU.out (fun _ a ha => by cases ha; exact ⟨Nat.zero_le _, fun e => by have := HOb.out _ e.symm; simp at this⟩))) g2 g3 g4; have HL8 := hide hlo8; have HB8 := hide (HBc.out.grown g3 (by omega) (fun k hk => own_low_block HL7.out.1 k hk)); clear hlo8 g2 g3 g4)
        go_ret
        exact ⟨A8, (k + 1) + 1, c8, _, rfl, by rw [HP.out]; exact HL8.out, HB8.out⟩
    · have e2 : (b == 2) = false := by simpa using hb
      have HP : Hid (putS l x = l ++ [⟨2, [x]⟩]) := hide (tailp (by rw [hll]; intro y hy; cases hy; simp only; exact fun h2 => hb h2.1))
      obtain ⟨ys, hs⟩ := seg_src h
      obtain ⟨hr, hch, ho⟩ := hs _ HB0.out (.slice (some ⟨w.heap.size, 0, none⟩) 0 0) (fun k hk => by cases hk; exact Nat.le_refl _)
      have HRd := hide hr
      have HCh := hide hch
      have HOn := hide ho
      clear h tailp hr hch ho hs hll hxl hb
      go_enter Tryz.func36, Tryz.ntmps36
      go_wp2_with (at_builtin; refine wpList_append_any _ rfl (.tmp 48) (.tmp 49) 37 rfl w.heap.size 59 i0 _ 2 32 Tryz.underlying37 hi hz0 hz1 hz2 rfl (by decide) (.slice (some ⟨w.heap.size, 0, none⟩) 0 0) 0 [] rfl HL0.out.1 _ (some ⟨g, o, none⟩) (k + 1) c ys rfl HRd.out HOn.out (by unfold maxLen; omega) (by omega) (by simp) ?_; intro v' w7 g2 g3 g4; refine Hid.out (?_ : Hid _))
      obtain ⟨A7, c7, rfl, hlo7⟩ := LOw.push HL0.out HCh.out g2 g3 g4
      simp only [Nat.zero_add, List.nil_append] at hlo7
      have HL7 := hide hlo7
      have HB7 := hide (HB0.out.grown g3 (by simp) (fun k hk => by cases hk; exact Nat.le_refl _))
      have hs7 := HB7.out.size
      have HOb : Hid (∀ z, (Value.slice A7 (k + 1) c7).ownBlock = some z → z < w7.heap.size) := hide (own_block_lt hlo7.1)
      simp only [Nat.zero_add]
      clear g2 g3 g4 hlo7
      have hbc : Below w7.heap.size w7 ((w7.alloc (.cells #[.int .u32 (x : Int)] 22)).alloc (.cells #[.int .i64 2, .slice (some ⟨w7.heap.size, 0, none⟩) 1 1] 59)) := ((Below.refl _ w7).alloc (Nat.le_refl _) _).alloc (by simp) _
      have HLc := hide (HL7.out.below hbc)
      have HU : Hid (U32s ((w7.alloc (.cells #[.int .u32 (x : Int)] 22)).alloc (.cells #[.int .i64 2, .slice (some ⟨w7.heap.size, 0, none⟩) 1 1] 59)) (some ⟨w7.heap.size, 0, none⟩) 1 1 [x]) := hide ((u32_one hx).below ((Below.refl _ _).alloc (Nat.le_refl _) _))
      have HBk : Hid (Blk ((w7.alloc (.cells #[.int .u32 (x : Int)] 22)).alloc (.cells #[.int .i64 2, .slice (some ⟨w7.heap.size, 0, none⟩) 1 1] 59)) (w7.heap.size + 1) 59 #[.int .i64 2, .slice (some ⟨w7.heap.size, 0, none⟩) 1 1]) := hide (blk_new' _ _ (by simp))
      have HBc := hide (HB7.out.trans (hbc.mono hs7))
      have hsc : w7.heap.size + 2 = ((w7.alloc (.cells #[.int .u32 (x : Int)] 22)).alloc (.cells #[.int .i64 2, .slice (some ⟨w7.heap.size, 0, none⟩) 1 1] 59)).heap.size := by simp
      clear hbc
      refine hide ?_
      go_wp2_with (at_builtin; refine wpList_append_any _ rfl (.tmp 50) (.tmp 54) 37 rfl w.heap.size 59 i0 _ 2 32 Tryz.underlying37 hi hz0 hz1 hz2 rfl (by decide) (.slice A7 (k + 1) c7) (k + 1) ys rfl HLc.out.1 _ (some ⟨w7.heap.size + 1, 0, none⟩) 1 1 [.int .i64 2, .slice (some ⟨w7.heap.size, 0, none⟩) 1 1] rfl (reads_blkN HBk.out HBk.out.lt rfl rfl) (by simp [Value.oneCell']) (by unfold maxLen; omega) (by omega) (by omega) ?_; intro v' w8 g2 g3 g4; obtain ⟨A8, c8, rfl, hlo8⟩ := LOw.push HLc.out (chunk1_fr rfl (sg_fr' HU.out (fun _ a ha => by cases ha; exact ⟨Nat.zero_le _, fun e => by have := HOb.out _ e.symm; simp at this⟩))) g2 g3 g4; have HL8 := hide hlo8; have HB8 := hide (HBc.out.grown g3 (by omega) (fun k hk => own_low_block HL7.out.1 k hk)); clear hlo8 g2 g3 g4)
      go_ret
      exact ⟨A8, (k + 1) + 1, c8, _, rfl, by rw [HP.out]; exact HL8.out, HB8.out⟩
end Go.Proofs.YtplhnhoijficgaaGreat
set_option linter.unusedSimpArgs false
set_option linter.unusedVariables false
namespace Go.Proofs.YtplhnhoijficgaaGreat
open Go.RowKit
set_option maxRecDepth 100000 in
set_option maxHeartbeats 4000000 in
theorem refPutB_any (g o n c : Nat) (l : List Nat) (x : Nat) (hx : x < 4294967296) (w : World) (h : U32s w (some ⟨g, o, none⟩) n c l) (hn : n ≤ 100000) :
    Calls Tryz.prog 43 #[.slice (some ⟨g, o, none⟩) n c, .int .u32 x] w fun e w' => ∃ g' o' n' c', e = .returned (.slice (some ⟨g', o', none⟩) n' c') ∧ U32s w' (some ⟨g', o', none⟩) n' c' (putN l x) ∧ Below w.heap.size w w' ∧ (g' = g ∨ w.heap.size ≤ g') := by
  have hm := h.2.2.1
  have hnc := h.2.1
  unfold maxLen at hm
  have HU := hide h
  by_cases hin : x ∈ l
  · have hd := hide (show decide (x ∈ l) = true by simpa using hin)
    have hp := hide (show putN l x = l by unfold putN; rw [if_pos (by simpa using hin)])
    clear h hin
    go_enter Tryz.func43, Tryz.ntmps43
    go_wp2_with fail
    refine (refHas_any _ _ _ _ x _ HU.out).mono ?_
    rintro e w1 ⟨rfl, rfl⟩
    rw [hd.out]
    go_wp2
    go_ret
    exact ⟨_, _, _, _, rfl, by rw [hp.out]; exact HU.out, Below.refl _ _, .inl rfl⟩
  · have hd := hide (show decide (x ∈ l) = false by simpa using hin)
    have hp := hide (putN_eq hin)
    obtain ⟨i0, hi, hz0, hz1, hz2⟩ := info_parts info32
    clear h hin
    go_enter Tryz.func43, Tryz.ntmps43
    go_wp2_with fail
    refine (refHas_any _ _ _ _ x _ HU.out).mono ?_
    rintro e w1 ⟨rfl, rfl⟩
    rw [hd.out]
    go_wp2
    go_loop [5] (fun i => ∃ k : Nat, k ≤ n ∧ i = .int .i64 k ∧ ∀ j y, j < k → l[j]? = some y → y < x) (fun i => n - (intOf i).toNat)
    case atStart => exact ⟨0, Nat.zero_le _, rfl, by omega⟩
    case round =>
      obtain ⟨k, hk, rfl, hlow⟩ := hrel
      have HN := hide hlow
      clear hlow
      have hTK := (HU.out.take_ hk).reads
      have HTK := hide hTK
      have HBW := hide (Below.refl w.heap.size w)
      clear hTK
      by_cases hlt : k < n
      · obtain ⟨g', o', y, hA, hg, hy, hy2, hc⟩ := HU.out.at_ hlt
        cases hA
        have HY := hide hy
        clear hy
        have HDK := hide (HU.out.drop_ hlt)
        by_cases hyx : y < x
        · go_wp2
          go_round
          case rel => exact ⟨k + 1, by omega, by go_num, fun j z hj hz => by
            rcases Nat.lt_or_ge j k with h | h
            · exact HN.out j z h hz
            · obtain rfl : j = k := by omega
              have := Option.some.inj (hz.symm.trans HY.out); omega⟩
          case measure => simp [intOf]; omega
        · go_wp2
          have hi0 : (0 : Int) ≤ (k : Int) := by omega
          have hi1 : (k : Int) ≤ (n : Int) := by omega
          have hi2 : (k : Int) ≤ (c : Int) := by omega
          have hi3 : (k : Int) < (c : Int) := by omega
          have hi4 : ¬ c = k := by omega
          have HK : Hid (lowN l x = k) := hide (lowN_first (by rw [HU.out.1]; omega) HN.out (fun z hz => by have := Option.some.inj (hz.symm.trans HY.out); omega))
          have hi5 : (n : Int) ≤ (c : Int) := by omega
          go_region_law (first
            | (refine step_append_any _ (by rfl) (.tmp 24) (.tmp 27) 38 (by rfl) w.heap.size 22 i0 _ 1 4 Tryz.underlying38 hi hz0 hz1 hz2 rfl (by decide) _ 0 [] (by rfl) ?_ w.heap.size _ _ _ (u32c (l.take k)) (by rfl) ?_ (u32c_one _) ?_ ?_ ?_ ?_
               · first | exact (own_made0 w).drew | exact ((own_made0 w).alloc _).drew | exact (own_made1 w _).drew
               · exact HTK.out.keepB (by repeat (first | exact Below.refl _ _ | exact HBW.out | refine Below.drew ?_ | refine Below.alloc ?_ (by first | exact Nat.le_refl _ | (simp; done) | (simp; omega) | omega) _))
               · unfold maxLen; omega
               · omega
               · refine Below.size (?_ : Below w.heap.size w _); repeat (first | exact Below.refl _ _ | exact HBW.out | refine Below.drew ?_ | refine Below.alloc ?_ (by first | exact Nat.le_refl _ | (simp; done) | (simp; omega) | omega) _)
               intro v1 w1 hown1 hgrow1 _; have hbw1 : Below w.heap.size w w1 := (by refine Below.grown ?_ hgrow1 ?_ ?_; (repeat (first | exact Below.refl _ _ | exact HBW.out | refine Below.drew ?_ | refine Below.alloc ?_ (by first | exact Nat.le_refl _ | (simp; done) | (simp; omega) | omega) _)); (refine Below.size (?_ : Below w.heap.size w _); repeat (first | exact Below.refl _ _ | exact HBW.out | refine Below.drew ?_ | refine Below.alloc ?_ (by first | exact Nat.le_refl _ | (simp; done) | (simp; omega) | omega) _)); (intro k hk; cases hk; first | exact Nat.le_refl _ | exact Nat.le_succ _)); have HBW := hide hbw1; have HG1 := hide hgrow1; have HO1 := hide hown1; have hlw := hbw1.size; have hgs := hgrow1.size; clear hown1 hgrow1 hbw1)
            | (refine step_append_one (by rfl) (.tmp 28) (.tmp 30) 38 (by rfl) w.heap.size 22 i0 _ 4 Tryz.underlying38 hi hz0 hz1 hz2 rfl _ (0 + k) ([] ++ u32c (l.take k)) (by rfl) ?_ _ _ (.int .u32 (x : Int)) (by rfl) ?_ (by rfl) ?_ ?_ ?_ ?_
               · first | exact HO1.out | exact HO1.out.alloc _ | exact HO1.out.drew | exact (HO1.out.alloc _).drew
               · first | (simp; done) | (rw [HG1.out.cell_far _ (by show _ < (World.alloc _ _).heap.size; first | (simp; done) | (simp; omega)) (show some (w.heap.size + 1) ≠ some w.heap.size by simp)]; simp; done) | (rw [HG1.out.cell_far _ (by show _ < (World.alloc _ _).heap.size; first | (simp; done) | (simp; omega)) (show some w.heap.size ≠ some (w.heap.size + 1) by simp)]; simp; done)
               · unfold maxLen; omega
               · omega
               · refine Below.size (?_ : Below w.heap.size w _); repeat (first | exact Below.refl _ _ | exact HBW.out | refine Below.drew ?_ | refine Below.alloc ?_ (by first | exact Nat.le_refl _ | (simp; done) | (simp; omega) | omega) _)
               intro v2 w2 hown2 hgrow2 _; have hbw2 : Below w.heap.size w w2 := (by refine Below.grown ?_ hgrow2 ?_ ?_; (repeat (first | exact Below.refl _ _ | exact HBW.out | refine Below.drew ?_ | refine Below.alloc ?_ (by first | exact Nat.le_refl _ | (simp; done) | (simp; omega) | omega) _)); (refine Below.size (?_ : Below w.heap.size w _); repeat (first | exact Below.refl _ _ | exact HBW.out | refine Below.drew ?_ | refine Below.alloc ?_ (by first | exact Nat.le_refl _ | (simp; done) | (simp; omega) | omega) _)); (intro k hk; have := HO1.out.lt k hk; omega)); have HBW := hide hbw2; have HO2 := hide hown2; have hlw2 := hbw2.size; clear hown2 hgrow2 hbw2)
            | (refine step_append_any _ (by rfl) (.tmp 31) (.tmp 34) 38 (by rfl) w.heap.size 22 i0 _ 1 4 Tryz.underlying38 hi hz0 hz1 hz2 rfl (by decide) _ (0 + k + 1) ([] ++ u32c (l.take k) ++ [.int .u32 (x : Int)]) (by rfl) ?_ w.heap.size _ _ _ (u32c (l.drop k)) (by rfl) ?_ (u32c_one _) ?_ ?_ ?_ ?_
               · exact HO2.out
               · exact HDK.out.keepB (by repeat (first | exact Below.refl _ _ | exact HBW.out | refine Below.drew ?_ | refine Below.alloc ?_ (by first | exact Nat.le_refl _ | (simp; done) | (simp; omega) | omega) _))
               · unfold maxLen; omega
               · omega
               · refine Below.size (?_ : Below w.heap.size w _); repeat (first | exact Below.refl _ _ | exact HBW.out | refine Below.drew ?_ | refine Below.alloc ?_ (by first | exact Nat.le_refl _ | (simp; done) | (simp; omega) | omega) _)
               intro v3 w3 hown3 hgrow3 _; have hbw3 : Below w.heap.size w w3 := (by refine Below.grown ?_ hgrow3 ?_ ?_; (repeat (first | exact Below.refl _ _ | exact HBW.out | refine Below.drew ?_ | refine Below.alloc ?_ (by first | exact Nat.le_refl _ | (simp; done) | (simp; omega) | omega) _)); (refine Below.size (?_ : Below w.heap.size w _); repeat (first | exact Below.refl _ _ | exact HBW.out | refine Below.drew ?_ | refine Below.alloc ?_ (by first | exact Nat.le_refl _ | (simp; done) | (simp; omega) | omega) _)); (intro k hk; have := HO2.out.lt k hk; omega)); have HBW := hide hbw3; have HO3 := hide hown3; clear hown3 hgrow3 hbw3)
            | fail)
          all_goals
            have HLo := hide (own_low_block HO3.out)
            obtain ⟨g3, c3, rfl, hu3⟩ := put_end hx HU.out.2.2.2.1 hp.out HK.out (by omega) HO3.out
            have HU3 := hide hu3
            clear hu3
            go_wp2
            go_ret
            exact ⟨g3, 0, _, c3, rfl, by simpa using HU3.out, HBW.out, .inr (HLo.out _ rfl)⟩
      · obtain rfl : k = n := by omega
        have HDK : Hid (∀ A, Reads w w.heap.size 1 A 0 (u32c (l.drop k))) := hide (fun A => by
          rw [List.drop_of_length_le (by rw [HU.out.1]; exact Nat.le_refl _)]; exact reads_nil _ _ _ _)
        have HK : Hid (lowN l x = k) := hide (lowN_first (by rw [HU.out.1]; exact Nat.le_refl _) HN.out (fun y hy => by
          have := (List.getElem?_eq_some_iff.1 hy).1; have := HU.out.1; omega))
        go_wp2
        have hi0 : (0 : Int) ≤ (k : Int) := by omega
        have hi2 : (k : Int) ≤ (c : Int) := by omega
        go_region_law (first
          | (refine step_append_any _ (by rfl) (.tmp 24) (.tmp 27) 38 (by rfl) w.heap.size 22 i0 _ 1 4 Tryz.underlying38 hi hz0 hz1 hz2 rfl (by decide) _ 0 [] (by rfl) ?_ w.heap.size _ _ _ (u32c (l.take k)) (by rfl) ?_ (u32c_one _) ?_ ?_ ?_ ?_
             · first | exact (own_made0 w).drew | exact ((own_made0 w).alloc _).drew | exact (own_made1 w _).drew
             · exact HTK.out.keepB (by repeat (first | exact Below.refl _ _ | exact HBW.out | refine Below.drew ?_ | refine Below.alloc ?_ (by first | exact Nat.le_refl _ | (simp; done) | (simp; omega) | omega) _))
             · unfold maxLen; omega
             · omega
             · refine Below.size (?_ : Below w.heap.size w _); repeat (first | exact Below.refl _ _ | exact HBW.out | refine Below.drew ?_ | refine Below.alloc ?_ (by first | exact Nat.le_refl _ | (simp; done) | (simp; omega) | omega) _)
             intro v1 w1 hown1 hgrow1 _; have hbw1 : Below w.heap.size w w1 := (by refine Below.grown ?_ hgrow1 ?_ ?_; (repeat (first | exact Below.refl _ _ | exact HBW.out | refine Below.drew ?_ | refine Below.alloc ?_ (by first | exact Nat.le_refl _ | (simp; done) | (simp; omega) | omega) _)); (refine Below.size (?_ : Below w.heap.size w _); repeat (first | exact Below.refl _ _ | exact HBW.out | refine Below.drew ?_ | refine Below.alloc ?_ (by first | exact Nat.le_refl _ | (simp; done) | (simp; omega) | omega) _)); (intro k hk; cases hk; first | exact Nat.le_refl _ | exact Nat.le_succ _)); have HBW := hide hbw1; have HG1 := hide hgrow1; have HO1 := hide hown1; have hlw := hbw1.size; have hgs := hgrow1.size; clear hown1 hgrow1 hbw1)
          | (refine step_append_one (by rfl) (.tmp 28) (.tmp 30) 38 (by rfl) w.heap.size 22 i0 _ 4 Tryz.underlying38 hi hz0 hz1 hz2 rfl _ (0 + k) ([] ++ u32c (l.take k)) (by rfl) ?_ _ _ (.int .u32 (x : Int)) (by rfl) ?_ (by rfl) ?_ ?_ ?_ ?_
             · first | exact HO1.out | exact HO1.out.alloc _ | exact HO1.out.drew | exact (HO1.out.alloc _).drew
             · first | (simp; done) | (rw [HG1.out.cell_far _ (by show _ < (World.alloc _ _).heap.size; first | (simp; done) | (simp; omega)) (show some (w.heap.size + 1) ≠ some w.heap.size by simp)]; simp; done) | (rw [HG1.out.cell_far _ (by show _ < (World.alloc _ _).heap.size; first | (simp; done) | (simp; omega)) (show some w.heap.size ≠ some (w.heap.size + 1) by simp)]; simp; done)
             · unfold maxLen; omega
             · omega
             · refine Below.size (?_ : Below w.heap.size w _); repeat (first | exact Below.refl _ _ | exact HBW.out | refine Below.drew ?_ | refine Below.alloc ?_ (by first | exact Nat.le_refl _ | (simp; done) | (simp; omega) | omega) _)
             intro v2 w2 hown2 hgrow2 _; have hbw2 : Below w.heap.size w w2 := (by refine Below.grown ?_ hgrow2 ?_ ?_; (repeat (first | exact Below.refl _ _ | exact HBW.out | refine Below.drew ?_ | refine Below.alloc ?_ (by first | exact Nat.le_refl _ | (simp; done) | (simp; omega) | omega) _)); (refine Below.size (?_ : Below w.heap.size w _); repeat (first | exact Below.refl _ _ | exact HBW.out | refine Below.drew ?_ | refine Below.alloc ?_ (by first | exact Nat.le_refl _ | (simp; done) | (simp; omega) | omega) _)); (intro k hk; have := HO1.out.lt k hk; omega)); have HBW := hide hbw2; have HO2 := hide hown2; have hlw2 := hbw2.size; clear hown2 hgrow2 hbw2)
          | (refine step_append_any _ (by rfl) (.tmp 31) (.tmp 34) 38 (by rfl) w.heap.size 22 i0 _ 1 4 Tryz.underlying38 hi hz0 hz1 hz2 rfl (by decide) _ (0 + k + 1) ([] ++ u32c (l.take k) ++ [.int .u32 (x : Int)]) (by rfl) ?_ w.heap.size _ _ _ (u32c (l.drop k)) (by rfl) ?_ (u32c_one _) ?_ ?_ ?_ ?_
             · exact HO2.out
             · exact (HDK.out _).keepB (by repeat (first | exact Below.refl _ _ | exact HBW.out | refine Below.drew ?_ | refine Below.alloc ?_ (by first | exact Nat.le_refl _ | (simp; done) | (simp; omega) | omega) _))
             · unfold maxLen; omega
             · omega
             · refine Below.size (?_ : Below w.heap.size w _); repeat (first | exact Below.refl _ _ | exact HBW.out | refine Below.drew ?_ | refine Below.alloc ?_ (by first | exact Nat.le_refl _ | (simp; done) | (simp; omega) | omega) _)
             intro v3 w3 hown3 hgrow3 _; have hbw3 : Below w.heap.size w w3 := (by refine Below.grown ?_ hgrow3 ?_ ?_; (repeat (first | exact Below.refl _ _ | exact HBW.out | refine Below.drew ?_ | refine Below.alloc ?_ (by first | exact Nat.le_refl _ | (simp; done) | (simp; omega) | omega) _)); (refine Below.size (?_ : Below w.heap.size w _); repeat (first | exact Below.refl _ _ | exact HBW.out | refine Below.drew ?_ | refine Below.alloc ?_ (by first | exact Nat.le_refl _ | (simp; done) | (simp; omega) | omega) _)); (intro k hk; have := HO2.out.lt k hk; omega)); have HBW := hide hbw3; have HO3 := hide hown3; clear hown3 hgrow3 hbw3)
          | fail)
        all_goals
          have HLo := hide (own_low_block HO3.out)
          obtain ⟨g3, c3, rfl, hu3⟩ := put_end hx HU.out.2.2.2.1 hp.out HK.out (by omega) HO3.out
          have HU3 := hide hu3
          clear hu3
          go_wp2
          all_goals
            go_ret
            exact ⟨g3, 0, _, c3, rfl, by simpa using HU3.out, HBW.out, .inr (HLo.out _ rfl)⟩
set_option maxRecDepth 100000 in
set_option maxHeartbeats 2000000 in
theorem refSetB_any (A : Option Addr) (n c : Nat) (l : List Nat) (w : World) (h : U32s w A n c l) (hn : n ≤ 10000) :
    Calls Tryz.prog 35 #[.slice A n c] w fun e w' => ∃ g' o' n' c', e = .returned (.slice (some ⟨g', o', none⟩) n' c') ∧ U32s w' (some ⟨g', o', none⟩) n' c' (setOf l) ∧ Below w.heap.size w w' ∧ w.heap.size ≤ g' := by
  have HA := hide (U32lo.start h)
  have hm := h.2.2.1
  have hnc := h.2.1
  unfold maxLen at hm
  have HS : Hid (U32s (w.alloc (.cells #[] 22)) (some ⟨w.heap.size, 0, none⟩) 0 0 (setOf [])) := hide ⟨rfl, by omega, by simp [maxLen], by simp [setOf], fun h => by omega⟩
  clear h
  go_enter Tryz.func35, Tryz.ntmps35
  go_wp2
  go_loopw [3, 4] (fun v i wr => ∃ k g' o' n' c', k ≤ n ∧ i = .int .i64 (k : Nat) ∧ v = .slice (some ⟨g', o', none⟩) n' c' ∧ U32s wr (some ⟨g', o', none⟩) n' c' (setOf (l.take k)) ∧ Below w.heap.size w wr ∧ w.heap.size ≤ g') (fun _ i _ => n - (intOf i).toNat)
  case atStart => exact ⟨0, w.heap.size, 0, 0, 0, by omega, rfl, rfl, by simpa using HS.out, (Below.refl _ _).alloc (Nat.le_refl _) _, Nat.le_refl _⟩
  case round =>
    obtain ⟨k, g', o', n', c', hk, rfl, rfl, hu, hb, hgl⟩ := hrel
    have hbs := hb.size
    have HU := hide hu
    have HB := hide hb
    have HA2 := hide (HA.out.keep hb)
    clear hu hb
    by_cases hlt : k < n
    · obtain ⟨g, o, x, rfl, hg, hx, hx2, hc⟩ := HA2.out.1.at_ hlt
      have hsn := hide (show setOf (l.take (k + 1)) = putN (setOf (l.take k)) x by rw [take_snoc_eq hx, setOf_snoc])
      have hlen : n' ≤ 100000 := by
        have h1 := HU.out.1
        have h2 := setOf_len (l.take k)
        have h3 : (l.take k).length ≤ k := List.length_take_le _ _
        omega
      have HP := hide (refPutB_any g' o' n' c' (setOf (l.take k)) x hx2 wr HU.out hlen)
      clear hx
      go_wp2_with fail
      refine HP.out.mono ?_
      rintro e w2 ⟨g2, o2, n2, c2, rfl, hu2, hb2, hg2⟩
      rw [← hsn.out] at hu2
      have HU2 := hide hu2
      have HB2 := hide (HB.out.trans (hb2.mono HB.out.size))
      clear hu2 hb2
      go_wp2
      go_roundw
      case rel => exact ⟨k + 1, g2, o2, n2, c2, by omega, by go_num, rfl, HU2.out, HB2.out, by rcases hg2 with rfl | h <;> omega⟩
      case measure => simp [intOf]; omega
    · obtain rfl : k = n := by omega
      have HF : Hid (U32s wr (some ⟨g', o', none⟩) n' c' (setOf l)) := hide (by
        have := HU.out
        rwa [List.take_of_length_le (by rw [HA2.out.1.1]; exact Nat.le_refl _)] at this)
      go_wp2
      go_ret
      exact ⟨g', o', n', c', rfl, HF.out, HB.out, hgl⟩
end Go.Proofs.YtplhnhoijficgaaGreat
set_option linter.unusedSimpArgs false
set_option linter.unusedVariables false
namespace Go.Proofs.YtplhnhoijficgaaGreat
open Go.RowKit Go.WideShapes Go.ChangeShapes
attribute [local go_sem] Oper.semAt_some
theorem normS_snoc (l : List SG) (q : Nat) (x : SG) (h : l[q]? = some x) : normS (l.take (q + 1)) = stepS (normS (l.take q)) x := by
  unfold normS
  rw [List.take_add_one, h]
  simp [List.foldl_append]
theorem foldS_snoc (o : List SG) (r : List Nat) (j x : Nat) (h : r[j]? = some x) : (r.take (j + 1)).foldl putS o = putS ((r.take j).foldl putS o) x := by
  rw [List.take_add_one, h]
  simp [List.foldl_append]
end Go.Proofs.YtplhnhoijficgaaGreat
set_option linter.unusedSimpArgs false
set_option linter.unusedVariables false
namespace Go.Proofs.YtplhnhoijficgaaGreat
open Go.RowKit Go.WideShapes Go.ChangeShapes
attribute [local go_sem] Oper.semAt_some
theorem numS_app (a b : List SG) : numS (a ++ b) = numS a + numS b := by simp [numS]
theorem numS_few (xs : List Nat) (h : xs.length ≤ 255) : numS (chunkS xs) = xs.length := by
  rw [chunkS_few xs h]
  by_cases h0 : xs = []
  · rw [if_pos h0, h0]; rfl
  · rw [if_neg h0]; simp [numS]
end Go.Proofs.YtplhnhoijficgaaGreat
set_option linter.unusedSimpArgs false
set_option linter.unusedVariables false
namespace Go.Proofs.YtplhnhoijficgaaGreat
open Go.RowKit Go.WideShapes Go.ChangeShapes
attribute [local go_sem] Oper.semAt_some
set_option maxRecDepth 100000 in
set_option maxHeartbeats 8000000 in
theorem psame_eq (A B : Option Addr) (n c m d : Nat) (l : List SG) (w : World) (h : LstAt 2 sgR w A n c l) (h' : LstAt 2 sgR w B m d l) (hn2 : n ≤ 100000) :
    Calls Tryz.prog 20 #[.slice A n c, .slice B m d] w (fun e w' => e = .returned (.bool true) ∧ Below w.heap.size w w') := by
  obtain rfl : n = m := h.1.symm.trans h'.1
  have hnc := h.2.1
  have hmx := h.2.2.1
  have hnd := h'.2.1
  have hmx2 := h'.2.2.1
  unfold maxLen at hmx hmx2
  have HL1 := hide h
  have HL2 := hide h'
  clear h h'
  go_enter Tryz.func20, Tryz.ntmps20
  go_wp2
  go_loopw [5] (fun iv wr => ∃ i : Nat, i ≤ n ∧ iv = .int .i64 (i : Nat) ∧ Below w.heap.size w wr) (fun iv _ => n - (intOf iv).toNat)
  case atStart => exact ⟨0, Nat.zero_le _, rfl, Below.refl _ _⟩
  case round =>
    obtain ⟨i, hi, rfl, hbel⟩ := hrel
    have HBe := hide hbel
    by_cases hlt : i < n
    · obtain ⟨g, o, b, B1, m1, d1, r, rfl, hg, hx, hr1, hz0, hz1⟩ := SGat (HL1.out.below sgMono hbel) hlt
      obtain ⟨g2, o2, b2, B2, m2, d2, r2, rfl, hg2, hx2, hr2, hy0, hy1⟩ := SGat (HL2.out.below sgMono hbel) hlt
      rw [hx] at hx2
      simp only [Option.some.injEq, SG.mk.injEq] at hx2
      obtain ⟨rfl, rfl⟩ := hx2
      have HZ0 := hide hz0
      have HZ1 := hide hz1
      have HY0 := hide hy0
      have HY1 := hide hy1
      have HR1 := hide hr1
      have HR2 := hide hr2
      have i1 : (i : Int) < (n : Int) := by omega
      have i0 : (0 : Int) ≤ (i : Int) := by omega
      have hwi : IntKind.i64.wrap ((i : Int) + 1) = (i : Int) + 1 := by rw [IntKind.wrap_i64]; omega
      clear hbel hx hr1 hr2 hz0 hz1 hy0 hy1
      go_wp2
      have Hmn := hide (show AllMono [(fun v _ => v = .slice (some ⟨g, o, none⟩) n c), (fun v _ => v = .int .i64 (i : Int)), (fun v _ => v = .pointer (some ⟨g, o + i * 2, none⟩)), (fun v _ => v = .pointer (some ⟨g, o + i * 2, none⟩)), (fun v _ => v = .int .i64 b), (fun v _ => v = .slice (some ⟨g2, o2, none⟩) n d), (fun v _ => v = .int .i64 (i : Int)), (fun v _ => v = .pointer (some ⟨g2, o2 + i * 2, none⟩)), (fun v _ => v = .pointer (some ⟨g2, o2 + i * 2, none⟩)), (fun v _ => v = .int .i64 b), (fun v _ => v = .bool false), (fun v _ => v = .bool false), (fun v _ => v = .slice (some ⟨g, o, none⟩) n c), (fun v _ => v = .int .i64 (i : Int)), (fun v _ => v = .pointer (some ⟨g, o + i * 2, none⟩)), (fun v _ => v = .pointer (some ⟨g, o + i * 2 + 1, none⟩)), (fun v _ => v = .slice B1 m1 d1), (fun v _ => v = .slice (some ⟨g2, o2, none⟩) n d), (fun v _ => v = .int .i64 (i : Int)), (fun v _ => v = .pointer (some ⟨g2, o2 + i * 2, none⟩)), (fun v _ => v = .pointer (some ⟨g2, o2 + i * 2 + 1, none⟩)), (fun v _ => v = .slice B2 m2 d2), (fun v _ => v = .bool true), (fun v _ => v = .bool false), (fun v _ => v = .bool false)] from ⟨fun _ _ _ _ h => h, fun _ _ _ _ h => h, fun _ _ _ _ h => h, fun _ _ _ _ h => h, fun _ _ _ _ h => h, fun _ _ _ _ h => h, fun _ _ _ _ h => h, fun _ _ _ _ h => h, fun _ _ _ _ h => h, fun _ _ _ _ h => h, fun _ _ _ _ h => h, fun _ _ _ _ h => h, fun _ _ _ _ h => h, fun _ _ _ _ h => h, fun _ _ _ _ h => h, fun _ _ _ _ h => h, fun _ _ _ _ h => h, fun _ _ _ _ h => h, fun _ _ _ _ h => h, fun _ _ _ _ h => h, fun _ _ _ _ h => h, fun _ _ _ _ h => h, fun _ _ _ _ h => h, fun _ _ _ _ h => h, fun _ _ _ _ h => h, trivial⟩)
      refine wp_region_rel _ (by kernel_rfl) (by kernel_rfl) (relMono _ Hmn.out) ⟨?_, ?_, ?_, ?_, ?_, ?_, ?_, ?_, ?_, ?_, ?_, ?_, ?_, ?_, ?_, ?_, ?_, ?_, ?_, ?_, ?_, ?_, ?_, ?_, ?_, trivial⟩ ?_
      · refine relStep_plain rfl ?_
        intro Ac w5 hp
        have hb := hp.bel
        have a0 : Ac.eval (.tmp 0) = .slice (some ⟨g, o, none⟩) n c := hp.out 0 (by rfl)
        have hc := evalC Ac; have hf := evalF Ac; have hgl := evalG Ac
        obtain ⟨ρ, hρ⟩ : ∃ ρ, Ac.eval = ρ := ⟨_, rfl⟩
        rw [hρ] at a0 hc hf hgl
        exact relPure hρ (.slice (some ⟨g, o, none⟩) n c) (by simp [go_sem, hc, hf, hgl, ↓IntWalk.iteOmega, a0, *]) rfl
      · refine relStep_plain rfl ?_
        intro Ac w5 hp
        have hb := hp.bel
        have a5 : Ac.eval (.tmp 5) = .int .i64 (i : Int) := hp.out 5 (by rfl)
        have hc := evalC Ac; have hf := evalF Ac; have hgl := evalG Ac
        obtain ⟨ρ, hρ⟩ : ∃ ρ, Ac.eval = ρ := ⟨_, rfl⟩
        rw [hρ] at a5 hc hf hgl
        exact relPure hρ (.int .i64 (i : Int)) (by simp [go_sem, hc, hf, hgl, ↓IntWalk.iteOmega, a5, *]) rfl
      · refine relStep_plain rfl ?_
        intro Ac w5 hp
        have hb := hp.bel
        have a17 : Ac.eval (.tmp 17) = .slice (some ⟨g, o, none⟩) n c := hp.dep 0 (by kernel_rfl)
        have a18 : Ac.eval (.tmp 18) = .int .i64 (i : Int) := hp.dep 1 (by kernel_rfl)
        have hc := evalC Ac; have hf := evalF Ac; have hgl := evalG Ac
        obtain ⟨ρ, hρ⟩ : ∃ ρ, Ac.eval = ρ := ⟨_, rfl⟩
        rw [hρ] at a17 a18 hc hf hgl
        exact relPure hρ (.pointer (some ⟨g, o + i * 2, none⟩)) (by simp [go_sem, hc, hf, hgl, ↓IntWalk.iteOmega, a17, a18, *]) rfl
      · refine relStep_plain rfl ?_
        intro Ac w5 hp
        have hb := hp.bel
        have a19 : Ac.eval (.tmp 19) = .pointer (some ⟨g, o + i * 2, none⟩) := hp.dep 2 (by kernel_rfl)
        have hc := evalC Ac; have hf := evalF Ac; have hgl := evalG Ac
        obtain ⟨ρ, hρ⟩ : ∃ ρ, Ac.eval = ρ := ⟨_, rfl⟩
        rw [hρ] at a19 hc hf hgl
        exact relPure hρ (.pointer (some ⟨g, o + i * 2, none⟩)) (by simp [go_sem, hc, hf, hgl, ↓IntWalk.iteOmega, a19, *]) rfl
      · refine relStep_plain rfl ?_
        intro Ac w5 hp
        have hb := hp.bel
        have a20 : Ac.eval (.tmp 20) = .pointer (some ⟨g, o + i * 2, none⟩) := hp.dep 3 (by kernel_rfl)
        have z0 : w5.cell? ⟨g, o + i * 2, none⟩ = some (.int .i64 b) := (hb.cell hg).trans HZ0.out
        have z1 : w5.cell? ⟨g, o + i * 2 + 1, none⟩ = some (.slice B1 m1 d1) := (hb.cell hg).trans HZ1.out
        have hc := evalC Ac; have hf := evalF Ac; have hgl := evalG Ac
        obtain ⟨ρ, hρ⟩ : ∃ ρ, Ac.eval = ρ := ⟨_, rfl⟩
        rw [hρ] at a20 hc hf hgl
        exact relPure hρ (.int .i64 b) (by simp [go_sem, hc, hf, hgl, ↓IntWalk.iteOmega, a20, *]) rfl
      · refine relStep_plain rfl ?_
        intro Ac w5 hp
        have hb := hp.bel
        have a1 : Ac.eval (.tmp 1) = .slice (some ⟨g2, o2, none⟩) n d := hp.out 1 (by rfl)
        have hc := evalC Ac; have hf := evalF Ac; have hgl := evalG Ac
        obtain ⟨ρ, hρ⟩ : ∃ ρ, Ac.eval = ρ := ⟨_, rfl⟩
        rw [hρ] at a1 hc hf hgl
        exact relPure hρ (.slice (some ⟨g2, o2, none⟩) n d) (by simp [go_sem, hc, hf, hgl, ↓IntWalk.iteOmega, a1, *]) rfl
      · refine relStep_plain rfl ?_
        intro Ac w5 hp
        have hb := hp.bel
        have a5 : Ac.eval (.tmp 5) = .int .i64 (i : Int) := hp.out 5 (by rfl)
        have hc := evalC Ac; have hf := evalF Ac; have hgl := evalG Ac
        obtain ⟨ρ, hρ⟩ : ∃ ρ, Ac.eval = ρ := ⟨_, rfl⟩
        rw [hρ] at a5 hc hf hgl
        exact relPure hρ (.int .i64 (i : Int)) (by simp [go_sem, hc, hf, hgl, ↓IntWalk.iteOmega, a5, *]) rfl
      · refine relStep_plain rfl ?_
        intro Ac w5 hp
        have hb := hp.bel
        have a22 : Ac.eval (.tmp 22) = .slice (some ⟨g2, o2, none⟩) n d := hp.dep 5 (by kernel_rfl)
        have a23 : Ac.eval (.tmp 23) = .int .i64 (i : Int) := hp.dep 6 (by kernel_rfl)
        have hc := evalC Ac; have hf := evalF Ac; have hgl := evalG Ac
        obtain ⟨ρ, hρ⟩ : ∃ ρ, Ac.eval = ρ := ⟨_, rfl⟩
        rw [hρ] at a22 a23 hc hf hgl
        exact relPure hρ (.pointer (some ⟨g2, o2 + i * 2, none⟩)) (by simp [go_sem, hc, hf, hgl, ↓IntWalk.iteOmega, a22, a23, *]) rfl
      · refine relStep_plain rfl ?_
        intro Ac w5 hp
        have hb := hp.bel
        have a24 : Ac.eval (.tmp 24) = .pointer (some ⟨g2, o2 + i * 2, none⟩) := hp.dep 7 (by kernel_rfl)
        have hc := evalC Ac; have hf := evalF Ac; have hgl := evalG Ac
        obtain ⟨ρ, hρ⟩ : ∃ ρ, Ac.eval = ρ := ⟨_, rfl⟩
        rw [hρ] at a24 hc hf hgl
        exact relPure hρ (.pointer (some ⟨g2, o2 + i * 2, none⟩)) (by simp [go_sem, hc, hf, hgl, ↓IntWalk.iteOmega, a24, *]) rfl
      · refine relStep_plain rfl ?_
        intro Ac w5 hp
        have hb := hp.bel
        have a25 : Ac.eval (.tmp 25) = .pointer (some ⟨g2, o2 + i * 2, none⟩) := hp.dep 8 (by kernel_rfl)
        have y0 : w5.cell? ⟨g2, o2 + i * 2, none⟩ = some (.int .i64 b) := (hb.cell hg2).trans HY0.out
        have y1 : w5.cell? ⟨g2, o2 + i * 2 + 1, none⟩ = some (.slice B2 m2 d2) := (hb.cell hg2).trans HY1.out
        have hc := evalC Ac; have hf := evalF Ac; have hgl := evalG Ac
        obtain ⟨ρ, hρ⟩ : ∃ ρ, Ac.eval = ρ := ⟨_, rfl⟩
        rw [hρ] at a25 hc hf hgl
        exact relPure hρ (.int .i64 b) (by simp [go_sem, hc, hf, hgl, ↓IntWalk.iteOmega, a25, *]) rfl
      · refine relStep_plain rfl ?_
        intro Ac w5 hp
        have hb := hp.bel
        have a21 : Ac.eval (.tmp 21) = .int .i64 b := hp.dep 4 (by kernel_rfl)
        have a26 : Ac.eval (.tmp 26) = .int .i64 b := hp.dep 9 (by kernel_rfl)
        have hc := evalC Ac; have hf := evalF Ac; have hgl := evalG Ac
        obtain ⟨ρ, hρ⟩ : ∃ ρ, Ac.eval = ρ := ⟨_, rfl⟩
        rw [hρ] at a21 a26 hc hf hgl
        exact relPure hρ (.bool false) (by simp [go_sem, hc, hf, hgl, ↓IntWalk.iteOmega, a21, a26, *]) rfl
      · refine relStep_plain rfl ?_
        intro Ac w5 hp
        have hb := hp.bel
        have a27 : Ac.eval (.tmp 27) = .bool false := hp.dep 10 (by kernel_rfl)
        have hc := evalC Ac; have hf := evalF Ac; have hgl := evalG Ac
        obtain ⟨ρ, hρ⟩ : ∃ ρ, Ac.eval = ρ := ⟨_, rfl⟩
        rw [hρ] at a27 hc hf hgl
        exact relPure hρ (.bool false) (by simp [go_sem, hc, hf, hgl, ↓IntWalk.iteOmega, a27, *]) rfl
      · refine relStep_guard (g := 11) (b := false) (x := false) rfl (by kernel_rfl) rfl (by kernel_rfl) rfl (fun _ _ h => h) ?_
        intro Ac w5 hp
        have hb := hp.bel
        have a0 : Ac.eval (.tmp 0) = .slice (some ⟨g, o, none⟩) n c := hp.out 0 (by rfl)
        have hc := evalC Ac; have hf := evalF Ac; have hgl := evalG Ac
        obtain ⟨ρ, hρ⟩ : ∃ ρ, Ac.eval = ρ := ⟨_, rfl⟩
        rw [hρ] at a0 hc hf hgl
        exact relPure hρ (.slice (some ⟨g, o, none⟩) n c) (by simp [go_sem, hc, hf, hgl, ↓IntWalk.iteOmega, a0, *]) rfl
      · refine relStep_guard (g := 11) (b := false) (x := false) rfl (by kernel_rfl) rfl (by kernel_rfl) rfl (fun _ _ h => h) ?_
        intro Ac w5 hp
        have hb := hp.bel
        have a5 : Ac.eval (.tmp 5) = .int .i64 (i : Int) := hp.out 5 (by rfl)
        have hc := evalC Ac; have hf := evalF Ac; have hgl := evalG Ac
        obtain ⟨ρ, hρ⟩ : ∃ ρ, Ac.eval = ρ := ⟨_, rfl⟩
        rw [hρ] at a5 hc hf hgl
        exact relPure hρ (.int .i64 (i : Int)) (by simp [go_sem, hc, hf, hgl, ↓IntWalk.iteOmega, a5, *]) rfl
      · refine relStep_guard (g := 11) (b := false) (x := false) rfl (by kernel_rfl) rfl (by kernel_rfl) rfl (fun _ _ h => h) ?_
        intro Ac w5 hp
        have hb := hp.bel
        have a29 : Ac.eval (.tmp 29) = .slice (some ⟨g, o, none⟩) n c := hp.dep 12 (by kernel_rfl)
        have a30 : Ac.eval (.tmp 30) = .int .i64 (i : Int) := hp.dep 13 (by kernel_rfl)
        have hc := evalC Ac; have hf := evalF Ac; have hgl := evalG Ac
        obtain ⟨ρ, hρ⟩ : ∃ ρ, Ac.eval = ρ := ⟨_, rfl⟩
        rw [hρ] at a29 a30 hc hf hgl
        exact relPure hρ (.pointer (some ⟨g, o + i * 2, none⟩)) (by simp [go_sem, hc, hf, hgl, ↓IntWalk.iteOmega, a29, a30, *]) rfl
      · refine relStep_guard (g := 11) (b := false) (x := false) rfl (by kernel_rfl) rfl (by kernel_rfl) rfl (fun _ _ h => h) ?_
        intro Ac w5 hp
        have hb := hp.bel
        have a31 : Ac.eval (.tmp 31) = .pointer (some ⟨g, o + i * 2, none⟩) := hp.dep 14 (by kernel_rfl)
        have hc := evalC Ac; have hf := evalF Ac; have hgl := evalG Ac
        obtain ⟨ρ, hρ⟩ : ∃ ρ, Ac.eval = ρ := ⟨_, rfl⟩
        rw [hρ] at a31 hc hf hgl
        exact relPure hρ (.pointer (some ⟨g, o + i * 2 + 1, none⟩)) (by simp [go_sem, hc, hf, hgl, ↓IntWalk.iteOmega, a31, *]) rfl
      · refine relStep_guard (g := 11) (b := false) (x := false) rfl (by kernel_rfl) rfl (by kernel_rfl) rfl (fun _ _ h => h) ?_
        intro Ac w5 hp
        have hb := hp.bel
        have a32 : Ac.eval (.tmp 32) = .pointer (some ⟨g, o + i * 2 + 1, none⟩) := hp.dep 15 (by kernel_rfl)
        have z0 : w5.cell? ⟨g, o + i * 2, none⟩ = some (.int .i64 b) := (hb.cell hg).trans HZ0.out
        have z1 : w5.cell? ⟨g, o + i * 2 + 1, none⟩ = some (.slice B1 m1 d1) := (hb.cell hg).trans HZ1.out
        have hc := evalC Ac; have hf := evalF Ac; have hgl := evalG Ac
        obtain ⟨ρ, hρ⟩ : ∃ ρ, Ac.eval = ρ := ⟨_, rfl⟩
        rw [hρ] at a32 hc hf hgl
        exact relPure hρ (.slice B1 m1 d1) (by simp [go_sem, hc, hf, hgl, ↓IntWalk.iteOmega, a32, *]) rfl
      · refine relStep_guard (g := 11) (b := false) (x := false) rfl (by kernel_rfl) rfl (by kernel_rfl) rfl (fun _ _ h => h) ?_
        intro Ac w5 hp
        have hb := hp.bel
        have a1 : Ac.eval (.tmp 1) = .slice (some ⟨g2, o2, none⟩) n d := hp.out 1 (by rfl)
        have hc := evalC Ac; have hf := evalF Ac; have hgl := evalG Ac
        obtain ⟨ρ, hρ⟩ : ∃ ρ, Ac.eval = ρ := ⟨_, rfl⟩
        rw [hρ] at a1 hc hf hgl
        exact relPure hρ (.slice (some ⟨g2, o2, none⟩) n d) (by simp [go_sem, hc, hf, hgl, ↓IntWalk.iteOmega, a1, *]) rfl
      · refine relStep_guard (g := 11) (b := false) (x := false) rfl (by kernel_rfl) rfl (by kernel_rfl) rfl (fun _ _ h => h) ?_
        intro Ac w5 hp
        have hb := hp.bel
        have a5 : Ac.eval (.tmp 5) = .int .i64 (i : Int) := hp.out 5 (by rfl)
        have hc := evalC Ac; have hf := evalF Ac; have hgl := evalG Ac
        obtain ⟨ρ, hρ⟩ : ∃ ρ, Ac.eval = ρ := ⟨_, rfl⟩
        rw [hρ] at a5 hc hf hgl
        exact relPure hρ (.int .i64 (i : Int)) (by simp [go_sem, hc, hf, hgl, ↓IntWalk.iteOmega, a5, *]) rfl
      · refine relStep_guard (g := 11) (b := false) (x := false) rfl (by kernel_rfl) rfl (by kernel_rfl) rfl (fun _ _ h => h) ?_
        intro Ac w5 hp
        have hb := hp.bel
        have a34 : Ac.eval (.tmp 34) = .slice (some ⟨g2, o2, none⟩) n d := hp.dep 17 (by kernel_rfl)
        have a35 : Ac.eval (.tmp 35) = .int .i64 (i : Int) := hp.dep 18 (by kernel_rfl)
        have hc := evalC Ac; have hf := evalF Ac; have hgl := evalG Ac
        obtain ⟨ρ, hρ⟩ : ∃ ρ, Ac.eval = ρ := ⟨_, rfl⟩
        rw [hρ] at a34 a35 hc hf hgl
        exact relPure hρ (.pointer (some ⟨g2, o2 + i * 2, none⟩)) (by simp [go_sem, hc, hf, hgl, ↓IntWalk.iteOmega, a34, a35, *]) rfl
      · refine relStep_guard (g := 11) (b := false) (x := false) rfl (by kernel_rfl) rfl (by kernel_rfl) rfl (fun _ _ h => h) ?_
        intro Ac w5 hp
        have hb := hp.bel
        have a36 : Ac.eval (.tmp 36) = .pointer (some ⟨g2, o2 + i * 2, none⟩) := hp.dep 19 (by kernel_rfl)
        have hc := evalC Ac; have hf := evalF Ac; have hgl := evalG Ac
        obtain ⟨ρ, hρ⟩ : ∃ ρ, Ac.eval = ρ := ⟨_, rfl⟩
        rw [hρ] at a36 hc hf hgl
        exact relPure hρ (.pointer (some ⟨g2, o2 + i * 2 + 1, none⟩)) (by simp [go_sem, hc, hf, hgl, ↓IntWalk.iteOmega, a36, *]) rfl
      · refine relStep_guard (g := 11) (b := false) (x := false) rfl (by kernel_rfl) rfl (by kernel_rfl) rfl (fun _ _ h => h) ?_
        intro Ac w5 hp
        have hb := hp.bel
        have a37 : Ac.eval (.tmp 37) = .pointer (some ⟨g2, o2 + i * 2 + 1, none⟩) := hp.dep 20 (by kernel_rfl)
        have y0 : w5.cell? ⟨g2, o2 + i * 2, none⟩ = some (.int .i64 b) := (hb.cell hg2).trans HY0.out
        have y1 : w5.cell? ⟨g2, o2 + i * 2 + 1, none⟩ = some (.slice B2 m2 d2) := (hb.cell hg2).trans HY1.out
        have hc := evalC Ac; have hf := evalF Ac; have hgl := evalG Ac
        obtain ⟨ρ, hρ⟩ : ∃ ρ, Ac.eval = ρ := ⟨_, rfl⟩
        rw [hρ] at a37 hc hf hgl
        exact relPure hρ (.slice B2 m2 d2) (by simp [go_sem, hc, hf, hgl, ↓IntWalk.iteOmega, a37, *]) rfl
      · refine relStep_guard (g := 11) (b := false) (x := false) rfl (by kernel_rfl) rfl (by kernel_rfl) rfl (fun _ _ h => h) ?_
        intro Ac w5 hp
        have hb := hp.bel
        have a33 : Ac.eval (.tmp 33) = .slice B1 m1 d1 := hp.dep 16 (by kernel_rfl)
        have a38 : Ac.eval (.tmp 38) = .slice B2 m2 d2 := hp.dep 21 (by kernel_rfl)
        have hc := evalC Ac; have hf := evalF Ac; have hgl := evalG Ac
        obtain ⟨ρ, hρ⟩ : ∃ ρ, Ac.eval = ρ := ⟨_, rfl⟩
        rw [hρ] at a33 a38 hc hf hgl
        refine relCall hρ 21 #[.slice B1 m1 d1, .slice B2 m2 d2] (by simp [go_sem, hc, hf, hgl, ↓IntWalk.iteOmega, a33, a38, *]) ?_
        refine (refSame_any B1 m1 d1 r B2 m2 d2 r w5 (HR1.out.below hb) (HR2.out.below hb)).mono ?_
        rintro e w6 ⟨rfl, hb6⟩
        exact ⟨_, rfl, by rw [decide_eq_true rfl]; rfl, hb6⟩
      · refine relStep_guard (g := 11) (b := false) (x := false) rfl (by kernel_rfl) rfl (by kernel_rfl) rfl (fun _ _ h => h) ?_
        intro Ac w5 hp
        have hb := hp.bel
        have a39 : Ac.eval (.tmp 39) = .bool true := hp.dep 22 (by kernel_rfl)
        have hc := evalC Ac; have hf := evalF Ac; have hgl := evalG Ac
        obtain ⟨ρ, hρ⟩ : ∃ ρ, Ac.eval = ρ := ⟨_, rfl⟩
        rw [hρ] at a39 hc hf hgl
        exact relPure hρ (.bool false) (by simp [go_sem, hc, hf, hgl, ↓IntWalk.iteOmega, a39, *]) rfl
      · refine relStep_plain rfl ?_
        intro Ac w5 hp
        have hb := hp.bel
        have a28 : Ac.eval (.tmp 28) = .bool false := hp.dep 11 (by kernel_rfl)
        have a40 : Ac.eval (.tmp 40) = .bool false := hp.dep 23 (by kernel_rfl)
        have hc := evalC Ac; have hf := evalF Ac; have hgl := evalG Ac
        obtain ⟨ρ, hρ⟩ : ∃ ρ, Ac.eval = ρ := ⟨_, rfl⟩
        rw [hρ] at a28 a40 hc hf hgl
        exact relPure hρ (.bool false) (by simp [go_sem, hc, hf, hgl, ↓IntWalk.iteOmega, a28, a40, *]) rfl
      intro u w8 hb7 hall
      have e41 : u 24 = .bool false := relAll_at hall (i := 24) (by decide +kernel)
      clear hall
      simp only [List.drop_succ_cons, List.drop_zero, List.take_succ_cons, List.take_zero, putAll, Act.put, List.setIfInBounds_toArray, List.set_cons_zero, List.set_cons_succ, Nat.zero_add, Nat.reduceAdd, e41]
      have HB8 := hide (HBe.out.trans (hb7.mono HBe.out.size))
      clear hb7
      go_wp2
      go_roundw
      case rel => exact ⟨i + 1, by omega, by go_num, HB8.out⟩
      case measure => simp [intOf]; omega
    · obtain rfl : i = n := by omega
      have e1 : decide ((i : Int) < (i : Int)) = false := by simp
      clear hbel hlt
      go_wp2
      go_ret
      exact ⟨rfl, HBe.out⟩
end Go.Proofs.YtplhnhoijficgaaGreat
set_option linter.unusedSimpArgs false
set_option linter.unusedVariables false
namespace Go.Proofs.YtplhnhoijficgaaGreat
open Go.RowKit Go.WideShapes Go.ChangeShapes
attribute [local go_sem] Oper.semAt_some
def cutSG (x : SG) : SG := ⟨x.k, x.r.take 300⟩
def cutP (l : List SG) : List SG := (l.take 12).map cutSG
theorem cutP_len (l : List SG) : (cutP l).length ≤ 12 := by unfold cutP; rw [List.length_map, List.length_take]; omega
theorem cutP_num (l : List SG) : numS (cutP l) ≤ 3600 := by
  have key : ∀ l : List SG, numS (l.map cutSG) ≤ 300 * l.length := by
    intro l
    induction l with
    | nil => simp [numS]
    | cons x l ih =>
      have e : numS ((x :: l).map cutSG) = (x.r.take 300).length + numS (l.map cutSG) := by simp [numS, cutSG]
      rw [e, List.length_take, List.length_cons]
      omega
  have h1 := key (l.take 12)
  have h2 : (l.take 12).length ≤ 12 := by rw [List.length_take]; omega
  unfold cutP
  omega
theorem cutP_cut (l : List SG) : cutP (cutP l) = cutP l := by
  unfold cutP
  rw [List.take_of_length_le (by rw [List.length_map, List.length_take]; omega), List.map_map]
  refine List.map_congr_left fun x _ => ?_
  simp [cutSG, List.take_take]
set_option maxRecDepth 100000 in
set_option maxHeartbeats 8000000 in
theorem pathFew_any (A : Option Addr) (n c : Nat) (l : List SG) (w : World) (h : LstAt 2 sgR w A n c l) :
    Calls Tryz.prog 18 #[.slice A n c] w (SegP (cutP l) w) := by
  obtain ⟨i0, hi, hz0, hz1, hz2⟩ := info_parts segInfo
  have hln := h.1
  have hnc := h.2.1
  have hmx := h.2.2.1
  unfold maxLen at hmx
  have HLs := hide h
  have HL0 : Hid (LOw 2 59 sgR (w.alloc (.cells #[] 59)) w.heap.size w.heap.size (some ⟨w.heap.size, 0, none⟩) 0 0 [] []) := hide ⟨w.ownsRow_lit #[] 0 (Nat.le_refl _) (by unfold maxLen; omega) rfl, by simp, fun k x hk => by simp at hk⟩
  have HB0 : Hid (Below w.heap.size w (w.alloc (.cells #[] 59))) := hide ((Below.refl _ w).alloc (Nat.le_refl _) _)
  clear h
  go_enter Tryz.func18, Tryz.ntmps18
  go_wp2
  go_loopw [3, 4] (fun vo iv wr => ∃ (q : Nat) (A1 : Option Addr) (n1 c1 : Nat) (xs : List Value), q ≤ n ∧ q ≤ 12 ∧ iv = .int .i64 (q : Nat) ∧ vo = .slice A1 n1 c1 ∧ LOw 2 59 sgR wr w.heap.size w.heap.size A1 n1 c1 ((l.take q).map cutSG) xs ∧ Below w.heap.size w wr) (fun _ iv _ => n - (intOf iv).toNat)
  case atStart => exact ⟨0, some ⟨w.heap.size, 0, none⟩, 0, 0, [], Nat.zero_le _, Nat.zero_le _, rfl, rfl, HL0.out, HB0.out⟩
  case round =>
    obtain ⟨q, A1, n1, c1, xs, hq, hq12, rfl, rfl, hlo, hbel⟩ := hrel
    have HLo := hide hlo
    have HBe := hide hbel
    have hs1 := hbel.size
    have hn1 := (hlo.lst (by decide)).1
    rw [List.length_map, List.length_take] at hn1
    by_cases hlt : q < n ∧ q < 12
    · obtain ⟨hlt, hl12⟩ := hlt
      obtain ⟨g, o, b, Bq, m, d, r, rfl, hg, hx, hr, hc0, hc1⟩ := SGat (HLs.out.below sgMono hbel) hlt
      obtain ⟨RT, hRT⟩ : ∃ RT, r.take 300 = RT := ⟨_, rfl⟩
      have HE : Hid ((l.take (q + 1)).map cutSG = (l.take q).map cutSG ++ [⟨b, RT⟩]) := hide (by rw [List.take_add_one, hx, ← hRT]; simp [cutSG])
      have HZ0 := hide hc0
      have HZ1 := hide hc1
      have HUr := hide hr
      have HRT := hide hRT
      have HRb : Hid (∀ y ∈ RT, y < 4294967296) := hide (by rw [← hRT]; exact fun y hy => hr.2.2.2.1 y (List.mem_of_mem_take hy))
      have q1 : (q : Int) < (n : Int) := by omega
      have q2 : (q : Int) < 12 := by omega
      have q0 : (0 : Int) ≤ (q : Int) := by omega
      have hwq : IntKind.i64.wrap ((q : Int) + 1) = (q : Int) + 1 := by rw [IntKind.wrap_i64]; omega
      clear hlo hbel hx hr hc0 hc1 hRT
      go_wp2
      have Hmn := hide (show AllMono [(fun v _ => v = Value.slice A1 n1 c1), (fun v _ => v = .slice (some ⟨g, o, none⟩) n c), (fun v _ => v = .int .i64 (q : Int)), (fun v _ => v = .pointer (some ⟨g, o + q * 2, none⟩)), (fun v _ => v = .pointer (some ⟨g, o + q * 2, none⟩)), (fun v _ => v = .int .i64 b), (fun v _ => v = .slice (some ⟨g, o, none⟩) n c), (fun v _ => v = .int .i64 (q : Int)), (fun v _ => v = .pointer (some ⟨g, o + q * 2, none⟩)), (fun v _ => v = .pointer (some ⟨g, o + q * 2 + 1, none⟩)), (fun v _ => v = Value.slice Bq m d), (fun v W2 => ∃ A c, v = Value.slice A RT.length c ∧ W2.ownsRow wr.heap.size 22 1 (.slice A RT.length c) RT.length (u32c RT)), (fun v W2 => ∃ A c, v = .agg #[.int .i64 b, .slice A RT.length c] ∧ W2.ownsRow wr.heap.size 22 1 (.slice A RT.length c) RT.length (u32c RT)), (fun v W2 => ∃ R A c, v = .slice (some ⟨R, 0, none⟩) 1 1 ∧ Blk W2 R 59 #[.int .i64 b, .slice A RT.length c] ∧ W2.ownsRow wr.heap.size 22 1 (.slice A RT.length c) RT.length (u32c RT))] from ⟨fun _ _ _ _ h => h, fun _ _ _ _ h => h, fun _ _ _ _ h => h, fun _ _ _ _ h => h, fun _ _ _ _ h => h, fun _ _ _ _ h => h, fun _ _ _ _ h => h, fun _ _ _ _ h => h, fun _ _ _ _ h => h, fun _ _ _ _ h => h, fun _ _ _ _ h => h, fun v w2 w3 hb ⟨A, c, e, h⟩ => ⟨A, c, e, own_below h hb⟩, fun v w2 w3 hb ⟨A, c, e, h⟩ => ⟨A, c, e, own_below h hb⟩, fun v w2 w3 hb ⟨R, A, c, e, h1, h3⟩ => ⟨R, A, c, e, h1.below hb h1.lt, own_below h3 hb⟩, trivial⟩)
      refine wp_region_relT 14 _ (by kernel_rfl) (by kernel_rfl) (by kernel_rfl) (by kernel_rfl) (by kernel_rfl) (relMono _ Hmn.out) ⟨?_, ?_, ?_, ?_, ?_, ?_, ?_, ?_, ?_, ?_, ?_, ?_, ?_, ?_, trivial⟩ ?_
      · refine relStep_plain rfl ?_
        intro Ac w5 hp
        have hb := hp.bel
        have a3 : Ac.eval (.tmp 3) = Value.slice A1 n1 c1 := hp.out 3 (by rfl)
        have hc := evalC Ac; have hf := evalF Ac; have hgl := evalG Ac
        obtain ⟨ρ, hρ⟩ : ∃ ρ, Ac.eval = ρ := ⟨_, rfl⟩
        rw [hρ] at a3 hc hf hgl
        exact relPure hρ (Value.slice A1 n1 c1) (by simp [go_sem, hc, hf, hgl, ↓IntWalk.iteOmega, a3, *]) rfl
      · refine relStep_plain rfl ?_
        intro Ac w5 hp
        have hb := hp.bel
        have a0 : Ac.eval (.tmp 0) = .slice (some ⟨g, o, none⟩) n c := hp.out 0 (by rfl)
        have hc := evalC Ac; have hf := evalF Ac; have hgl := evalG Ac
        obtain ⟨ρ, hρ⟩ : ∃ ρ, Ac.eval = ρ := ⟨_, rfl⟩
        rw [hρ] at a0 hc hf hgl
        exact relPure hρ (.slice (some ⟨g, o, none⟩) n c) (by simp [go_sem, hc, hf, hgl, ↓IntWalk.iteOmega, a0, *]) rfl
      · refine relStep_plain rfl ?_
        intro Ac w5 hp
        have hb := hp.bel
        have a4 : Ac.eval (.tmp 4) = .int .i64 (q : Int) := hp.out 4 (by rfl)
        have hc := evalC Ac; have hf := evalF Ac; have hgl := evalG Ac
        obtain ⟨ρ, hρ⟩ : ∃ ρ, Ac.eval = ρ := ⟨_, rfl⟩
        rw [hρ] at a4 hc hf hgl
        exact relPure hρ (.int .i64 (q : Int)) (by simp [go_sem, hc, hf, hgl, ↓IntWalk.iteOmega, a4, *]) rfl
      · refine relStep_plain rfl ?_
        intro Ac w5 hp
        have hb := hp.bel
        have a17 : Ac.eval (.tmp 17) = .slice (some ⟨g, o, none⟩) n c := hp.dep 1 (by kernel_rfl)
        have a18 : Ac.eval (.tmp 18) = .int .i64 (q : Int) := hp.dep 2 (by kernel_rfl)
        have hc := evalC Ac; have hf := evalF Ac; have hgl := evalG Ac
        obtain ⟨ρ, hρ⟩ : ∃ ρ, Ac.eval = ρ := ⟨_, rfl⟩
        rw [hρ] at a17 a18 hc hf hgl
        exact relPure hρ (.pointer (some ⟨g, o + q * 2, none⟩)) (by simp [go_sem, hc, hf, hgl, ↓IntWalk.iteOmega, a17, a18, *]) rfl
      · refine relStep_plain rfl ?_
        intro Ac w5 hp
        have hb := hp.bel
        have a19 : Ac.eval (.tmp 19) = .pointer (some ⟨g, o + q * 2, none⟩) := hp.dep 3 (by kernel_rfl)
        have hc := evalC Ac; have hf := evalF Ac; have hgl := evalG Ac
        obtain ⟨ρ, hρ⟩ : ∃ ρ, Ac.eval = ρ := ⟨_, rfl⟩
        rw [hρ] at a19 hc hf hgl
        exact relPure hρ (.pointer (some ⟨g, o + q * 2, none⟩)) (by simp [go_sem, hc, hf, hgl, ↓IntWalk.iteOmega, a19, *]) rfl
      · refine relStep_plain rfl ?_
        intro Ac w5 hp
        have hb := hp.bel
        have a20 : Ac.eval (.tmp 20) = .pointer (some ⟨g, o + q * 2, none⟩) := hp.dep 4 (by kernel_rfl)
        have z0 : w5.cell? ⟨g, o + q * 2, none⟩ = some (.int .i64 b) := (hb.cell hg).trans HZ0.out
        have hc := evalC Ac; have hf := evalF Ac; have hgl := evalG Ac
        obtain ⟨ρ, hρ⟩ : ∃ ρ, Ac.eval = ρ := ⟨_, rfl⟩
        rw [hρ] at a20 hc hf hgl
        exact relPure hρ (.int .i64 b) (by simp [go_sem, hc, hf, hgl, ↓IntWalk.iteOmega, a20, *]) rfl
      · refine relStep_plain rfl ?_
        intro Ac w5 hp
        have hb := hp.bel
        have a0 : Ac.eval (.tmp 0) = .slice (some ⟨g, o, none⟩) n c := hp.out 0 (by rfl)
        have hc := evalC Ac; have hf := evalF Ac; have hgl := evalG Ac
        obtain ⟨ρ, hρ⟩ : ∃ ρ, Ac.eval = ρ := ⟨_, rfl⟩
        rw [hρ] at a0 hc hf hgl
        exact relPure hρ (.slice (some ⟨g, o, none⟩) n c) (by simp [go_sem, hc, hf, hgl, ↓IntWalk.iteOmega, a0, *]) rfl
      · refine relStep_plain rfl ?_
        intro Ac w5 hp
        have hb := hp.bel
        have a4 : Ac.eval (.tmp 4) = .int .i64 (q : Int) := hp.out 4 (by rfl)
        have hc := evalC Ac; have hf := evalF Ac; have hgl := evalG Ac
        obtain ⟨ρ, hρ⟩ : ∃ ρ, Ac.eval = ρ := ⟨_, rfl⟩
        rw [hρ] at a4 hc hf hgl
        exact relPure hρ (.int .i64 (q : Int)) (by simp [go_sem, hc, hf, hgl, ↓IntWalk.iteOmega, a4, *]) rfl
      · refine relStep_plain rfl ?_
        intro Ac w5 hp
        have hb := hp.bel
        have a22 : Ac.eval (.tmp 22) = .slice (some ⟨g, o, none⟩) n c := hp.dep 6 (by kernel_rfl)
        have a23 : Ac.eval (.tmp 23) = .int .i64 (q : Int) := hp.dep 7 (by kernel_rfl)
        have hc := evalC Ac; have hf := evalF Ac; have hgl := evalG Ac
        obtain ⟨ρ, hρ⟩ : ∃ ρ, Ac.eval = ρ := ⟨_, rfl⟩
        rw [hρ] at a22 a23 hc hf hgl
        exact relPure hρ (.pointer (some ⟨g, o + q * 2, none⟩)) (by simp [go_sem, hc, hf, hgl, ↓IntWalk.iteOmega, a22, a23, *]) rfl
      · refine relStep_plain rfl ?_
        intro Ac w5 hp
        have hb := hp.bel
        have a24 : Ac.eval (.tmp 24) = .pointer (some ⟨g, o + q * 2, none⟩) := hp.dep 8 (by kernel_rfl)
        have hc := evalC Ac; have hf := evalF Ac; have hgl := evalG Ac
        obtain ⟨ρ, hρ⟩ : ∃ ρ, Ac.eval = ρ := ⟨_, rfl⟩
        rw [hρ] at a24 hc hf hgl
        exact relPure hρ (.pointer (some ⟨g, o + q * 2 + 1, none⟩)) (by simp [go_sem, hc, hf, hgl, ↓IntWalk.iteOmega, a24, *]) rfl
      · refine relStep_plain rfl ?_
        intro Ac w5 hp
        have hb := hp.bel
        have a25 : Ac.eval (.tmp 25) = .pointer (some ⟨g, o + q * 2 + 1, none⟩) := hp.dep 9 (by kernel_rfl)
        have z1 : w5.cell? ⟨g, o + q * 2 + 1, none⟩ = some (.slice Bq m d) := (hb.cell hg).trans HZ1.out
        have hc := evalC Ac; have hf := evalF Ac; have hgl := evalG Ac
        obtain ⟨ρ, hρ⟩ : ∃ ρ, Ac.eval = ρ := ⟨_, rfl⟩
        rw [hρ] at a25 hc hf hgl
        exact relPure hρ (Value.slice Bq m d) (by simp [go_sem, hc, hf, hgl, ↓IntWalk.iteOmega, a25, *]) rfl
      · refine relStep_plain rfl ?_
        intro Ac w5 hp
        have hb := hp.bel
        have a26 : Ac.eval (.tmp 26) = Value.slice Bq m d := hp.dep 10 (by kernel_rfl)
        have hc := evalC Ac; have hf := evalF Ac; have hgl := evalG Ac
        obtain ⟨ρ, hρ⟩ : ∃ ρ, Ac.eval = ρ := ⟨_, rfl⟩
        rw [hρ] at a26 hc hf hgl
        refine relCall hρ 19 #[Value.slice Bq m d, .int .i64 300] (by simp [go_sem, hc, hf, hgl, ↓IntWalk.iteOmega, a26, *]) ?_
        refine (few_any Bq m d r 300 (by decide) w5 (HUr.out.below hb)).mono ?_
        rintro e w6 ⟨v6, rfl, ho6, hb6⟩
        rw [HRT.out] at ho6
        obtain ⟨A6, c6, rfl⟩ := own_slice ho6
        exact ⟨_, rfl, ⟨A6, c6, rfl, own_baseLe ho6 hb.size⟩, hb6⟩
      · refine relStep_plain rfl ?_
        intro Ac w5 hp
        have hb := hp.bel
        have a21 : Ac.eval (.tmp 21) = .int .i64 b := hp.dep 5 (by kernel_rfl)
        obtain ⟨A27, c27, a27, ho27⟩ := hp.dep 11 (by kernel_rfl)
        change Ac.eval (.tmp 27) = _ at a27
        have hc := evalC Ac; have hf := evalF Ac; have hgl := evalG Ac
        obtain ⟨ρ, hρ⟩ : ∃ ρ, Ac.eval = ρ := ⟨_, rfl⟩
        rw [hρ] at a21 a27 hc hf hgl
        exact relPure hρ (.agg #[.int .i64 b, .slice A27 RT.length c27]) (by simp [go_sem, hc, hf, hgl, ↓IntWalk.iteOmega, a21, a27, *]) ⟨A27, c27, rfl, ho27⟩
      · refine relStep_plain rfl ?_
        intro Ac w5 hp
        have hb := hp.bel
        obtain ⟨A28, c28, a28, ho28⟩ := hp.dep 12 (by kernel_rfl)
        change Ac.eval (.tmp 28) = _ at a28
        have hc := evalC Ac; have hf := evalF Ac; have hgl := evalG Ac
        obtain ⟨ρ, hρ⟩ : ∃ ρ, Ac.eval = ρ := ⟨_, rfl⟩
        rw [hρ] at a28 hc hf hgl
        exact relVal hρ (.slice (some ⟨w5.heap.size, 0, none⟩) 1 1) (w5.alloc (.cells #[.int .i64 b, .slice A28 RT.length c28] 59)) (by simp [go_sem, hc, hf, hgl, ↓IntWalk.iteOmega, a28]) ⟨w5.heap.size, A28, c28, rfl, Blk.new w5 _ _, ho28.alloc _⟩ ((Below.refl _ _).alloc (Nat.le_refl _) _)
      intro u w8 hb7 hall
      have e16 : u 0 = Value.slice A1 n1 c1 := relAll_at hall (i := 0) (by decide +kernel)
      obtain ⟨R29, A29, c29, e29, hR29, ho29⟩ := relAll_at hall (i := 13) (by decide +kernel)
      change u 13 = _ at e29
      clear hall
      simp only [List.drop_succ_cons, List.drop_zero, List.take_succ_cons, List.take_zero, putAll, Act.put, List.setIfInBounds_toArray, List.set_cons_zero, List.set_cons_succ, Nat.zero_add, Nat.reduceAdd, e16, e29]
      have hsw := hb7.size
      have HLo8 := hide (HLo.out.below hb7)
      have HB8 := hide (HBe.out.trans (hb7.mono hs1))
      refine wpList_append_any w8 rfl (.tmp 16) (.tmp 29) 37 rfl w.heap.size 59 i0 _ 2 32 Tryz.underlying37 hi hz0 hz1 hz2 rfl (by decide) (.slice A1 n1 c1) n1 xs rfl HLo8.out.1 w8.heap.size (some ⟨R29, 0, none⟩) 1 1 [.int .i64 b, .slice A29 RT.length c29] rfl (reads_blkN hR29 hR29.lt rfl rfl) (by simp [Value.oneCell']) (by unfold maxLen; omega) (by omega) (by omega) ?_
      intro v2 w9 h2 h3 h4
      obtain ⟨A4, c4, rfl, hlo4⟩ := LOw.push HLo8.out (chunk1_fr rfl (sg_fr ho29 HRb.out hs1 (fun k hk => own_block_lt HLo.out.1 k hk))) h2 h3 h4
      have HL9 := hide hlo4
      have HB9 := hide (HB8.out.grown h3 (by omega) (fun k hk => own_low_block HLo.out.1 k hk))
      clear hlo4 h2 h3 h4 hb7 hR29 ho29 e16 e29
      go_wp2
      go_roundw
      case rel => exact ⟨q + 1, A4, n1 + 1, c4, _, by omega, by omega, by go_num, rfl, by rw [HE.out]; exact HL9.out, HB9.out⟩
      case measure => simp [intOf]; omega
    · have HF : Hid (LOw 2 59 sgR wr w.heap.size w.heap.size A1 n1 c1 (cutP l) xs) := hide (by
        have e : l.take q = l.take 12 := by
          by_cases h12 : q = 12
          · rw [h12]
          · rw [List.take_of_length_le (by omega), List.take_of_length_le (by omega)]
        rw [e] at hlo
        exact hlo)
      clear hlo hbel
      by_cases hqn : q < n
      · have e1 : decide ((q : Int) < (n : Int)) = true := decide_eq_true (by omega)
        have e2 : decide ((q : Int) < 12) = false := decide_eq_false (by omega)
        clear hlt
        go_wp2
        go_ret
        exact ⟨A1, n1, c1, xs, rfl, HF.out, HBe.out⟩
      · have e1 : decide ((q : Int) < (n : Int)) = false := decide_eq_false (by omega)
        clear hlt
        go_wp2
        go_ret
        exact ⟨A1, n1, c1, xs, rfl, HF.out, HBe.out⟩
end Go.Proofs.YtplhnhoijficgaaGreat
set_option linter.unusedSimpArgs false
set_option linter.unusedVariables false
namespace Go.Proofs.YtplhnhoijficgaaGreat
open Go.RowKit Go.WideShapes Go.ChangeShapes
attribute [local go_sem] Oper.semAt_some
theorem exec_store {P : Program} {ρ : Operand → Value} {o : Oper} {t : TypeId} {a v : Operand} (ho : o.op = .store t a v) {x y : Value} (ha : ρ a = x) (hv : ρ v = y) {w w' : World} (h : (Instr.storeAt t x y).run P w = .ok () w') : (execOp ρ o).run P w = .ok .skip w' := by
  unfold execOp
  rw [ho]
  simp only [ha, hv, Sem.run_bind, h, Result.andThen_ok]
  rfl
end Go.Proofs.YtplhnhoijficgaaGreat
set_option linter.unusedSimpArgs false
set_option linter.unusedVariables false
namespace Go.Proofs.YtplhnhoijficgaaGreat
open Go.RowKit Go.WideShapes Go.ChangeShapes
attribute [local go_sem] Oper.semAt_some
def cutA (x : AT) : AT := ⟨x.has, x.org, cutP x.path, x.hop, x.med, x.pref, x.aas, x.aid, x.comms.take 260⟩
abbrev bxC (X : AT) (x2 x8 : Value) : Array Value := #[.int .i64 X.has, .int .i64 X.org, x2, .int .u32 X.hop, .int .u32 X.med, .int .u32 X.pref, .int .u32 X.aas, .int .u32 X.aid, x8]
def SlA (b : Nat) (P : List SG) (v : Value) (W : World) : Prop := ∃ A n c xs, v = .slice A n c ∧ LOw 2 59 sgR W b b A n c P xs
def SlB (b : Nat) (C : List Nat) (v : Value) (W : World) : Prop := ∃ B m d, v = .slice B m d ∧ FrB b none (fun w => U32s w B m d C) W
def BxA (H : Nat) (X : AT) (W : World) : Prop := ∃ x2 x8, Blk W H 40 (bxC X x2 x8) ∧ Blk W (H + 1) 40 zeroC
def StA (H b : Nat) (X : AT) (P : List SG) (W : World) : Prop := ∃ x2 x8, Blk W H 40 (bxC X x2 x8) ∧ Blk W (H + 1) 40 zeroC ∧ SlA b P x2 W
def StB (H b : Nat) (X : AT) (C : List Nat) (W : World) : Prop := ∃ x2 x8, Blk W H 40 (bxC X x2 x8) ∧ Blk W (H + 1) 40 zeroC ∧ SlB b C x8 W
section
variable {H b i : Nat} {X : AT} {P : List SG} {C : List Nat} {v u : Value} {W W' : World}
theorem SlA.below (h : SlA b P v W) (hb : Below W.heap.size W W') : SlA b P v W' := by
  obtain ⟨A, n, c, xs, e, hl⟩ := h
  exact ⟨A, n, c, xs, e, hl.below hb⟩
theorem SlB.below (h : SlB b C v W) (hb : Below W.heap.size W W') : SlB b C v W' := by
  obtain ⟨A, n, c, e, hl⟩ := h
  exact ⟨A, n, c, e, hl.below hb⟩
theorem SlA.setv (h : SlA b P v W) (hH : H < b) : SlA b P v (W.setCell ⟨H, i, none⟩ u) := by
  obtain ⟨A, n, c, xs, e, hl⟩ := h
  exact ⟨A, n, c, xs, e, hl.set hH hH u⟩
theorem SlB.setv (h : SlB b C v W) (hH : H < b) : SlB b C v (W.setCell ⟨H, i, none⟩ u) := by
  obtain ⟨A, n, c, e, hl⟩ := h
  exact ⟨A, n, c, e, hl.set (p := ⟨H, i, none⟩) hH u⟩
theorem BxA.lt_ (h : BxA H X W) : H < W.heap.size := by
  obtain ⟨x2, x8, h, _⟩ := h
  exact h.lt
theorem blk_up {t : TypeId} {cs : Array Value} (h : Blk W (H + 1) t cs) : Blk (W.setCell ⟨H, i, none⟩ u) (H + 1) t cs := h.far (p := ⟨H, i, none⟩) (by show H + 1 ≠ H; omega) u
theorem BxA.below (h : BxA H X W) (hb : Below W.heap.size W W') : BxA H X W' := by
  obtain ⟨x2, x8, h, hz⟩ := h
  exact ⟨x2, x8, h.below hb h.lt, hz.below hb hz.lt⟩
theorem BxA.set2 (h : BxA H X W) (u : Value) : BxA H X (W.setCell ⟨H, 2, none⟩ u) := by
  obtain ⟨x2, x8, h, hz⟩ := h
  exact ⟨u, x8, h.set_ 2 u, blk_up hz⟩
theorem BxA.set8 (h : BxA H X W) (u : Value) : BxA H X (W.setCell ⟨H, 8, none⟩ u) := by
  obtain ⟨x2, x8, h, hz⟩ := h
  exact ⟨x2, u, h.set_ 8 u, blk_up hz⟩
theorem StA.below (h : StA H b X P W) (hb : Below W.heap.size W W') : StA H b X P W' := by
  obtain ⟨x2, x8, h, hz, hs⟩ := h
  exact ⟨x2, x8, h.below hb h.lt, hz.below hb hz.lt, hs.below hb⟩
theorem StB.below (h : StB H b X C W) (hb : Below W.heap.size W W') : StB H b X C W' := by
  obtain ⟨x2, x8, h, hz, hs⟩ := h
  exact ⟨x2, x8, h.below hb h.lt, hz.below hb hz.lt, hs.below hb⟩
theorem StA.set8 (h : StA H b X P W) (hH : H < b) : StA H b X P (W.setCell ⟨H, 8, none⟩ u) := by
  obtain ⟨x2, x8, h, hz, hs⟩ := h
  exact ⟨x2, u, h.set_ 8 u, blk_up hz, hs.setv hH⟩
theorem StB.set2 (h : StB H b X C W) (hH : H < b) : StB H b X C (W.setCell ⟨H, 2, none⟩ u) := by
  obtain ⟨x2, x8, h, hz, hs⟩ := h
  exact ⟨u, x8, h.set_ 2 u, blk_up hz, hs.setv hH⟩
theorem st_both (h : StA H b X P W) (h' : StB H b X C W) : ∃ A n c xs B m d, Blk W H 40 (bxC X (.slice A n c) (.slice B m d)) ∧ Blk W (H + 1) 40 zeroC ∧ LOw 2 59 sgR W b b A n c P xs ∧ FrB b none (fun w => U32s w B m d C) W := by
  obtain ⟨x2, x8, h1, hz, A, n, c, xs, rfl, hl⟩ := h
  obtain ⟨y2, y8, h2, _, B, m, d, rfl, hu⟩ := h'
  have e := (h1.cell 8).symm.trans (h2.cell 8)
  simp only [List.getElem?_toArray, List.getElem?_cons_succ, List.getElem?_cons_zero, Option.some.injEq] at e
  subst e
  exact ⟨A, n, c, xs, B, m, d, h1, hz, hl, hu⟩
theorem cell_set_ne {j : Nat} (hne : i ≠ j) : (W.setCell ⟨H, i, none⟩ u).cell? ⟨H, j, none⟩ = W.cell? ⟨H, j, none⟩ := by
  refine World.cell?_setCell_other _ _ _ _ ?_
  intro e
  cases e
  exact hne rfl
/-- One cell of a box stored. -/
theorem st1A {tc : TypeId} {f n c : Nat} {A : Option Addr} {cs : Array Value} (h : Blk W H tc cs) (hf : cs[f]?.isSome = true) :
    (Instr.storeAt 37 (.pointer (some ⟨H, f, none⟩)) (.slice A n c)).run Tryz.prog W = .ok () (W.setCell ⟨H, f, none⟩ (.slice A n c)) := by
  have hc := h.cell f
  have hz := h.frozen f
  obtain ⟨x, hx⟩ := Option.isSome_iff_exists.1 hf
  rw [hx] at hc
  simp [go_sem, hc, hz]
theorem st1B {tc : TypeId} {f n c : Nat} {A : Option Addr} {cs : Array Value} (h : Blk W H tc cs) (hf : cs[f]?.isSome = true) :
    (Instr.storeAt 38 (.pointer (some ⟨H, f, none⟩)) (.slice A n c)).run Tryz.prog W = .ok () (W.setCell ⟨H, f, none⟩ (.slice A n c)) := by
  have hc := h.cell f
  have hz := h.frozen f
  obtain ⟨x, hx⟩ := Option.isSome_iff_exists.1 hf
  rw [hx] at hc
  simp [go_sem, hc, hz]
end
set_option maxRecDepth 100000 in
set_option maxHeartbeats 8000000 in
theorem attrsFew_any (X : AT) (v : Value) (w : World) (hv : AtR w X v) : Calls Tryz.prog 11 #[v] w (AtP (cutA X) w) := by
  obtain ⟨A, n, c, Bb, m, d, rfl, hP, hC⟩ := hv
  obtain ⟨w1, hw1⟩ : ∃ w1, ((w.alloc (.cells (bxC X (.slice A n c) (.slice Bb m d)) 40)).alloc (.cells zeroC 40)) = w1 := ⟨_, rfl⟩
  have hb1 : Below w.heap.size w w1 := hw1 ▸ ((Below.refl _ w).alloc (Nat.le_refl _) _).alloc (by simp) _
  have HKb : Hid (Blk w1 w.heap.size 40 (bxC X (.slice A n c) (.slice Bb m d))) := hide (hw1 ▸ (Blk.new w _ _).alloc _)
  have HKz : Hid (Blk w1 (w.heap.size + 1) 40 zeroC) := hide (hw1 ▸ blk_new' _ _ (by simp))
  have HLt : Hid (w.heap.size < w1.heap.size) := hide HKb.out.lt
  have HP := hide hP
  have HC := hide hC
  have HB1 := hide hb1
  have HW1 := hide hw1
  obtain ⟨PN, hPN⟩ : ∃ P, cutP X.path = P := ⟨_, rfl⟩
  obtain ⟨CN, hCN⟩ : ∃ C, X.comms.take 260 = C := ⟨_, rfl⟩
  have HCNb : Hid (∀ y ∈ CN, y < 4294967296) := hide (fun y hy => by rw [← hCN] at hy; exact hC.2.2.2.1 y (List.mem_of_mem_take hy))
  have HPN := hide hPN
  have HCN := hide hCN
  have HX : Hid (cutA X = ⟨X.has, X.org, PN, X.hop, X.med, X.pref, X.aas, X.aid, CN⟩) := hide (by unfold cutA; rw [hPN, hCN])
  clear hw1 hb1 hP hC hPN hCN
  go_enter Tryz.func11, Tryz.ntmps11
  go_upto_region 1 with fail
  rw [HW1.out]
  refine wp_region_relH 10 w.heap.size (Nat.le_of_lt HLt.out) [(fun v _ => v = .pointer (some ⟨w.heap.size, 2, none⟩)), (fun v _ => v = .slice A n c), (SlA w1.heap.size PN), (fun v _ => v = .pointer (some ⟨w.heap.size, 8, none⟩)), (fun v _ => v = .slice Bb m d), (SlB w1.heap.size CN), (fun v _ => v = .pointer (some ⟨w.heap.size, 2, none⟩)), (fun _ W => StA w.heap.size w1.heap.size X PN W ), (fun v _ => v = .pointer (some ⟨w.heap.size, 8, none⟩)), (fun _ W => StB w.heap.size w1.heap.size X CN W )] (fun i W => BxA w.heap.size X W ∧ (i = 1 → W.cell? ⟨w.heap.size, 2, none⟩ = some (.slice A n c)) ∧ (i = 4 → W.cell? ⟨w.heap.size, 8, none⟩ = some (.slice Bb m d))) (fun i Wa Wb => if i = 7 then ∃ v, Wb = Wa.setCell ⟨w.heap.size, 2, none⟩ v else if i = 9 then ∃ v, Wb = Wa.setCell ⟨w.heap.size, 8, none⟩ v else Below Wa.heap.size Wa Wb) (by kernel_rfl) (by kernel_rfl) (by kernel_rfl) (by kernel_rfl) (by kernel_rfl) ?hE ?hR ?hP ?h0 ⟨?_, ?_, ?_, ?_, ?_, ?_, ?_, ?_, ?_, ?_, trivial⟩ ?_
  case hE =>
    intro i2 wa wb hB he
    split at he
    · obtain ⟨u, rfl⟩ := he
      exact (Below.refl w.heap.size wa).setCell (p := ⟨w.heap.size, 2, none⟩) (Nat.le_refl _) u
    · split at he
      · obtain ⟨u, rfl⟩ := he
        exact (Below.refl w.heap.size wa).setCell (p := ⟨w.heap.size, 8, none⟩) (Nat.le_refl _) u
      · exact he.mono hB
  case hR =>
    intro i2 j2 v2 wa wb hij hB he h
    split at he
    · rename_i hj2
      subst hj2
      refine keepAll_at (E := fun wa wb => ∃ v, wb = wa.setCell ⟨w.heap.size, 2, none⟩ v) (x := 7) (k := 0) ?_ (by omega) he h
      exact ⟨fun _ v wa wb he h => h, fun _ v wa wb he h => h, fun _ v wa wb he h => by obtain ⟨u, rfl⟩ := he; exact SlA.setv h HLt.out, fun _ v wa wb he h => h, fun _ v wa wb he h => h, fun _ v wa wb he h => by obtain ⟨u, rfl⟩ := he; exact SlB.setv h HLt.out, fun _ v wa wb he h => h, fun hn => absurd rfl hn, fun _ v wa wb he h => h, fun _ v wa wb he h => by obtain ⟨u, rfl⟩ := he; exact StB.set2 h HLt.out, trivial⟩
    · split at he
      · rename_i hj2
        subst hj2
        refine keepAll_at (E := fun wa wb => ∃ v, wb = wa.setCell ⟨w.heap.size, 8, none⟩ v) (x := 9) (k := 0) ?_ (by omega) he h
        exact ⟨fun _ v wa wb he h => h, fun _ v wa wb he h => h, fun _ v wa wb he h => by obtain ⟨u, rfl⟩ := he; exact SlA.setv h HLt.out, fun _ v wa wb he h => h, fun _ v wa wb he h => h, fun _ v wa wb he h => by obtain ⟨u, rfl⟩ := he; exact SlB.setv h HLt.out, fun _ v wa wb he h => h, fun _ v wa wb he h => by obtain ⟨u, rfl⟩ := he; exact StA.set8 h HLt.out, fun _ v wa wb he h => h, fun hn => absurd rfl hn, trivial⟩
      · refine relMono _ ?_ i2 v2 wa wb he h
        exact ⟨fun _ _ _ _ h => h, fun _ _ _ _ h => h, fun v w2 w3 hb h => SlA.below h hb, fun _ _ _ _ h => h, fun _ _ _ _ h => h, fun v w2 w3 hb h => SlB.below h hb, fun _ _ _ _ h => h, fun v w1 w2 hb h => StA.below h hb, fun _ _ _ _ h => h, fun v w1 w2 hb h => StB.below h hb, trivial⟩
  case hP =>
    intro i2 j2 wa wb hij hnb hB he h
    split at he
    · rename_i hj2
      subst hj2
      obtain ⟨u, rfl⟩ := he
      refine ⟨h.1.set2 u, fun e => ?_, fun e => (cell_set_ne (by decide)).trans (h.2.2 e)⟩
      subst e
      exact absurd hnb (by decide +kernel)
    · split at he
      · rename_i hj2
        subst hj2
        obtain ⟨u, rfl⟩ := he
        refine ⟨h.1.set8 u, fun e => (cell_set_ne (by decide)).trans (h.2.1 e), fun e => ?_⟩
        subst e
        exact absurd hnb (by decide +kernel)
      · exact ⟨h.1.below he, fun e => (he.cell h.1.lt_).trans (h.2.1 e), fun e => (he.cell h.1.lt_).trans (h.2.2 e)⟩
  case h0 =>
    intro j2 hj2
    exact ⟨⟨_, _, HKb.out.drew, HKz.out.drew⟩, fun _ => HKb.out.cell 2, fun _ => HKb.out.cell 8⟩
  · refine relG_plain rfl rfl (fun _ _ h => h) ?_
    intro Ac w5 hp
    have hb := hp.bel
    have a1 : Ac.eval (.tmp 1) = .pointer (some ⟨w.heap.size, 0, none⟩) := hp.out 1 (by rfl)
    have hc := evalC Ac; have hf := evalF Ac; have hgl := evalG Ac
    obtain ⟨ρ, hρ⟩ : ∃ ρ, Ac.eval = ρ := ⟨_, rfl⟩
    rw [hρ] at a1 hc hf hgl
    exact relPure hρ (.pointer (some ⟨w.heap.size, 2, none⟩)) (by simp [go_sem, hc, hf, hgl, ↓IntWalk.iteOmega, a1, *]) rfl
  · refine relG_plain rfl rfl (fun _ _ h => h) ?_
    intro Ac w5 hp
    have hb := hp.bel
    have a3 : Ac.eval (.tmp 3) = .pointer (some ⟨w.heap.size, 2, none⟩) := hp.dep 0 (by kernel_rfl)
    have z2 := hp.pre.2.1 rfl
    have hc := evalC Ac; have hf := evalF Ac; have hgl := evalG Ac
    obtain ⟨ρ, hρ⟩ : ∃ ρ, Ac.eval = ρ := ⟨_, rfl⟩
    rw [hρ] at a3 hc hf hgl
    exact relPure hρ (.slice A n c) (by simp [go_sem, hc, hf, hgl, ↓IntWalk.iteOmega, a3, *]) rfl
  · refine relG_plain rfl rfl (fun _ _ h => h) ?_
    intro Ac w5 hp
    have hb := hp.bel
    have a4 : Ac.eval (.tmp 4) = .slice A n c := hp.dep 1 (by kernel_rfl)
    have hc := evalC Ac; have hf := evalF Ac; have hgl := evalG Ac
    obtain ⟨ρ, hρ⟩ : ∃ ρ, Ac.eval = ρ := ⟨_, rfl⟩
    rw [hρ] at a4 hc hf hgl
    refine relCall hρ 18 #[.slice A n c] (by simp [go_sem, hc, hf, hgl, ↓IntWalk.iteOmega, a4, *]) ?_
    refine (pathFew_any A n c X.path w5 (HP.out.below sgMono (HB1.out.trans hp.bel))).mono ?_
    intro e w6 hmv
    unfold SegP at hmv
    obtain ⟨A6, n6, c6, xs6, rfl, hl6, hb6⟩ := hmv
    rw [HPN.out] at hl6
    exact ⟨_, rfl, ⟨A6, n6, c6, xs6, rfl, hl6.less hp.bel.size hp.bel.size⟩, hb6⟩
  · refine relG_plain rfl rfl (fun _ _ h => h) ?_
    intro Ac w5 hp
    have hb := hp.bel
    have a1 : Ac.eval (.tmp 1) = .pointer (some ⟨w.heap.size, 0, none⟩) := hp.out 1 (by rfl)
    have hc := evalC Ac; have hf := evalF Ac; have hgl := evalG Ac
    obtain ⟨ρ, hρ⟩ : ∃ ρ, Ac.eval = ρ := ⟨_, rfl⟩
    rw [hρ] at a1 hc hf hgl
    exact relPure hρ (.pointer (some ⟨w.heap.size, 8, none⟩)) (by simp [go_sem, hc, hf, hgl, ↓IntWalk.iteOmega, a1, *]) rfl
  · refine relG_plain rfl rfl (fun _ _ h => h) ?_
    intro Ac w5 hp
    have hb := hp.bel
    have a6 : Ac.eval (.tmp 6) = .pointer (some ⟨w.heap.size, 8, none⟩) := hp.dep 3 (by kernel_rfl)
    have z8 := hp.pre.2.2 rfl
    have hc := evalC Ac; have hf := evalF Ac; have hgl := evalG Ac
    obtain ⟨ρ, hρ⟩ : ∃ ρ, Ac.eval = ρ := ⟨_, rfl⟩
    rw [hρ] at a6 hc hf hgl
    exact relPure hρ (.slice Bb m d) (by simp [go_sem, hc, hf, hgl, ↓IntWalk.iteOmega, a6, *]) rfl
  · refine relG_plain rfl rfl (fun _ _ h => h) ?_
    intro Ac w5 hp
    have hb := hp.bel
    have a7 : Ac.eval (.tmp 7) = .slice Bb m d := hp.dep 4 (by kernel_rfl)
    have hc := evalC Ac; have hf := evalF Ac; have hgl := evalG Ac
    obtain ⟨ρ, hρ⟩ : ∃ ρ, Ac.eval = ρ := ⟨_, rfl⟩
    rw [hρ] at a7 hc hf hgl
    refine relCall hρ 19 #[.slice Bb m d, .int .i64 (260 : Nat)] (by simp [go_sem, hc, hf, hgl, ↓IntWalk.iteOmega, a7, *]) ?_
    refine (few_any Bb m d X.comms 260 (by decide) w5 (HC.out.below (HB1.out.trans hp.bel))).mono ?_
    rintro e w6 ⟨v6, rfl, ho6, hb6⟩
    rw [HCN.out] at ho6
    obtain ⟨A6, c6, rfl⟩ := own_slice ho6
    exact ⟨_, rfl, ⟨A6, _, c6, rfl, own_u32_fr ho6 HCNb.out hp.bel.size (fun k hk => by cases hk)⟩, hb6⟩
  · refine relG_plain rfl rfl (fun _ _ h => h) ?_
    intro Ac w5 hp
    have hb := hp.bel
    have a1 : Ac.eval (.tmp 1) = .pointer (some ⟨w.heap.size, 0, none⟩) := hp.out 1 (by rfl)
    have hc := evalC Ac; have hf := evalF Ac; have hgl := evalG Ac
    obtain ⟨ρ, hρ⟩ : ∃ ρ, Ac.eval = ρ := ⟨_, rfl⟩
    rw [hρ] at a1 hc hf hgl
    exact relPure hρ (.pointer (some ⟨w.heap.size, 2, none⟩)) (by simp [go_sem, hc, hf, hgl, ↓IntWalk.iteOmega, a1, *]) rfl
  · refine relG_store rfl ?_
    intro Ac w5 hp
    have hb := hp.bel
    have a9 : Ac.eval (.tmp 9) = .pointer (some ⟨w.heap.size, 2, none⟩) := hp.dep 6 (by kernel_rfl)
    obtain ⟨A5, n5, c5, xs5, a5, hl5⟩ := hp.dep 2 (by kernel_rfl)
    change Ac.eval (.tmp 5) = _ at a5
    have a9 : Ac.eval (.tmp 9) = .pointer (some ⟨w.heap.size, 2, none⟩) := hp.dep 6 (by kernel_rfl)
    obtain ⟨A5, n5, c5, xs5, ec, hl5⟩ := hp.dep 2 (by kernel_rfl)
    change Ac.eval (.tmp 5) = _ at ec
    obtain ⟨x2, x8, hk, hz⟩ := hp.pre.1
    have HK := hide hk
    have HZ := hide (hz.far (p := ⟨w.heap.size, 2, none⟩) (by show w.heap.size + 1 ≠ w.heap.size; omega) (.slice A5 n5 c5))
    have HL := hide hl5
    clear hp
    refine ⟨w5.setCell ⟨w.heap.size, 2, none⟩ (.slice A5 n5 c5), .inl (exec_store rfl a9 ec (st1A HK.out rfl)), ?_, ⟨_, rfl⟩⟩
    exact ⟨_, x8, HK.out.set_ 2 _, HZ.out, ⟨A5, n5, c5, xs5, rfl, HL.out.set HLt.out HLt.out _⟩⟩
  · refine relG_plain rfl rfl (fun _ _ h => h) ?_
    intro Ac w5 hp
    have hb := hp.bel
    have a1 : Ac.eval (.tmp 1) = .pointer (some ⟨w.heap.size, 0, none⟩) := hp.out 1 (by rfl)
    have hc := evalC Ac; have hf := evalF Ac; have hgl := evalG Ac
    obtain ⟨ρ, hρ⟩ : ∃ ρ, Ac.eval = ρ := ⟨_, rfl⟩
    rw [hρ] at a1 hc hf hgl
    exact relPure hρ (.pointer (some ⟨w.heap.size, 8, none⟩)) (by simp [go_sem, hc, hf, hgl, ↓IntWalk.iteOmega, a1, *]) rfl
  · refine relG_store rfl ?_
    intro Ac w5 hp
    have hb := hp.bel
    have a10 : Ac.eval (.tmp 10) = .pointer (some ⟨w.heap.size, 8, none⟩) := hp.dep 8 (by kernel_rfl)
    obtain ⟨A8, n8, c8, a8, hu8⟩ := hp.dep 5 (by kernel_rfl)
    change Ac.eval (.tmp 8) = _ at a8
    have a10 : Ac.eval (.tmp 10) = .pointer (some ⟨w.heap.size, 8, none⟩) := hp.dep 8 (by kernel_rfl)
    obtain ⟨A8, n8, c8, ec, hu8⟩ := hp.dep 5 (by kernel_rfl)
    change Ac.eval (.tmp 8) = _ at ec
    obtain ⟨x2, x8, hk, hz⟩ := hp.pre.1
    have HK := hide hk
    have HZ := hide (hz.far (p := ⟨w.heap.size, 8, none⟩) (by show w.heap.size + 1 ≠ w.heap.size; omega) (.slice A8 n8 c8))
    have HL := hide hu8
    clear hp
    refine ⟨w5.setCell ⟨w.heap.size, 8, none⟩ (.slice A8 n8 c8), .inl (exec_store rfl a10 ec (st1B HK.out rfl)), ?_, ⟨_, rfl⟩⟩
    exact ⟨x2, _, HK.out.set_ 8 _, HZ.out, ⟨A8, n8, c8, rfl, HL.out.set (p := ⟨w.heap.size, 8, none⟩) HLt.out _⟩⟩
  intro u w7 hb7 hall
  have efin : StA w.heap.size w1.heap.size X PN w7  := relAll_at hall (i := 7) (by decide +kernel)
  have efin1 : StB w.heap.size w1.heap.size X CN w7  := relAll_at hall (i := 9) (by decide +kernel)
  clear hall
  simp only [List.drop_succ_cons, List.drop_zero, List.take_succ_cons, List.take_zero, putAll, Act.put, List.setIfInBounds_toArray, List.set_cons_zero, List.set_cons_succ, Nat.zero_add, Nat.reduceAdd, ]
  obtain ⟨A8, n8, c8, xs8, B8, m8, d8, hk, hz, hl, hu⟩ := st_both efin efin1
  have HK := hide hk
  have HZ := hide hz
  have HB7 := hide (HB1.out.trans hb7)
  have HO := hide (show AtO w1.heap.size w7 ⟨X.has, X.org, PN, X.hop, X.med, X.pref, X.aas, X.aid, CN⟩ (atV X.has X.org A8 n8 c8 X.hop X.med X.pref X.aas X.aid B8 m8 d8) from ⟨A8, n8, c8, xs8, B8, m8, d8, rfl, hl, hu⟩)
  rw [← HX.out] at HO
  have hlt : w.heap.size + 1 < w1.heap.size := HKz.out.lt
  clear efin efin1 hk hz hl hu hb7
  obtain ⟨a0, a1, a2, a3, a4, a5, a6, a7, a8⟩ := blk9 HK.out
  obtain ⟨z0, z1, z2, z3, z4, z5, z6, z7, z8⟩ := blk9 HZ.out
  have zf := fun i => HZ.out.frozen i
  go_wp2
  change bodyPost _ _ _ _ _ (w7.setCells (w.heap.size + 1) 0 [.int .i64 X.has, .int .i64 X.org, .slice A8 n8 c8, .int .u32 X.hop, .int .u32 X.med, .int .u32 X.pref, .int .u32 X.aas, .int .u32 X.aid, .slice B8 m8 d8])
  obtain ⟨wF, hwF⟩ : ∃ x, w7.setCells (w.heap.size + 1) 0 [.int .i64 X.has, .int .i64 X.org, .slice A8 n8 c8, .int .u32 X.hop, .int .u32 X.med, .int .u32 X.pref, .int .u32 X.aas, .int .u32 X.aid, .slice B8 m8 d8] = x := ⟨_, rfl⟩
  have HFk := hide (hwF ▸ blk9_set HZ.out : Blk wF (w.heap.size + 1) 40 (atC X.has X.org A8 n8 c8 X.hop X.med X.pref X.aas X.aid B8 m8 d8))
  have HFo := hide (hwF ▸ AtO.sets _ 0 HO.out hlt : AtO w1.heap.size wF (cutA X) (atV X.has X.org A8 n8 c8 X.hop X.med X.pref X.aas X.aid B8 m8 d8))
  have HFb := hide (hwF ▸ below_sets _ 0 HB7.out (by omega) : Below w.heap.size w wF)
  rw [hwF]
  clear hwF z0 z1 z2 z3 z4 z5 z6 z7 z8 zf a0 a1 a2 a3 a4 a5 a6 a7 a8
  obtain ⟨z0, z1, z2, z3, z4, z5, z6, z7, z8⟩ := blk9 HFk.out
  exact bodyPost_ret (v := atV X.has X.org A8 n8 c8 X.hop X.med X.pref X.aas X.aid B8 m8 d8) (by simp [results, Tryz.results11, go_sem, z0, z1, z2, z3, z4, z5, z6, z7, z8]) rfl ⟨_, rfl, HFo.out.less (b' := w.heap.size) (by omega), HFb.out⟩
end Go.Proofs.YtplhnhoijficgaaGreat
set_option linter.unusedSimpArgs false
set_option linter.unusedVariables false
namespace Go.Proofs.YtplhnhoijficgaaGreat
open Go.RowKit Go.WideShapes Go.ChangeShapes
attribute [local go_sem] Oper.semAt_some
/-- A piece whose numbers lie from Bq on. -/
def sgF (Bq : Nat) (w : World) (vs : List Value) (x : SG) : Prop := FrB Bq none (fun w => sgR w vs x) w
theorem sgF_here {Bq : Nat} {w : World} {vs : List Value} {x : SG} (h : sgF Bq w vs x) : sgR w vs x := FrB.here h
theorem lst_map {α : Type} {sz : Nat} {R S : World → List Value → α → Prop} {w : World} {A : Option Addr} {n c : Nat} {l : List α} (hi : ∀ vs x, R w vs x → S w vs x) (h : LstAt sz R w A n c l) : LstAt sz S w A n c l := by
  refine ⟨h.1, h.2.1, h.2.2.1, fun hn => ?_⟩
  obtain ⟨g, o, e, hg, hk⟩ := h.2.2.2 hn
  refine ⟨g, o, e, hg, fun k x hx => ?_⟩
  obtain ⟨vs, hl, hr, hc⟩ := hk k x hx
  exact ⟨vs, hl, hi vs x hr, hc⟩
theorem lst_of_F {Bq : Nat} {w : World} {A : Option Addr} {n c : Nat} {l : List SG} (h : LstAt 2 (sgF Bq) w A n c l) : LstAt 2 sgR w A n c l := lst_map (fun _ _ hr => sgF_here hr) h
theorem low_lstF {B Bq : Nat} {w : World} {A : Option Addr} {n c : Nat} {l : List SG} {xs : List Value} (h : LOw 2 59 sgR w B Bq A n c l xs) : LstAt 2 (sgF Bq) w A n c l :=
  LstAt.of_own (by decide) h.1 ⟨h.2.1, fun k x hx => FrB.none_ (h.2.2 k x hx)⟩
theorem low_litF (Bq : Nat) (w : World) : LOw 2 59 sgR (w.alloc (.cells #[] 59)) w.heap.size Bq (some ⟨w.heap.size, 0, none⟩) 0 0 [] [] :=
  ⟨w.ownsRow_lit #[] 0 (Nat.le_refl _) (by unfold maxLen; omega) rfl, by simp, fun k x hk => by simp at hk⟩
/-- What is told of blocks that lie says nothing of one that does not lie yet. -/
theorem fr_new {Bq : Nat} {R : World → Prop} {w wr : World} {ob : Option Nat} (h : FrB Bq none R w) (hb : Below w.heap.size w wr) (hob : ∀ k, ob = some k → w.heap.size ≤ k) : FrB Bq ob R wr := by
  intro w' ha
  refine h w' ⟨Nat.le_trans hb.size ha.1, fun k o hk ho hc _ => ?_⟩
  have hl := heap_lt ho
  exact ha.2 k o hk ((hb.block k hl).trans ho) hc (fun e => by have := hob k e.symm; omega)
theorem seg_srcF {Bq : Nat} {w : World} {A : Option Addr} {n c : Nat} {l : List SG} (h : LstAt 2 (sgF Bq) w A n c l) : ∃ ys : List Value, ∀ wr, Below w.heap.size w wr → ∀ v : Value, (∀ k, v.ownBlock = some k → w.heap.size ≤ k) →
    Reads wr wr.heap.size 2 A n ys ∧ Chunks 2 (fun w vs x => FrB Bq v.ownBlock (fun w => sgR w vs x) w) wr ys l ∧ ∀ u ∈ ys, u.oneCell' = true := by
  obtain ⟨ys, hr, hc⟩ := h.reads (by decide)
  have hc2 : Chunks 2 sgR w ys l := ⟨hc.1, fun k x hx => sgF_here (hc.2 k x hx)⟩
  refine ⟨ys, fun wr hb v hv => ⟨?_, ⟨hc.1, fun k x hx => fr_new (hc.2 k x hx) hb hv⟩, Chunks.ones sgOne hc2 (by decide)⟩⟩
  refine ⟨hr.1, fun hn => ?_⟩
  obtain ⟨ad, hA, hlt, hcell⟩ := hr.2 hn
  exact ⟨ad, hA, Nat.lt_of_lt_of_le hlt hb.size, fun j u hu => (hb.cell (by unfold Addr.add; split <;> exact hlt)).trans (hcell j u hu)⟩
def RefPF (Bq : Nat) (l : List SG) (w : World) (e : Ending) (w' : World) : Prop := ∃ A n c xs, e = .returned (.slice A n c) ∧ LOw 2 59 sgR w' w.heap.size Bq A n c l xs ∧ Below w.heap.size w w'
set_option maxRecDepth 100000 in
set_option maxHeartbeats 4000000 in
theorem refputF_any (Bq : Nat) (A : Option Addr) (n c x : Nat) (l : List SG) (w : World) (h : LstAt 2 (sgF Bq) w A n c l) (hBq : Bq ≤ w.heap.size) (hx : x < 4294967296) (hn : n ≤ 20000) :
    Calls Tryz.prog 36 #[.slice A n c, .int .u32 (x : Int)] w (RefPF Bq (putS l x) w) := by
  obtain ⟨i0, hi, hz0, hz1, hz2⟩ := info_parts segInfo
  obtain ⟨j0, hj, hy0, hy1, hy2⟩ := info_parts info32
  have hnc := h.2.1
  have hmx := h.2.2.1
  unfold maxLen at hmx
  have HLs := hide h
  -- behind: all of l, and a segment of its own
  have HL0 := hide (low_litF Bq w)
  have HB0 : Hid (Below w.heap.size w (w.alloc (.cells #[] 59))) := hide ((Below.refl _ w).alloc (Nat.le_refl _) _)
  have tailp : ∀ (hlast : ∀ y, l.getLast? = some y → ¬ (y.k = 2 ∧ y.r.length < 255)), putS l x = l ++ [⟨2, [x]⟩] := fun hlast => by
    unfold putS
    cases hl : l.getLast? with
    | none => rw [List.getLast?_eq_none_iff] at hl; subst hl; rfl
    | some y => simp only; rw [if_neg (hlast y hl)]
  by_cases h0 : n = 0
  · subst h0
    have HP : Hid (putS l x = l ++ [⟨2, [x]⟩]) := hide (tailp (by rw [List.eq_nil_of_length_eq_zero h.1]; intro y hy; simp at hy))
    obtain ⟨ys, hs⟩ := seg_srcF h
    obtain ⟨hr, hch, ho⟩ := hs _ HB0.out (.slice (some ⟨w.heap.size, 0, none⟩) 0 0) (fun k hk => by cases hk; exact Nat.le_refl _)
    have HRd := hide hr
    have HCh := hide hch
    have HOn := hide ho
    clear h tailp hr hch ho hs
    go_enter Tryz.func36, Tryz.ntmps36
    go_wp2_with (at_builtin; refine wpList_append_any _ rfl (.tmp 48) (.tmp 49) 37 rfl w.heap.size 59 i0 _ 2 32 Tryz.underlying37 hi hz0 hz1 hz2 rfl (by decide) (.slice (some ⟨w.heap.size, 0, none⟩) 0 0) 0 [] rfl HL0.out.1 _ A 0 c ys rfl HRd.out HOn.out (by unfold maxLen; omega) (by omega) (by simp) ?_; intro v' w7 g2 g3 g4; refine Hid.out (?_ : Hid _))
    obtain ⟨A7, c7, rfl, hlo7⟩ := LOw.push HL0.out HCh.out g2 g3 g4
    simp only [Nat.zero_add, List.nil_append] at hlo7
    have HL7 := hide hlo7
    have HB7 := hide (HB0.out.grown g3 (by simp) (fun k hk => by cases hk; exact Nat.le_refl _))
    have hs7 := HB7.out.size
    have HOb : Hid (∀ z, (Value.slice A7 0 c7).ownBlock = some z → z < w7.heap.size) := hide (own_block_lt hlo7.1)
    simp only [Nat.zero_add]
    clear g2 g3 g4 hlo7
    have hbc : Below w7.heap.size w7 ((w7.alloc (.cells #[.int .u32 (x : Int)] 22)).alloc (.cells #[.int .i64 2, .slice (some ⟨w7.heap.size, 0, none⟩) 1 1] 59)) := ((Below.refl _ w7).alloc (Nat.le_refl _) _).alloc (by simp) _
    have HLc := hide (HL7.out.below hbc)
    have HU : Hid (U32s ((w7.alloc (.cells #[.int .u32 (x : Int)] 22)).alloc (.cells #[.int .i64 2, .slice (some ⟨w7.heap.size, 0, none⟩) 1 1] 59)) (some ⟨w7.heap.size, 0, none⟩) 1 1 [x]) := hide ((u32_one hx).below ((Below.refl _ _).alloc (Nat.le_refl _) _))
    have HBk : Hid (Blk ((w7.alloc (.cells #[.int .u32 (x : Int)] 22)).alloc (.cells #[.int .i64 2, .slice (some ⟨w7.heap.size, 0, none⟩) 1 1] 59)) (w7.heap.size + 1) 59 #[.int .i64 2, .slice (some ⟨w7.heap.size, 0, none⟩) 1 1]) := hide (blk_new' _ _ (by simp))
    have HBc := hide (HB7.out.trans (hbc.mono hs7))
    have hsc : w7.heap.size + 2 = ((w7.alloc (.cells #[.int .u32 (x : Int)] 22)).alloc (.cells #[.int .i64 2, .slice (some ⟨w7.heap.size, 0, none⟩) 1 1] 59)).heap.size := by simp
    clear hbc
    refine hide ?_
    go_wp2_with (at_builtin; refine wpList_append_any _ rfl (.tmp 50) (.tmp 54) 37 rfl w.heap.size 59 i0 _ 2 32 Tryz.underlying37 hi hz0 hz1 hz2 rfl (by decide) (.slice A7 0 c7) 0 ys rfl HLc.out.1 _ (some ⟨w7.heap.size + 1, 0, none⟩) 1 1 [.int .i64 2, .slice (some ⟨w7.heap.size, 0, none⟩) 1 1] rfl (reads_blkN HBk.out HBk.out.lt rfl rfl) (by simp [Value.oneCell']) (by unfold maxLen; omega) (by omega) (by omega) ?_; intro v' w8 g2 g3 g4; obtain ⟨A8, c8, rfl, hlo8⟩ := LOw.push HLc.out (chunk1_fr rfl (sg_fr' HU.out (fun _ a ha => by cases ha; exact ⟨by simp only; omega, fun e => by have := HOb.out _ e.symm; simp at this⟩))) g2 g3 g4; have HL8 := hide hlo8; have HB8 := hide (HBc.out.grown g3 (by omega) (fun k hk => own_low_block HL7.out.1 k hk)); clear hlo8 g2 g3 g4)
    go_ret
    exact ⟨A8, 0 + 1, c8, _, rfl, by rw [HP.out]; exact HL8.out, HB8.out⟩
  · obtain ⟨k, rfl⟩ : ∃ k, n = k + 1 := ⟨n - 1, by omega⟩
    obtain ⟨g, o, b, B, m, d, r, rfl, hg, hxl, hr0, hc0, hc1⟩ := SGat (lst_of_F h) (k := k) (by omega)
    have hll : l.getLast? = some ⟨b, r⟩ := by rw [List.getLast?_eq_getElem?, h.1]; simpa using hxl
    have hrl : r.length = m := hr0.1
    have hwk : IntKind.i64.wrap (k : Int) = (k : Int) := by rw [IntKind.wrap_i64]; omega
    have hwk1 : IntKind.i64.wrap ((k : Int) + 1 - 1) = (k : Int) := by rw [IntKind.wrap_i64]; omega
    have hk0 : decide (0 ≤ (k : Int)) = true := decide_eq_true (by omega)
    have hkk : (k : Int) < ((k + 1 : Nat) : Int) := by omega
    by_cases hb : b = 2
    · subst hb
      by_cases hm : m < 255
      · have dm : decide ((m : Int) < 255) = true := decide_eq_true (by omega)
        have HP : Hid (putS l x = l.take k ++ [⟨2, r ++ [x]⟩]) := hide (by
          unfold putS
          rw [hll]
          simp only
          rw [if_pos (by first | exact ⟨trivial, by omega⟩ | exact ⟨rfl, by omega⟩)]
          congr 1
          rw [List.dropLast_eq_take, h.1]
          rfl)
        obtain ⟨ys, hs⟩ := seg_srcF (h.take_ (m := k) (by omega))
        obtain ⟨hr, hch, ho⟩ := hs _ HB0.out (.slice (some ⟨w.heap.size, 0, none⟩) 0 0) (fun k hk => by cases hk; exact Nat.le_refl _)
        have HRd := hide hr
        have HCh := hide hch
        have HOn := hide ho
        clear h tailp hr hch ho hs hll hxl
        go_enter Tryz.func36, Tryz.ntmps36
        go_wp2_with (at_builtin; refine wpList_append_any _ rfl (.tmp 29) (.tmp 32) 37 rfl w.heap.size 59 i0 _ 2 32 Tryz.underlying37 hi hz0 hz1 hz2 rfl (by decide) (.slice (some ⟨w.heap.size, 0, none⟩) 0 0) 0 [] rfl HL0.out.1 _ (some ⟨g, o, none⟩) k c ys rfl HRd.out HOn.out (by unfold maxLen; omega) (by omega) (by simp) ?_; intro v' w7 g2 g3 g4; refine Hid.out (?_ : Hid _))
        obtain ⟨A7, c7, rfl, hlo7⟩ := LOw.push HL0.out HCh.out g2 g3 g4
        simp only [Nat.zero_add, List.nil_append] at hlo7
        have HL7 := hide hlo7
        have HB7 := hide (HB0.out.grown g3 (by simp) (fun k hk => by cases hk; exact Nat.le_refl _))
        have hs7 := HB7.out.size
        have HOb : Hid (∀ z, (Value.slice A7 k c7).ownBlock = some z → z < w7.heap.size) := hide (own_block_lt hlo7.1)
        simp only [Nat.zero_add]
        clear g2 g3 g4 hlo7
        have HU0 : Hid (U32s (w7.alloc (.cells #[] 22)) B m d r) := hide ((hr0.below HB7.out).below ((Below.refl _ _).alloc (Nat.le_refl _) _))
        have HO0 : Hid ((w7.alloc (.cells #[] 22)).ownsRow w7.heap.size 22 1 (.slice (some ⟨w7.heap.size, 0, none⟩) 0 0) 0 []) := hide (w7.ownsRow_lit #[] 0 (Nat.le_refl _) (by unfold maxLen; omega) rfl)
        have HB1 : Hid (Below w7.heap.size w7 (w7.alloc (.cells #[] 22))) := hide ((Below.refl _ w7).alloc (Nat.le_refl _) _)
        have k0' : w7.cell? ⟨g, o + k * 2 + 1, none⟩ = some (.slice B m d) := (HB7.out.cell hg).trans hc1
        have hg7 : g < w7.heap.size := by omega
        refine hide ?_
        go_wp2_with (at_builtin; refine wpList_append_any _ rfl (.tmp 35) (.tmp 40) 38 rfl w7.heap.size 22 j0 _ 1 4 Tryz.underlying38 hj hy0 hy1 hy2 rfl (by decide) (.slice (some ⟨w7.heap.size, 0, none⟩) 0 0) 0 [] rfl HO0.out _ B m d (u32c r) rfl HU0.out.reads (u32c_one _) (by unfold maxLen; omega) (by omega) (by simp) ?_; intro v' w8 g2 g3 g4; refine Hid.out (?_ : Hid _))
        simp only [Nat.zero_add, List.nil_append] at g2
        obtain ⟨A9, c9, rfl⟩ := own_slice g2
        have HO9 := hide g2
        have HB8 := hide (HB1.out.grown g3 (by simp) (fun k hk => by cases hk; exact Nat.le_refl _))
        have hs8 := HB8.out.size
        have HB2 : Hid (Below w7.heap.size w7 (w8.alloc (.cells #[.int .u32 (x : Int)] 22))) := hide (HB8.out.alloc hs8 _)
        have HO10 : Hid ((w8.alloc (.cells #[.int .u32 (x : Int)] 22)).ownsRow w7.heap.size 22 1 (.slice A9 m c9) m (u32c r)) := hide (g2.alloc _)
        have HX : Hid (U32s (w8.alloc (.cells #[.int .u32 (x : Int)] 22)) (some ⟨w8.heap.size, 0, none⟩) 1 1 [x]) := hide (u32_one hx)
        have hsw2 : (w8.alloc (.cells #[.int .u32 (x : Int)] 22)).heap.size = w8.heap.size + 1 := by simp
        clear g2 g3 g4
        refine hide ?_
        go_wp2_with (at_builtin; refine wpList_append_any _ rfl (.tmp 41) (.tmp 43) 38 rfl w7.heap.size 22 j0 _ 1 4 Tryz.underlying38 hj hy0 hy1 hy2 rfl (by decide) (.slice A9 m c9) m (u32c r) rfl HO10.out _ (some ⟨w8.heap.size, 0, none⟩) 1 1 (u32c [x]) rfl HX.out.reads (u32c_one _) (by unfold maxLen; omega) (by omega) (by omega) ?_; intro v' w9 g2 g3 g4; refine Hid.out (?_ : Hid _))
        rw [← u32c_app] at g2
        obtain ⟨A10, c10, rfl⟩ := own_slice g2
        have HB9 := hide (HB2.out.grown g3 (by omega) (fun k hk => own_low_block HO10.out k hk))
        have hs9 := HB9.out.size
        have HU3 : Hid (U32s (w9.alloc (.cells #[.int .i64 2, .slice A10 (m + 1) c10] 59)) A10 (m + 1) c10 (r ++ [x])) := hide ((U32s.of_own g2 (fun y hy => by rcases List.mem_append.1 hy with hy | hy; exact hr0.2.2.2.1 y hy; rw [List.mem_singleton.1 hy]; exact hx)).below ((Below.refl _ _).alloc (Nat.le_refl _) _))
        have HLow : Hid (∀ a, A10 = some a → w7.heap.size ≤ a.block) := hide (fun a ha => own_low_block g2 a.block (by rw [ha]; rfl))
        have HB3 := hide (HB9.out.alloc hs9 (.cells #[.int .i64 2, .slice A10 (m + 1) c10] 59))
        have HLc := hide (HL7.out.below HB3.out)
        have HBk : Hid (Blk (w9.alloc (.cells #[.int .i64 2, .slice A10 (m + 1) c10] 59)) w9.heap.size 59 #[.int .i64 2, .slice A10 (m + 1) c10]) := hide (Blk.new w9 _ _)
        have HBc := hide (HB7.out.trans (HB3.out.mono hs7))
        have hsw3 : (w9.alloc (.cells #[.int .i64 2, .slice A10 (m + 1) c10] 59)).heap.size = w9.heap.size + 1 := by simp
        clear g2 g3 g4
        refine hide ?_
        go_wp2_with (at_builtin; refine wpList_append_any _ rfl (.tmp 34) (.tmp 46) 37 rfl w.heap.size 59 i0 _ 2 32 Tryz.underlying37 hi hz0 hz1 hz2 rfl (by decide) (.slice A7 k c7) k ys rfl HLc.out.1 _ (some ⟨w9.heap.size, 0, none⟩) 1 1 [.int .i64 2, .slice A10 (m + 1) c10] rfl (reads_blkN HBk.out HBk.out.lt rfl rfl) (by simp [Value.oneCell']) (by unfold maxLen; omega) (by omega) (by omega) ?_; intro v' w11 g2 g3 g4; obtain ⟨A8, c8, rfl, hlo8⟩ := LOw.push HLc.out (chunk1_fr rfl (sg_fr' HU3.out (fun _ a ha => ⟨by have := HLow.out a ha; omega, fun e => by have := HOb.out _ e.symm; have := HLow.out a ha; omega⟩))) g2 g3 g4; have HL8 := hide hlo8; have HB12 := hide (HBc.out.grown g3 (by omega) (fun k hk => own_low_block HL7.out.1 k hk)); clear hlo8 g2 g3 g4)
        go_ret
        exact ⟨A8, k + 1, c8, _, rfl, by rw [HP.out]; exact HL8.out, HB12.out⟩
      · have dm : decide ((m : Int) < 255) = false := decide_eq_false (by omega)
        have HP : Hid (putS l x = l ++ [⟨2, [x]⟩]) := hide (tailp (by rw [hll]; intro y hy; cases hy; simp only; omega))
        obtain ⟨ys, hs⟩ := seg_srcF h
        obtain ⟨hr, hch, ho⟩ := hs _ HB0.out (.slice (some ⟨w.heap.size, 0, none⟩) 0 0) (fun k hk => by cases hk; exact Nat.le_refl _)
        have HRd := hide hr
        have HCh := hide hch
        have HOn := hide ho
        clear h tailp hr hch ho hs hll hxl
        go_enter Tryz.func36, Tryz.ntmps36
        go_wp2_with (at_builtin; refine wpList_append_any _ rfl (.tmp 48) (.tmp 49) 37 rfl w.heap.size 59 i0 _ 2 32 Tryz.underlying37 hi hz0 hz1 hz2 rfl (by decide) (.slice (some ⟨w.heap.size, 0, none⟩) 0 0) 0 [] rfl HL0.out.1 _ (some ⟨g, o, none⟩) (k + 1) c ys rfl HRd.out HOn.out (by unfold maxLen; omega) (by omega) (by simp) ?_; intro v' w7 g2 g3 g4; refine Hid.out (?_ : Hid _))
        obtain ⟨A7, c7, rfl, hlo7⟩ := LOw.push HL0.out HCh.out g2 g3 g4
        simp only [Nat.zero_add, List.nil_append] at hlo7
        have HL7 := hide hlo7
        have HB7 := hide (HB0.out.grown g3 (by simp) (fun k hk => by cases hk; exact Nat.le_refl _))
        have hs7 := HB7.out.size
        have HOb : Hid (∀ z, (Value.slice A7 (k + 1) c7).ownBlock = some z → z < w7.heap.size) := hide (own_block_lt hlo7.1)
        simp only [Nat.zero_add]
        clear g2 g3 g4 hlo7
        have hbc : Below w7.heap.size w7 ((w7.alloc (.cells #[.int .u32 (x : Int)] 22)).alloc (.cells #[.int .i64 2, .slice (some ⟨w7.heap.size, 0, none⟩) 1 1] 59)) := ((Below.refl _ w7).alloc (Nat.le_refl _) _).alloc (by simp) _
        have HLc := hide (HL7.out.below hbc)
        have HU : Hid (U32s ((w7.alloc (.cells #[.int .u32 (x : Int)] 22)).alloc (.cells #[.int .i64 2, .slice (some ⟨w7.heap.size, 0, none⟩) 1 1] 59)) (some ⟨w7.heap.size, 0, none⟩) 1 1 [x]) := hide ((u32_one hx).below ((Below.refl _ _).alloc (Nat.le_refl _) _))
        have HBk : Hid (Blk ((w7.alloc (.cells #[.int .u32 (x : Int)] 22)).alloc (.cells #[.int .i64 2, .slice (some ⟨w7.heap.size, 0, none⟩) 1 1] 59)) (w7.heap.size + 1) 59 #[.int .i64 2, .slice (some ⟨w7.heap.size, 0, none⟩) 1 1]) := hide (blk_new' _ _ (by simp))
        have HBc := hide (HB7.out.trans (hbc.mono hs7))
        have hsc : w7.heap.size + 2 = ((w7.alloc (.cells #[.int .u32 (x : Int)] 22)).alloc (.cells #[.int .i64 2, .slice (some ⟨w7.heap.size, 0, none⟩) 1 1] 59)).heap.size := by simp
        clear hbc
        refine hide ?_
        go_wp2_with (at_builtin; refine wpList_append_any _ rfl (.tmp 50) (.tmp 54) 37 rfl w.heap.size 59 i0 _ 2 32 Tryz.underlying37 hi hz0 hz1 hz2 rfl (by decide) (.slice A7 (k + 1) c7) (k + 1) ys rfl HLc.out.1 _ (some ⟨w7.heap.size + 1, 0, none⟩) 1 1 [.int .i64 2, .slice (some ⟨w7.heap.size, 0, none⟩) 1 1] rfl (reads_blkN HBk.out HBk.out.lt rfl rfl) (by simp [Value.oneCell']) (by unfold maxLen; omega) (by omega) (by omega) ?_; intro v' w8 g2 g3 g4; obtain ⟨A8, c8, rfl, hlo8⟩ := LOw.push HLc.out (chunk1_fr rfl (sg_fr' HU.out (fun _ a ha => by cases ha; exact ⟨by simp only; omega, fun e => by have := HOb.out _ e.symm; simp at this⟩))) g2 g3 g4; have HL8 := hide hlo8; have HB8 := hide (HBc.out.grown g3 (by omega) (fun k hk => own_low_block HL7.out.1 k hk)); clear hlo8 g2 g3 g4)
        go_ret
        exact ⟨A8, (k + 1) + 1, c8, _, rfl, by rw [HP.out]; exact HL8.out, HB8.out⟩
    · have e2 : (b == 2) = false := by simpa using hb
      have HP : Hid (putS l x = l ++ [⟨2, [x]⟩]) := hide (tailp (by rw [hll]; intro y hy; cases hy; simp only; exact fun h2 => hb h2.1))
      obtain ⟨ys, hs⟩ := seg_srcF h
      obtain ⟨hr, hch, ho⟩ := hs _ HB0.out (.slice (some ⟨w.heap.size, 0, none⟩) 0 0) (fun k hk => by cases hk; exact Nat.le_refl _)
      have HRd := hide hr
      have HCh := hide hch
      have HOn := hide ho
      clear h tailp hr hch ho hs hll hxl hb
      go_enter Tryz.func36, Tryz.ntmps36
      go_wp2_with (at_builtin; refine wpList_append_any _ rfl (.tmp 48) (.tmp 49) 37 rfl w.heap.size 59 i0 _ 2 32 Tryz.underlying37 hi hz0 hz1 hz2 rfl (by decide) (.slice (some ⟨w.heap.size, 0, none⟩) 0 0) 0 [] rfl HL0.out.1 _ (some ⟨g, o, none⟩) (k + 1) c ys rfl HRd.out HOn.out (by unfold maxLen; omega) (by omega) (by simp) ?_; intro v' w7 g2 g3 g4; refine Hid.out (?_ : Hid _))
      obtain ⟨A7, c7, rfl, hlo7⟩ := LOw.push HL0.out HCh.out g2 g3 g4
      simp only [Nat.zero_add, List.nil_append] at hlo7
      have HL7 := hide hlo7
      have HB7 := hide (HB0.out.grown g3 (by simp) (fun k hk => by cases hk; exact Nat.le_refl _))
      have hs7 := HB7.out.size
      have HOb : Hid (∀ z, (Value.slice A7 (k + 1) c7).ownBlock = some z → z < w7.heap.size) := hide (own_block_lt hlo7.1)
      simp only [Nat.zero_add]
      clear g2 g3 g4 hlo7
      have hbc : Below w7.heap.size w7 ((w7.alloc (.cells #[.int .u32 (x : Int)] 22)).alloc (.cells #[.int .i64 2, .slice (some ⟨w7.heap.size, 0, none⟩) 1 1] 59)) := ((Below.refl _ w7).alloc (Nat.le_refl _) _).alloc (by simp) _
      have HLc := hide (HL7.out.below hbc)
      have HU : Hid (U32s ((w7.alloc (.cells #[.int .u32 (x : Int)] 22)).alloc (.cells #[.int .i64 2, .slice (some ⟨w7.heap.size, 0, none⟩) 1 1] 59)) (some ⟨w7.heap.size, 0, none⟩) 1 1 [x]) := hide ((u32_one hx).below ((Below.refl _ _).alloc (Nat.le_refl _) _))
      have HBk : Hid (Blk ((w7.alloc (.cells #[.int .u32 (x : Int)] 22)).alloc (.cells #[.int .i64 2, .slice (some ⟨w7.heap.size, 0, none⟩) 1 1] 59)) (w7.heap.size + 1) 59 #[.int .i64 2, .slice (some ⟨w7.heap.size, 0, none⟩) 1 1]) := hide (blk_new' _ _ (by simp))
      have HBc := hide (HB7.out.trans (hbc.mono hs7))
      have hsc : w7.heap.size + 2 = ((w7.alloc (.cells #[.int .u32 (x : Int)] 22)).alloc (.cells #[.int .i64 2, .slice (some ⟨w7.heap.size, 0, none⟩) 1 1] 59)).heap.size := by simp
      clear hbc
      refine hide ?_
      go_wp2_with (at_builtin; refine wpList_append_any _ rfl (.tmp 50) (.tmp 54) 37 rfl w.heap.size 59 i0 _ 2 32 Tryz.underlying37 hi hz0 hz1 hz2 rfl (by decide) (.slice A7 (k + 1) c7) (k + 1) ys rfl HLc.out.1 _ (some ⟨w7.heap.size + 1, 0, none⟩) 1 1 [.int .i64 2, .slice (some ⟨w7.heap.size, 0, none⟩) 1 1] rfl (reads_blkN HBk.out HBk.out.lt rfl rfl) (by simp [Value.oneCell']) (by unfold maxLen; omega) (by omega) (by omega) ?_; intro v' w8 g2 g3 g4; obtain ⟨A8, c8, rfl, hlo8⟩ := LOw.push HLc.out (chunk1_fr rfl (sg_fr' HU.out (fun _ a ha => by cases ha; exact ⟨by simp only; omega, fun e => by have := HOb.out _ e.symm; simp at this⟩))) g2 g3 g4; have HL8 := hide hlo8; have HB8 := hide (HBc.out.grown g3 (by omega) (fun k hk => own_low_block HL7.out.1 k hk)); clear hlo8 g2 g3 g4)
      go_ret
      exact ⟨A8, (k + 1) + 1, c8, _, rfl, by rw [HP.out]; exact HL8.out, HB8.out⟩
set_option maxRecDepth 100000 in
set_option maxHeartbeats 8000000 in
theorem refnormF_any (A : Option Addr) (n c : Nat) (l : List SG) (w : World) (h : LstAt 2 sgR w A n c l) (hn : numS l ≤ 10000) (hn2 : n ≤ 100000) :
    Calls Tryz.prog 34 #[.slice A n c] w (RefPF w.heap.size (normS l) w) := by
  have hln := h.1
  have hnc := h.2.1
  have hmx := h.2.2.1
  unfold maxLen at hmx
  obtain ⟨i0, hi, hz0, hz1, hz2⟩ := info_parts segInfo
  have HLs := hide h
  have HL0 := hide (low_litF w.heap.size w)
  have HB0 : Hid (Below w.heap.size w (w.alloc (.cells #[] 59))) := hide ((Below.refl _ w).alloc (Nat.le_refl _) _)
  clear h
  go_enter Tryz.func34, Tryz.ntmps34
  go_wp2
  go_loopw [3, 4] (fun vo iv wr => ∃ (q : Nat) (A1 : Option Addr) (n1 c1 : Nat) (xs : List Value), q ≤ n ∧ iv = .int .i64 (q : Nat) ∧ vo = .slice A1 n1 c1 ∧ LOw 2 59 sgR wr w.heap.size w.heap.size A1 n1 c1 (normS (l.take q)) xs ∧ Below w.heap.size w wr) (fun _ iv _ => n - (intOf iv).toNat)
  case atStart => exact ⟨0, some ⟨w.heap.size, 0, none⟩, 0, 0, [], Nat.zero_le _, rfl, rfl, HL0.out, HB0.out⟩
  case round =>
    obtain ⟨q, A1, n1, c1, xs, hq, rfl, rfl, hlo, hbel⟩ := hrel
    obtain ⟨w1, rfl⟩ : ∃ w1, w1 = wr := ⟨wr, rfl⟩
    have HLo := hide hlo
    have HBe := hide hbel
    have hs1 := hbel.size
    by_cases hlt : q < n
    · obtain ⟨g, o, b, B, m, d, r, rfl, hg, hx, hr, hc0, hc1⟩ := SGat HLs.out hlt
      have k0 : w1.cell? ⟨g, o + q * 2, none⟩ = some (.int .i64 b) := (hbel.cell hg).trans hc0
      have k1 : w1.cell? ⟨g, o + q * 2 + 1, none⟩ = some (.slice B m d) := (hbel.cell hg).trans hc1
      have HStep := hide (normS_snoc l q _ hx)
      have hsn := numS_snoc l q _ hx
      simp only at hsn
      have htk1 := numS_take_le l (q + 1)
      have hnl := normS_len (l.take q)
      have hn1 := (hlo.lst (by decide)).1
      have hrl : r.length = m := hr.1
      have q1 : (q : Int) < (n : Int) := by omega
      have q0 : (0 : Int) ≤ (q : Int) := by omega
      have hwq : IntKind.i64.wrap ((q : Int) + 1) = (q : Int) + 1 := by rw [IntKind.wrap_i64]; omega
      have HUr : Hid (∀ W : World, Below w.heap.size w W → U32s W B m d r) := hide (fun W hb => hr.below hb)
      have HK0 := hide hc0
      have HK1 := hide hc1
      clear hlo hbel hx hr hc0 hc1
      by_cases h2 : b = 2
      · subst h2
        have HE : Hid (normS (l.take (q + 1)) = r.foldl putS (normS (l.take q))) := hide (HStep.out.trans (by unfold stepS; rw [if_pos rfl]))
        go_wp2
        go_loopw [3, 5] (fun vo kv wr => ∃ (j : Nat) (A2 : Option Addr) (n2 c2 : Nat) (xs2 : List Value), j ≤ m ∧ kv = .int .i64 (j : Nat) ∧ vo = .slice A2 n2 c2 ∧ LOw 2 59 sgR wr w.heap.size w.heap.size A2 n2 c2 ((r.take j).foldl putS (normS (l.take q))) xs2 ∧ Below w.heap.size w wr) (fun _ kv _ => m - (intOf kv).toNat)
        case atStart => exact ⟨0, A1, n1, c1, xs, Nat.zero_le _, rfl, rfl, HLo.out, HBe.out⟩
        case round =>
          obtain ⟨j, A2, n2, c2, xs2, hj, rfl, rfl, hlo2, hbel2⟩ := hrel
          have HLo2 := hide hlo2
          have HBe2 := hide hbel2
          have hs2 := hbel2.size
          have k0 : wr.cell? ⟨g, o + q * 2, none⟩ = some (.int .i64 2) := (hbel2.cell hg).trans HK0.out
          have k1 : wr.cell? ⟨g, o + q * 2 + 1, none⟩ = some (.slice B m d) := (hbel2.cell hg).trans HK1.out
          by_cases hjm : j < m
          · obtain ⟨g2, o2, y, hB, hg2, hy, hy2, hc2⟩ := (HUr.out wr hbel2).at_ hjm
            subst hB
            have HF := hide (foldS_snoc (normS (l.take q)) r j y hy)
            have hn2' := (hlo2.lst (by decide)).1
            have hfl := putS_foldlen (r.take j) (normS (l.take q))
            rw [List.length_take] at hfl
            have HPu := hide (refputF_any w.heap.size A2 n2 c2 y _ wr (low_lstF hlo2) hs2 hy2 (by omega))
            have j1 : (j : Int) < (m : Int) := by omega
            have j0 : (0 : Int) ≤ (j : Int) := by omega
            have hwj : IntKind.i64.wrap ((j : Int) + 1) = (j : Int) + 1 := by rw [IntKind.wrap_i64]; omega
            clear hlo2 hbel2 hy hn2' hfl
            go_wp2_with fail
            refine HPu.out.mono ?_
            intro e w5 hmv
            unfold RefPF at hmv
            obtain ⟨A6, n6, c6, xs6, rfl, hl6, hb6⟩ := hmv
            have HL6 := hide (hl6.less hs2 (Nat.le_refl _))
            have HB6 := hide (HBe2.out.trans (hb6.mono hs2))
            clear hl6 hb6 k0 k1 hc2
            go_wp2
            go_roundw
            case rel => exact ⟨j + 1, A6, n6, c6, xs6, by omega, by go_num, rfl, by rw [HF.out]; exact HL6.out, HB6.out⟩
            case measure => simp [intOf]; omega
          · obtain rfl : j = m := by omega
            have HL6 : Hid (LOw 2 59 sgR wr w.heap.size w.heap.size A2 n2 c2 (normS (l.take (q + 1))) xs2) := hide (by rw [HE.out]; rw [show r.take j = r from List.take_of_length_le (by omega)] at hlo2; exact hlo2)
            clear hlo2 hbel2 hjm
            go_wp2
            go_roundw
            case rel => exact ⟨q + 1, A2, n2, c2, xs2, by omega, by go_num, rfl, HL6.out, HBe2.out⟩
            case measure => simp [intOf]; omega
      · have e2 : (b == 2) = false := by simpa using h2
        by_cases h1 : b = 1 ∧ 0 < m
        · obtain ⟨rfl, hm0⟩ := h1
          have hm1 : decide (0 < (m : Int)) = true := decide_eq_true (by omega)
          have hm2 : decide (0 < m) = true := decide_eq_true hm0
          have hrne : r ≠ [] := by intro e; rw [e] at hrl; simp at hrl; omega
          have HE : Hid (normS (l.take (q + 1)) = normS (l.take q) ++ [⟨1, setOf r⟩]) := hide (HStep.out.trans (stepS_set _ _ hrne))
          have HSe := hide (refSetB_any B m d r w1 (HUr.out w1 HBe.out) (by omega))
          have hsl : (setOf r).length ≤ m := by rw [← hrl]; exact setOf_len _
          have HOb : Hid (∀ z, (Value.slice A1 n1 c1).ownBlock = some z → z < w1.heap.size) := hide (own_block_lt HLo.out.1)
          clear hrne h2
          go_wp2_with fail
          refine HSe.out.mono ?_
          rintro e w5 ⟨g5, o5, n5, c5, rfl, hu5, hb5, hg5⟩
          have hbx : Below w5.heap.size w5 (w5.alloc (.cells #[.int .i64 1, .slice (some ⟨g5, o5, none⟩) n5 c5] 59)) := (Below.refl _ w5).alloc (Nat.le_refl _) _
          have HLc := hide ((HLo.out.below hb5).below hbx)
          have HU5 := hide (hu5.below hbx)
          have HBk : Hid (Blk (w5.alloc (.cells #[.int .i64 1, .slice (some ⟨g5, o5, none⟩) n5 c5] 59)) w5.heap.size 59 #[.int .i64 1, .slice (some ⟨g5, o5, none⟩) n5 c5]) := hide (Blk.new w5 _ _)
          have HBc := hide (HBe.out.trans ((hb5.mono hs1).trans (hbx.mono (Nat.le_trans hs1 hb5.size))))
          have hs5 := hb5.size
          have hsx : (w5.alloc (.cells #[.int .i64 1, .slice (some ⟨g5, o5, none⟩) n5 c5] 59)).heap.size = w5.heap.size + 1 := by simp
          clear hu5 hb5 hbx k0 k1
          go_wp2_with (at_builtin; refine wpList_append_any _ rfl (.tmp 54) (.tmp 62) 37 rfl w.heap.size 59 i0 _ 2 32 Tryz.underlying37 hi hz0 hz1 hz2 rfl (by decide) (.slice A1 n1 c1) n1 xs rfl HLc.out.1 _ (some ⟨w5.heap.size, 0, none⟩) 1 1 [.int .i64 1, .slice (some ⟨g5, o5, none⟩) n5 c5] rfl (reads_blkN HBk.out HBk.out.lt rfl rfl) (by simp [Value.oneCell']) (by unfold maxLen; omega) (by omega) (by omega) ?_; intro v' w8 g2 g3 g4; obtain ⟨A8, c8, rfl, hlo8⟩ := LOw.push HLc.out (chunk1_fr rfl (sg_fr' HU5.out (fun _ a ha => by cases ha; exact ⟨by simp only; omega, fun e => by have h9 : g5 < w1.heap.size := HOb.out _ e.symm; omega⟩))) g2 g3 g4; have HL8 := hide hlo8; have HB8 := hide (HBc.out.grown g3 (by omega) (fun k hk => own_low_block HLo.out.1 k hk)); clear hlo8 g2 g3 g4)
          go_roundw
          case rel => exact ⟨q + 1, A8, n1 + 1, c8, _, by omega, by go_num, rfl, by rw [HE.out]; exact HL8.out, HB8.out⟩
          case measure => simp [intOf]; omega
        · have HE : Hid (normS (l.take (q + 1)) = normS (l.take q)) := hide (HStep.out.trans (stepS_none _ _ h2 (by
            by_cases hb : b = 1
            · right
              exact List.eq_nil_of_length_eq_zero (by simp only; rw [hrl]; exact Nat.eq_zero_of_not_pos (fun hh => h1 ⟨hb, hh⟩))
            · exact .inl hb)))
          by_cases h3 : b = 1
          · subst h3
            have hm1 : decide (0 < (m : Int)) = false := decide_eq_false (fun hh => h1 ⟨rfl, by omega⟩)
            have hm2 : decide (0 < m) = false := decide_eq_false (fun hh => h1 ⟨rfl, hh⟩)
            clear h1 h2
            go_wp2
            go_roundw
            case rel => exact ⟨q + 1, A1, n1, c1, xs, by omega, by go_num, rfl, by rw [HE.out]; exact HLo.out, HBe.out⟩
            case measure => simp [intOf]; omega
          · have e1 : (b == 1) = false := by simpa using h3
            clear h1 h2 h3
            go_wp2
            go_roundw
            case rel => exact ⟨q + 1, A1, n1, c1, xs, by omega, by go_num, rfl, by rw [HE.out]; exact HLo.out, HBe.out⟩
            case measure => simp [intOf]; omega
    · obtain rfl : q = n := by omega
      have HL6 : Hid (LOw 2 59 sgR w1 w.heap.size w.heap.size A1 n1 c1 (normS l) xs) := hide (by rw [show l.take q = l from List.take_of_length_le (by omega)] at hlo; exact hlo)
      clear hlo hbel hlt
      go_wp2
      go_ret
      exact ⟨A1, n1, c1, xs, rfl, HL6.out, HBe.out⟩
set_option maxRecDepth 100000 in
set_option maxHeartbeats 8000000 in
theorem refprepF_any (A : Option Addr) (n c v : Nat) (t : Int) (l : List SG) (w : World) (h : LstAt 2 sgR w A n c l) (hv : v < 4294967296) (hn : numS l ≤ 9000) (hn2 : n ≤ 10000) :
    Calls Tryz.prog 25 #[.slice A n c, .int .u32 (v : Int), .int .i64 t] w (RefPF w.heap.size (normS (chunkS (List.replicate (timesN t) v) ++ l)) w) := by
  obtain ⟨i0_, hi, hz0, hz1, hz2⟩ := info_parts segInfo
  obtain ⟨ys, hs⟩ := seg_src h
  have HSr := hide hs
  have HL0 := hide (low_lit w)
  have HB0 : Hid (Below w.heap.size w (w.alloc (.cells #[] 59))) := hide ((Below.refl _ w).alloc (Nat.le_refl _) _)
  have hT := timesN_le t
  by_cases ht : 255 < t
  · have hTe : timesN t = 255 := by unfold timesN; omega
    obtain ⟨T, hTT⟩ : ∃ T, timesN t = T := ⟨_, rfl⟩
    rw [hTT] at hT hTe ⊢
    have e1 : decide (255 < t) = true := decide_eq_true ht
    clear h hs hTT
    go_enter Tryz.func25, Tryz.ntmps25
    go_wp2
    go_loopw [7, 8] (fun vo iv wr => ∃ (i : Nat) (A1 : Option Addr) (n1 c1 : Nat) (xs : List Value), i ≤ T ∧ iv = .int .i64 (i : Nat) ∧ vo = .slice A1 n1 c1 ∧ LOw 2 59 sgR wr w.heap.size 0 A1 n1 c1 (chunkS (List.replicate i v)) xs ∧ Below w.heap.size w wr) (fun _ iv _ => T - (intOf iv).toNat)
    case atStart => exact ⟨0, some ⟨w.heap.size, 0, none⟩, 0, 0, [], Nat.zero_le _, rfl, rfl, HL0.out, HB0.out⟩
    case round =>
      obtain ⟨i, A1, n1, c1, xs, hi2, rfl, rfl, hlo, hbel⟩ := hrel
      have HLo := hide hlo
      have HBe := hide hbel
      have hs1 := hbel.size
      have hn1 := (hlo.lst (by decide)).1
      have hcl := chunkS_len (List.replicate i v)
      rw [List.length_replicate] at hcl
      have i0 : (0 : Int) ≤ (i : Int) := by omega
      have hwi : IntKind.i64.wrap ((i : Int) + 1) = (i : Int) + 1 := by rw [IntKind.wrap_i64]; omega
      by_cases hlt : i < T
      · have i1 : (i : Int) < 255 := by omega
        have HPu := hide (refputS_any A1 n1 c1 v _ wr (hlo.lst (by decide)) hv (by omega))
        have HF : Hid (putS (chunkS (List.replicate i v)) v = chunkS (List.replicate (i + 1) v)) := hide (by rw [List.replicate_succ']; unfold chunkS; rw [List.foldl_append]; rfl)
        clear hlo hbel
        go_wp2_with fail
        refine HPu.out.mono ?_
        intro e w5 hmv
        unfold RefP at hmv
        obtain ⟨A6, n6, c6, xs6, rfl, hl6, hb6⟩ := hmv
        rw [HF.out] at hl6
        have HL6 := hide (hl6.less hs1 (Nat.le_refl _))
        have HB6 := hide (HBe.out.trans (hb6.mono hs1))
        clear hl6 hb6
        go_wp2
        go_roundw
        case rel => exact ⟨i + 1, A6, n6, c6, xs6, by omega, by go_num, rfl, HL6.out, HB6.out⟩
        case measure => simp [intOf]; omega
      · obtain rfl : i = T := by omega
        have i1 : decide ((i : Int) < 255) = false := decide_eq_false (by omega)
        obtain ⟨hr, hch, ho⟩ := HSr.out wr hbel (.slice A1 n1 c1) (own_low_block hlo.1)
        have HRd := hide hr
        have HCh := hide hch
        have HOn := hide ho
        clear hlo hbel hlt hr hch ho
        go_wp2_with (at_builtin; refine wpList_append_any _ rfl (.tmp 20) (.tmp 21) 37 rfl w.heap.size 59 i0_ _ 2 32 Tryz.underlying37 hi hz0 hz1 hz2 rfl (by decide) (.slice A1 n1 c1) n1 xs rfl HLo.out.1 _ A n c ys rfl HRd.out HOn.out (by unfold maxLen; omega) (by omega) (by omega) ?_; intro v' w7 g2 g3 g4; refine Hid.out (?_ : Hid _))
        obtain ⟨A7, c7, rfl, hlo7⟩ := LOw.push HLo.out HCh.out g2 g3 g4
        have HB7 := hide (HBe.out.grown g3 hs1 (fun k hk => own_low_block HLo.out.1 k hk))
        have hs7 := HB7.out.size
        have HNo := hide (refnormF_any A7 (n1 + n) c7 (chunkS (List.replicate i v) ++ l) w7 (hlo7.lst (by decide)) (by rw [numS_app, numS_few _ (by rw [List.length_replicate]; exact hT), List.length_replicate]; omega) (by omega))
        clear g2 g3 g4 hlo7
        refine hide ?_
        go_wp2_with fail
        refine HNo.out.mono ?_
        intro e w8 hmv
        unfold RefPF at hmv
        obtain ⟨A8, n8, c8, xs8, rfl, hl8, hb8⟩ := hmv
        have HL8 := hide (hl8.less hs7 hs7)
        have HB8 := hide (HB7.out.trans (hb8.mono hs7))
        clear hl8 hb8
        go_wp2
        go_ret
        exact ⟨A8, n8, c8, xs8, rfl, HL8.out, HB8.out⟩
  · obtain ⟨T, hTT⟩ : ∃ T, timesN t = T := ⟨_, rfl⟩
    have hTe : ∀ i : Nat, i < T ↔ (i : Int) < t := fun i => by rw [← hTT]; unfold timesN; omega
    have hTe1 := hTe T
    have HTe := hide hTe
    rw [hTT] at hT ⊢
    have e1 : decide (255 < t) = false := decide_eq_false ht
    clear h hs hTT hTe
    go_enter Tryz.func25, Tryz.ntmps25
    go_wp2
    go_loopw [7, 8] (fun vo iv wr => ∃ (i : Nat) (A1 : Option Addr) (n1 c1 : Nat) (xs : List Value), i ≤ T ∧ iv = .int .i64 (i : Nat) ∧ vo = .slice A1 n1 c1 ∧ LOw 2 59 sgR wr w.heap.size 0 A1 n1 c1 (chunkS (List.replicate i v)) xs ∧ Below w.heap.size w wr) (fun _ iv _ => T - (intOf iv).toNat)
    case atStart => exact ⟨0, some ⟨w.heap.size, 0, none⟩, 0, 0, [], Nat.zero_le _, rfl, rfl, HL0.out, HB0.out⟩
    case round =>
      obtain ⟨i, A1, n1, c1, xs, hi2, rfl, rfl, hlo, hbel⟩ := hrel
      have HLo := hide hlo
      have HBe := hide hbel
      have hs1 := hbel.size
      have hn1 := (hlo.lst (by decide)).1
      have hcl := chunkS_len (List.replicate i v)
      rw [List.length_replicate] at hcl
      have i0 : (0 : Int) ≤ (i : Int) := by omega
      have hwi : IntKind.i64.wrap ((i : Int) + 1) = (i : Int) + 1 := by rw [IntKind.wrap_i64]; omega
      by_cases hlt : i < T
      · have i1 : (i : Int) < t := (HTe.out i).1 hlt
        have HPu := hide (refputS_any A1 n1 c1 v _ wr (hlo.lst (by decide)) hv (by omega))
        have HF : Hid (putS (chunkS (List.replicate i v)) v = chunkS (List.replicate (i + 1) v)) := hide (by rw [List.replicate_succ']; unfold chunkS; rw [List.foldl_append]; rfl)
        clear hlo hbel
        go_wp2_with fail
        refine HPu.out.mono ?_
        intro e w5 hmv
        unfold RefP at hmv
        obtain ⟨A6, n6, c6, xs6, rfl, hl6, hb6⟩ := hmv
        rw [HF.out] at hl6
        have HL6 := hide (hl6.less hs1 (Nat.le_refl _))
        have HB6 := hide (HBe.out.trans (hb6.mono hs1))
        clear hl6 hb6
        go_wp2
        go_roundw
        case rel => exact ⟨i + 1, A6, n6, c6, xs6, by omega, by go_num, rfl, HL6.out, HB6.out⟩
        case measure => simp [intOf]; omega
      · have i1 : decide ((i : Int) < t) = false := decide_eq_false (fun hh => hlt ((HTe.out i).2 hh))
        obtain rfl : i = T := by omega
        obtain ⟨hr, hch, ho⟩ := HSr.out wr hbel (.slice A1 n1 c1) (own_low_block hlo.1)
        have HRd := hide hr
        have HCh := hide hch
        have HOn := hide ho
        clear hlo hbel hlt hr hch ho
        go_wp2_with (at_builtin; refine wpList_append_any _ rfl (.tmp 20) (.tmp 21) 37 rfl w.heap.size 59 i0_ _ 2 32 Tryz.underlying37 hi hz0 hz1 hz2 rfl (by decide) (.slice A1 n1 c1) n1 xs rfl HLo.out.1 _ A n c ys rfl HRd.out HOn.out (by unfold maxLen; omega) (by omega) (by omega) ?_; intro v' w7 g2 g3 g4; refine Hid.out (?_ : Hid _))
        obtain ⟨A7, c7, rfl, hlo7⟩ := LOw.push HLo.out HCh.out g2 g3 g4
        have HB7 := hide (HBe.out.grown g3 hs1 (fun k hk => own_low_block HLo.out.1 k hk))
        have hs7 := HB7.out.size
        have HNo := hide (refnormF_any A7 (n1 + n) c7 (chunkS (List.replicate i v) ++ l) w7 (hlo7.lst (by decide)) (by rw [numS_app, numS_few _ (by rw [List.length_replicate]; exact hT), List.length_replicate]; omega) (by omega))
        clear g2 g3 g4 hlo7
        refine hide ?_
        go_wp2_with fail
        refine HNo.out.mono ?_
        intro e w8 hmv
        unfold RefPF at hmv
        obtain ⟨A8, n8, c8, xs8, rfl, hl8, hb8⟩ := hmv
        have HL8 := hide (hl8.less hs7 hs7)
        have HB8 := hide (HB7.out.trans (hb8.mono hs7))
        clear hl8 hb8
        go_wp2
        go_ret
        exact ⟨A8, n8, c8, xs8, rfl, HL8.out, HB8.out⟩
end Go.Proofs.YtplhnhoijficgaaGreat
set_option linter.unusedSimpArgs false
set_option linter.unusedVariables false
namespace Go.Proofs.YtplhnhoijficgaaGreat
open Go.RowKit Go.WideShapes Go.ChangeShapes
attribute [local go_sem] Oper.semAt_some
theorem refb_eq (h : Int) (k : Nat) (hk : K8 k) : (bits .and .i64 (h / ((2 ^ k : Nat) : Int)) 1 == 1) = attB h k := by
  have e := hb_shr h k hk
  have e2 : ((2 ^ k : Nat) : Int) = 2 ^ k := by simp
  rw [e2, e]
  cases attB h k <;> rfl
set_option maxRecDepth 100000 in
set_option maxHeartbeats 4000000 in
theorem refAHas_any (k : Nat) (hk : K8 k) (h o : Int) (A : Option Addr) (n c : Nat) (hp md pf aa ai : Int) (B : Option Addr) (m d : Nat) (w : World) :
    Calls Tryz.prog 24 #[atV h o A n c hp md pf aa ai B m d, .int .i64 (k : Int)] w (GoodP (attB h k) w) := by
  have hne := refb_eq h k hk
  have HB := hide (((Below.refl w.heap.size w).alloc (Nat.le_refl _) (.cells (atC h o A n c hp md pf aa ai B m d) 40)))
  have HK := hide (Blk.new w 40 (atC h o A n c hp md pf aa ai B m d))
  have c0 := HK.out.cell 0
  rcases k8_cases hk with rfl | rfl | rfl | rfl | rfl | rfl | rfl | rfl <;> (
    simp only [Nat.reducePow, Int.reducePow, Int.cast_ofNat_Int] at hne
    go_enter Tryz.func24, Tryz.ntmps24
    go_wp2
    go_ret
    exact ⟨by simp [hne], HB.out⟩)
theorem sumB_lt : ∀ m : Nat, m < 512 → ∀ i, i ≤ 8 → sumB m i < 512 := by
  have h : ∀ m < 512, ∀ i ∈ [0, 1, 2, 3, 4, 5, 6, 7, 8], sumB m i < 512 := by decide +kernel
  intro m hm i hi
  refine h m hm i ?_
  have : i = 0 ∨ i = 1 ∨ i = 2 ∨ i = 3 ∨ i = 4 ∨ i = 5 ∨ i = 6 ∨ i = 7 ∨ i = 8 := by omega
  rcases this with rfl | rfl | rfl | rfl | rfl | rfl | rfl | rfl | rfl <;> decide
theorem fr_u32nil (w : World) (b : Nat) : FrB b none (fun w => U32s w none 0 0 []) w := fun _ _ => ⟨rfl, Nat.le_refl _, Nat.zero_le _, by simp, fun h => absurd h (by omega)⟩
theorem fr_setsB {S : World → Prop} {B H : Nat} : ∀ (vs : List Value) (i : Nat) {w : World}, FrB B none S w → H < B → FrB B none S (w.setCells H i vs)
  | [], _, _, h, _ => h
  | v :: vs, i, w, h, hH => fr_setsB vs (i + 1) (h.set (p := ⟨H, i, none⟩) hH v) hH
-- REFN
set_option maxRecDepth 100000 in
set_option maxHeartbeats 16000000 in
theorem refANorm_any (h o : Int) (A : Option Addr) (n c : Nat) (hp md pf aa ai : Int) (B : Option Addr) (m d : Nat) (pl : List SG) (cl : List Nat) (w : World) (hP : LstAt 2 sgR w A n c pl) (hC : U32s w B m d cl) (hn : numS pl ≤ 10000) (hn2 : n ≤ 100000) (hm : m ≤ 10000) :
    Calls Tryz.prog 23 #[atV h o A n c hp md pf aa ai B m d] w (AtP (normA ⟨h, o, pl, hp, md, pf, aa, ai, cl⟩) w) := by
  obtain ⟨w0, hw0⟩ : ∃ w0, ((w.alloc (.cells (atC h o A n c hp md pf aa ai B m d) 40)).alloc (.cells zeroC 40)).alloc (.cells zeroC 40) = w0 := ⟨_, rfl⟩
  have HS : Hid (NS w (atC h o A n c hp md pf aa ai B m d) zeroC w0) := hide (hw0 ▸ NS.start w _ _)
  have HPn := hide hn
  have HPm := hide hn2
  have HCm := hide hm
  have HP0 := hide hP
  have HC0 := hide hC
  have HW0 := hide hw0
  clear hw0 hP hC hn hn2 hm
  go_enter Tryz.func23, Tryz.ntmps23
  go_wp2
  rw [HW0.out]
  go_loopw [4] (fun iv wr => ∃ i : Nat, i ≤ 8 ∧ iv = .int .i64 ((i + 1 : Nat) : Int) ∧ NS w (atC h o A n c hp md pf aa ai B m d) (atC (sumB (low9 h) i) 0 none 0 0 0 0 0 0 0 none 0 0) wr) (fun iv _ => 9 - (intOf iv).toNat)
  case atStart => exact ⟨0, by omega, rfl, HS.out⟩
  case round =>
    obtain ⟨i, hi, rfl, hns⟩ := hrel
    obtain ⟨x1, rfl⟩ : ∃ x1, x1 = wr := ⟨wr, rfl⟩
    have HS := hide hns
    clear hns
    by_cases hlt : i < 8
    · obtain ⟨s, hs⟩ : ∃ s, sumB (low9 h) i = s := ⟨_, rfl⟩
      have hs9 : s < 512 := by rw [← hs]; exact sumB_lt _ (low9_lt h) i (by omega)
      have HNx : Hid (sumB (low9 h) (i + 1) = s + if attB h (i + 1) = true then 2 ^ (i + 1) else 0) := hide (by
        show sumB (low9 h) i + (if attB (low9 h : Int) (i + 1) then 2 ^ (i + 1) else 0) = _
        rw [hs, hb_low h (i + 1) ⟨by omega, by omega⟩])
      rw [hs] at HS
      obtain ⟨q, hq⟩ : ∃ q, attB h (i + 1) = q := ⟨_, rfl⟩
      have HA := hide (refAHas_any (i + 1) ⟨by omega, by omega⟩ h o A n c hp md pf aa ai B m d x1)
      rw [hq] at HA HNx
      obtain ⟨a0, a1, a2, a3, a4, a5, a6, a7, a8⟩ := blk9 HS.out.k0
      have hi8 : i = 0 ∨ i = 1 ∨ i = 2 ∨ i = 3 ∨ i = 4 ∨ i = 5 ∨ i = 6 ∨ i = 7 := by omega
      clear hs hq hi hlt
      rcases hi8 with rfl | rfl | rfl | rfl | rfl | rfl | rfl | rfl <;> (
        simp only [Nat.reduceAdd, Nat.reducePow, Nat.zero_add] at HNx HA HS
        go_wp2_with fail
        refine HA.out.mono ?_
        rintro e x2 ⟨rfl, hb⟩
        have HS := hide (HS.out.call hb)
        clear hb a0 a1 a2 a3 a4 a5 a6 a7 a8
        have z0 := HS.out.k2.cell 0
        have zf := fun i => HS.out.k2.frozen i
        cases q
        · go_wp2
          go_roundw
          case rel =>
            refine ⟨_, ?_, rfl, ?_⟩
            · decide
            · rw [HNx.out]
              exact HS.out
          case measure => simp [intOf]
        · go_wp2
          go_roundw
          case rel =>
            refine ⟨_, ?_, rfl, ?_⟩
            · decide
            · rw [HNx.out]
              exact HS.out.set_ 0 _
          case measure => simp [intOf])
    · obtain rfl : i = 8 := by omega
      rw [sumB_eq _ (low9_lt h)] at HS
      have HPl := hide (HP0.out.below sgMono HS.out.bel)
      have HCl := hide (HC0.out.below HS.out.bel)
      obtain ⟨a0, a1, a2, a3, a4, a5, a6, a7, a8⟩ := blk9 HS.out.k0
      have HA := hide (refAHas_any 1 ⟨by decide, by decide⟩ h o A n c hp md pf aa ai B m d x1)
      go_wp2_with fail
      clear a0 a1 a2 a3 a4 a5 a6 a7 a8

      refine HA.out.mono ?_
      rintro e w1 ⟨rfl, hb1⟩
      have HS := hide (HS.out.call hb1)
      have HPl := hide (HPl.out.below sgMono hb1)
      have HCl := hide (HCl.out.below hb1)
      clear hb1 HA
      obtain ⟨q1, hq1⟩ : ∃ q, attB h 1 = q := ⟨_, rfl⟩
      rw [hq1]
      have HQ1 := hide hq1
      clear hq1
      obtain ⟨O1, hx⟩ : ∃ x, (if q1 = true then o else 0) = x := ⟨_, rfl⟩
      have HX1 := hide hx
      clear hx
      go_upto_if 21 with fail
      go_cut [] (fun wc => NS w (atC h o A n c hp md pf aa ai B m d) (atC (nmH h) O1 none 0 0 0 0 0 0 0 none 0 0) wc)
      case first =>
        obtain ⟨x0, x1, x2, x3, x4, x5, x6, x7, x8⟩ := blk9 HS.out.k0
        obtain ⟨y0, y1, y2, y3, y4, y5, y6, y7, y8⟩ := blk9 HS.out.k2
        have yf := fun i => HS.out.k2.frozen i
        cases q1
        · go_wp2
          go_meet
          have hx := HX1.out
          simp only [Bool.false_eq_true, if_false] at hx
          subst hx
          exact HS.out
        · go_wp2
          go_meet
          have hx := HX1.out
          simp only [if_true] at hx
          subst hx
          exact HS.out.set_ 1 _
      case rest =>
        have hns := hcut
        clear hcut
        have HB := hide ((HS.out.k2.lt : w.heap.size + 1 + 1 + 1 ≤ _))
        clear HS
        have HS := hide hns
        clear hns
        have HPl := hide (HP0.out.below sgMono HS.out.bel)
        have HCl := hide (HC0.out.below HS.out.bel)
        obtain ⟨w2, hwc⟩ : ∃ x, x = wc := ⟨_, rfl⟩
        subst hwc
        obtain ⟨x0, x1, x2, x3, x4, x5, x6, x7, x8⟩ := blk9 HS.out.k0
        have HA := hide (refAHas_any 2 ⟨by decide, by decide⟩ h o A n c hp md pf aa ai B m d w2)
        go_wp2_with fail
        clear x0 x1 x2 x3 x4 x5 x6 x7 x8
        refine HA.out.mono ?_
        rintro e w3 ⟨rfl, hb1⟩
        have HS := hide (HS.out.call hb1)
        have HPl := hide (HPl.out.below sgMono hb1)
        have HCl := hide (HCl.out.below hb1)
        clear hb1 HA
        obtain ⟨q2, hq2⟩ : ∃ q, attB h 2 = q := ⟨_, rfl⟩
        rw [hq2]
        have HQ2 := hide hq2
        clear hq2
        obtain ⟨PN, hx⟩ : ∃ x, (if q2 = true then normS pl else []) = x := ⟨_, rfl⟩
        have HX2 := hide hx
        clear hx
        go_upto_if 26 with fail
        go_cut [] (fun wc => ∃ A2 n2 c2 xs2, NS w (atC h o A n c hp md pf aa ai B m d) (atC (nmH h) O1 A2 n2 c2 0 0 0 0 0 none 0 0) wc ∧ LOw 2 59 sgR wc (w.heap.size + 1 + 1 + 1) (w.heap.size + 1 + 1 + 1) A2 n2 c2 PN xs2)
        case first =>
          obtain ⟨x0, x1, x2, x3, x4, x5, x6, x7, x8⟩ := blk9 HS.out.k0
          obtain ⟨y0, y1, y2, y3, y4, y5, y6, y7, y8⟩ := blk9 HS.out.k2
          have yf := fun i => HS.out.k2.frozen i
          cases q2
          · go_wp2
            go_meet
            have hx := HX2.out
            simp only [Bool.false_eq_true, if_false] at hx
            subst hx
            exact ⟨none, 0, 0, [], HS.out, LOw.nil⟩
          · have HC := hide (refnormF_any A n c pl w3 HPl.out HPn.out HPm.out)
            go_wp2_with fail
            refine HC.out.mono ?_
            intro e wq hmv
            unfold RefPF at hmv
            obtain ⟨A2, n2, c2, xs2, rfl, hl, hb⟩ := hmv
            have hs : w.heap.size + 1 + 1 + 1 ≤ w3.heap.size := HS.out.k2.lt
            have HS := hide (HS.out.call hb)
            have HLo := hide (hl.less hs hs)
            clear hl hb x0 x1 x2 x3 x4 x5 x6 x7 x8 y0 y1 y2 y3 y4 y5 y6 y7 y8 yf
            obtain ⟨y0, y1, y2, y3, y4, y5, y6, y7, y8⟩ := blk9 HS.out.k2
            have yf := fun i => HS.out.k2.frozen i
            go_wp2
            go_meet
            have hx := HX2.out
            simp only [if_true] at hx
            subst hx
            exact ⟨A2, n2, c2, xs2, HS.out.set_ 2 _, HLo.out.set (by omega) (by omega) _⟩
        case rest =>
          obtain ⟨A2, n2, c2, xs2, hns, hlo⟩ := hcut
          have HB := hide ((HS.out.k2.lt : w.heap.size + 1 + 1 + 1 ≤ _))
          clear HS
          have HS := hide hns
          clear hns
          have HLo := hide hlo
          clear hlo
          have HPl := hide (HP0.out.below sgMono HS.out.bel)
          have HCl := hide (HC0.out.below HS.out.bel)
          obtain ⟨w4, hwc⟩ : ∃ x, x = wc := ⟨_, rfl⟩
          subst hwc
          obtain ⟨x0, x1, x2, x3, x4, x5, x6, x7, x8⟩ := blk9 HS.out.k0
          have HA := hide (refAHas_any 3 ⟨by decide, by decide⟩ h o A n c hp md pf aa ai B m d w4)
          go_wp2_with fail
          clear x0 x1 x2 x3 x4 x5 x6 x7 x8
          refine HA.out.mono ?_
          rintro e w5 ⟨rfl, hb1⟩
          have HS := hide (HS.out.call hb1)
          have HPl := hide (HPl.out.below sgMono hb1)
          have HCl := hide (HCl.out.below hb1)
          have HLo := hide (HLo.out.below hb1)
          clear hb1 HA
          obtain ⟨q3, hq3⟩ : ∃ q, attB h 3 = q := ⟨_, rfl⟩
          rw [hq3]
          have HQ3 := hide hq3
          clear hq3
          obtain ⟨H3, hx⟩ : ∃ x, (if q3 = true then hp else 0) = x := ⟨_, rfl⟩
          have HX3 := hide hx
          clear hx
          go_upto_if 32 with fail
          go_cut [] (fun wc => NS w (atC h o A n c hp md pf aa ai B m d) (atC (nmH h) O1 A2 n2 c2 H3 0 0 0 0 none 0 0) wc ∧ LOw 2 59 sgR wc (w.heap.size + 1 + 1 + 1) (w.heap.size + 1 + 1 + 1) A2 n2 c2 PN xs2)
          case first =>
            obtain ⟨x0, x1, x2, x3, x4, x5, x6, x7, x8⟩ := blk9 HS.out.k0
            obtain ⟨y0, y1, y2, y3, y4, y5, y6, y7, y8⟩ := blk9 HS.out.k2
            have yf := fun i => HS.out.k2.frozen i
            cases q3
            · go_wp2
              go_meet
              have hx := HX3.out
              simp only [Bool.false_eq_true, if_false] at hx
              subst hx
              exact ⟨HS.out, HLo.out⟩
            · go_wp2
              go_meet
              have hx := HX3.out
              simp only [if_true] at hx
              subst hx
              exact ⟨HS.out.set_ 3 _, HLo.out.set (by omega) (by omega) _⟩
          case rest =>
            obtain ⟨hns, hlo⟩ := hcut
            have HB := hide ((HS.out.k2.lt : w.heap.size + 1 + 1 + 1 ≤ _))
            clear HS HLo
            have HS := hide hns
            clear hns
            have HLo := hide hlo
            clear hlo
            have HPl := hide (HP0.out.below sgMono HS.out.bel)
            have HCl := hide (HC0.out.below HS.out.bel)
            obtain ⟨w6, hwc⟩ : ∃ x, x = wc := ⟨_, rfl⟩
            subst hwc
            obtain ⟨x0, x1, x2, x3, x4, x5, x6, x7, x8⟩ := blk9 HS.out.k0
            have HA := hide (refAHas_any 4 ⟨by decide, by decide⟩ h o A n c hp md pf aa ai B m d w6)
            go_wp2_with fail
            clear x0 x1 x2 x3 x4 x5 x6 x7 x8
            refine HA.out.mono ?_
            rintro e w7 ⟨rfl, hb1⟩
            have HS := hide (HS.out.call hb1)
            have HPl := hide (HPl.out.below sgMono hb1)
            have HCl := hide (HCl.out.below hb1)
            have HLo := hide (HLo.out.below hb1)
            clear hb1 HA
            obtain ⟨q4, hq4⟩ : ∃ q, attB h 4 = q := ⟨_, rfl⟩
            rw [hq4]
            have HQ4 := hide hq4
            clear hq4
            obtain ⟨M4, hx⟩ : ∃ x, (if q4 = true then md else 0) = x := ⟨_, rfl⟩
            have HX4 := hide hx
            clear hx
            go_upto_if 37 with fail
            go_cut [] (fun wc => NS w (atC h o A n c hp md pf aa ai B m d) (atC (nmH h) O1 A2 n2 c2 H3 M4 0 0 0 none 0 0) wc ∧ LOw 2 59 sgR wc (w.heap.size + 1 + 1 + 1) (w.heap.size + 1 + 1 + 1) A2 n2 c2 PN xs2)
            case first =>
              obtain ⟨x0, x1, x2, x3, x4, x5, x6, x7, x8⟩ := blk9 HS.out.k0
              obtain ⟨y0, y1, y2, y3, y4, y5, y6, y7, y8⟩ := blk9 HS.out.k2
              have yf := fun i => HS.out.k2.frozen i
              cases q4
              · go_wp2
                go_meet
                have hx := HX4.out
                simp only [Bool.false_eq_true, if_false] at hx
                subst hx
                exact ⟨HS.out, HLo.out⟩
              · go_wp2
                go_meet
                have hx := HX4.out
                simp only [if_true] at hx
                subst hx
                exact ⟨HS.out.set_ 4 _, HLo.out.set (by omega) (by omega) _⟩
            case rest =>
              obtain ⟨hns, hlo⟩ := hcut
              have HB := hide ((HS.out.k2.lt : w.heap.size + 1 + 1 + 1 ≤ _))
              clear HS HLo
              have HS := hide hns
              clear hns
              have HLo := hide hlo
              clear hlo
              have HPl := hide (HP0.out.below sgMono HS.out.bel)
              have HCl := hide (HC0.out.below HS.out.bel)
              obtain ⟨w8, hwc⟩ : ∃ x, x = wc := ⟨_, rfl⟩
              subst hwc
              obtain ⟨x0, x1, x2, x3, x4, x5, x6, x7, x8⟩ := blk9 HS.out.k0
              have HA := hide (refAHas_any 5 ⟨by decide, by decide⟩ h o A n c hp md pf aa ai B m d w8)
              go_wp2_with fail
              clear x0 x1 x2 x3 x4 x5 x6 x7 x8
              refine HA.out.mono ?_
              rintro e w9 ⟨rfl, hb1⟩
              have HS := hide (HS.out.call hb1)
              have HPl := hide (HPl.out.below sgMono hb1)
              have HCl := hide (HCl.out.below hb1)
              have HLo := hide (HLo.out.below hb1)
              clear hb1 HA
              obtain ⟨q5, hq5⟩ : ∃ q, attB h 5 = q := ⟨_, rfl⟩
              rw [hq5]
              have HQ5 := hide hq5
              clear hq5
              obtain ⟨P5, hx⟩ : ∃ x, (if q5 = true then pf else 0) = x := ⟨_, rfl⟩
              have HX5 := hide hx
              clear hx
              go_upto_if 42 with fail
              go_cut [] (fun wc => NS w (atC h o A n c hp md pf aa ai B m d) (atC (nmH h) O1 A2 n2 c2 H3 M4 P5 0 0 none 0 0) wc ∧ LOw 2 59 sgR wc (w.heap.size + 1 + 1 + 1) (w.heap.size + 1 + 1 + 1) A2 n2 c2 PN xs2)
              case first =>
                obtain ⟨x0, x1, x2, x3, x4, x5, x6, x7, x8⟩ := blk9 HS.out.k0
                obtain ⟨y0, y1, y2, y3, y4, y5, y6, y7, y8⟩ := blk9 HS.out.k2
                have yf := fun i => HS.out.k2.frozen i
                cases q5
                · go_wp2
                  go_meet
                  have hx := HX5.out
                  simp only [Bool.false_eq_true, if_false] at hx
                  subst hx
                  exact ⟨HS.out, HLo.out⟩
                · go_wp2
                  go_meet
                  have hx := HX5.out
                  simp only [if_true] at hx
                  subst hx
                  exact ⟨HS.out.set_ 5 _, HLo.out.set (by omega) (by omega) _⟩
              case rest =>
                obtain ⟨hns, hlo⟩ := hcut
                have HB := hide ((HS.out.k2.lt : w.heap.size + 1 + 1 + 1 ≤ _))
                clear HS HLo
                have HS := hide hns
                clear hns
                have HLo := hide hlo
                clear hlo
                have HPl := hide (HP0.out.below sgMono HS.out.bel)
                have HCl := hide (HC0.out.below HS.out.bel)
                obtain ⟨w10, hwc⟩ : ∃ x, x = wc := ⟨_, rfl⟩
                subst hwc
                obtain ⟨x0, x1, x2, x3, x4, x5, x6, x7, x8⟩ := blk9 HS.out.k0
                have HA := hide (refAHas_any 7 ⟨by decide, by decide⟩ h o A n c hp md pf aa ai B m d w10)
                go_wp2_with fail
                clear x0 x1 x2 x3 x4 x5 x6 x7 x8
                refine HA.out.mono ?_
                rintro e w11 ⟨rfl, hb1⟩
                have HS := hide (HS.out.call hb1)
                have HPl := hide (HPl.out.below sgMono hb1)
                have HCl := hide (HCl.out.below hb1)
                have HLo := hide (HLo.out.below hb1)
                clear hb1 HA
                obtain ⟨q7, hq7⟩ : ∃ q, attB h 7 = q := ⟨_, rfl⟩
                rw [hq7]
                have HQ7 := hide hq7
                clear hq7
                obtain ⟨A7, hx⟩ : ∃ x, (if q7 = true then aa else 0) = x := ⟨_, rfl⟩
                have HXA7 := hide hx
                clear hx
                obtain ⟨I7, hx⟩ : ∃ x, (if q7 = true then ai else 0) = x := ⟨_, rfl⟩
                have HXI7 := hide hx
                clear hx
                go_upto_if 47 with fail
                go_cut [] (fun wc => NS w (atC h o A n c hp md pf aa ai B m d) (atC (nmH h) O1 A2 n2 c2 H3 M4 P5 A7 I7 none 0 0) wc ∧ LOw 2 59 sgR wc (w.heap.size + 1 + 1 + 1) (w.heap.size + 1 + 1 + 1) A2 n2 c2 PN xs2)
                case first =>
                  obtain ⟨x0, x1, x2, x3, x4, x5, x6, x7, x8⟩ := blk9 HS.out.k0
                  obtain ⟨y0, y1, y2, y3, y4, y5, y6, y7, y8⟩ := blk9 HS.out.k2
                  have yf := fun i => HS.out.k2.frozen i
                  cases q7
                  · go_wp2
                    go_meet
                    have hx := HXA7.out
                    simp only [Bool.false_eq_true, if_false] at hx
                    subst hx
                    have hx := HXI7.out
                    simp only [Bool.false_eq_true, if_false] at hx
                    subst hx
                    exact ⟨HS.out, HLo.out⟩
                  · have HRg := hide ((HS.out.set_ 6 (.int .u32 aa)).set_ 7 (.int .u32 ai))
                    have HLg := hide (((HLo.out.set (H := w.heap.size + 1 + 1) (i := 6) (by omega) (by omega) (.int .u32 aa))).set (H := w.heap.size + 1 + 1) (i := 7) (by omega) (by omega) (.int .u32 ai))
                    go_wp2
                    go_region
                    go_wp2
                    go_meet
                    have hx := HXA7.out
                    simp only [if_true] at hx
                    subst hx
                    have hx := HXI7.out
                    simp only [if_true] at hx
                    subst hx
                    exact ⟨HRg.out.call below_drew, HLg.out.below below_drew⟩
                case rest =>
                  obtain ⟨hns, hlo⟩ := hcut
                  have HB := hide ((HS.out.k2.lt : w.heap.size + 1 + 1 + 1 ≤ _))
                  clear HS HLo
                  have HS := hide hns
                  clear hns
                  have HLo := hide hlo
                  clear hlo
                  have HPl := hide (HP0.out.below sgMono HS.out.bel)
                  have HCl := hide (HC0.out.below HS.out.bel)
                  obtain ⟨w12, hwc⟩ : ∃ x, x = wc := ⟨_, rfl⟩
                  subst hwc
                  obtain ⟨x0, x1, x2, x3, x4, x5, x6, x7, x8⟩ := blk9 HS.out.k0
                  have HA := hide (refAHas_any 8 ⟨by decide, by decide⟩ h o A n c hp md pf aa ai B m d w12)
                  go_wp2_with fail
                  clear x0 x1 x2 x3 x4 x5 x6 x7 x8
                  refine HA.out.mono ?_
                  rintro e w13 ⟨rfl, hb1⟩
                  have HS := hide (HS.out.call hb1)
                  have HPl := hide (HPl.out.below sgMono hb1)
                  have HCl := hide (HCl.out.below hb1)
                  have HLo := hide (HLo.out.below hb1)
                  clear hb1 HA
                  obtain ⟨q8, hq8⟩ : ∃ q, attB h 8 = q := ⟨_, rfl⟩
                  rw [hq8]
                  have HQ8 := hide hq8
                  clear hq8
                  obtain ⟨CN, hx⟩ : ∃ x, (if q8 = true then setOf cl else []) = x := ⟨_, rfl⟩
                  have HX8 := hide hx
                  clear hx
                  go_upto_if 55 with fail
                  go_cut [] (fun wc => ∃ B8 m8 d8, NS w (atC h o A n c hp md pf aa ai B m d) (atC (nmH h) O1 A2 n2 c2 H3 M4 P5 A7 I7 B8 m8 d8) wc ∧ LOw 2 59 sgR wc (w.heap.size + 1 + 1 + 1) (w.heap.size + 1 + 1 + 1) A2 n2 c2 PN xs2 ∧ FrB (w.heap.size + 1 + 1 + 1) none (fun w => U32s w B8 m8 d8 CN) wc)
                  case first =>
                    obtain ⟨x0, x1, x2, x3, x4, x5, x6, x7, x8⟩ := blk9 HS.out.k0
                    obtain ⟨y0, y1, y2, y3, y4, y5, y6, y7, y8⟩ := blk9 HS.out.k2
                    have yf := fun i => HS.out.k2.frozen i
                    cases q8
                    · go_wp2
                      go_meet
                      have hx := HX8.out
                      simp only [Bool.false_eq_true, if_false] at hx
                      subst hx
                      exact ⟨none, 0, 0, HS.out, HLo.out, fr_u32nil _ _⟩
                    · have HC := hide (refSetB_any B m d cl w13 HCl.out HCm.out)
                      go_wp2_with fail
                      refine HC.out.mono ?_
                      rintro e wq ⟨g8, o8, m8, d8, rfl, hu8, hb, hg8⟩
                      have hs : w.heap.size + 1 + 1 + 1 ≤ w13.heap.size := HS.out.k2.lt
                      have HS := hide (HS.out.call hb)
                      have HLo := hide (HLo.out.below hb)
                      have HOw := hide (u32s_fr (B := w.heap.size + 1 + 1 + 1) (ob := none) hu8 (fun _ a ha => by cases ha; exact ⟨Nat.le_trans hs hg8, fun e => by cases e⟩))
                      clear hu8 hb x0 x1 x2 x3 x4 x5 x6 x7 x8 y0 y1 y2 y3 y4 y5 y6 y7 y8 yf
                      obtain ⟨y0, y1, y2, y3, y4, y5, y6, y7, y8⟩ := blk9 HS.out.k2
                      have yf := fun i => HS.out.k2.frozen i
                      go_wp2
                      go_meet
                      have hx := HX8.out
                      simp only [if_true] at hx
                      subst hx
                      exact ⟨_, _, _, HS.out.set_ 8 _, HLo.out.set (by omega) (by omega) _, HOw.out.set (p := ⟨w.heap.size + 1 + 1, 8, none⟩) (show w.heap.size + 1 + 1 < w.heap.size + 1 + 1 + 1 by omega) _⟩
                  case rest =>
                    obtain ⟨B8, m8, d8, hns, hlo, how⟩ := hcut
                    have HOw := hide how
                    clear how
                    have HB := hide ((HS.out.k2.lt : w.heap.size + 1 + 1 + 1 ≤ _))
                    clear HS HLo
                    have HS := hide hns
                    clear hns
                    have HLo := hide hlo
                    clear hlo
                    have HPl := hide (HP0.out.below sgMono HS.out.bel)
                    have HCl := hide (HC0.out.below HS.out.bel)
                    obtain ⟨w14, hwc⟩ : ∃ x, x = wc := ⟨_, rfl⟩
                    subst hwc
                    obtain ⟨wF, hwF⟩ : ∃ x, w14.setCells (w.heap.size + 1) 0 [.int .i64 (nmH h), .int .i64 O1, .slice A2 n2 c2, .int .u32 H3, .int .u32 M4, .int .u32 P5, .int .u32 A7, .int .u32 I7, .slice B8 m8 d8] = x := ⟨_, rfl⟩
                    have HFw := hide hwF
                    have HFk := hide (hwF ▸ blk9_set HS.out.k1 : Blk wF (w.heap.size + 1) 40 (atC (nmH h) O1 A2 n2 c2 H3 M4 P5 A7 I7 B8 m8 d8))
                    have HFl := hide (hwF ▸ low_sets [.int .i64 (nmH h), .int .i64 O1, .slice A2 n2 c2, .int .u32 H3, .int .u32 M4, .int .u32 P5, .int .u32 A7, .int .u32 I7, .slice B8 m8 d8] 0 HLo.out (by omega) (by omega) : LOw 2 59 sgR wF (w.heap.size + 1 + 1 + 1) (w.heap.size + 1 + 1 + 1) A2 n2 c2 PN xs2)
                    have HFo := hide (hwF ▸ fr_setsB [.int .i64 (nmH h), .int .i64 O1, .slice A2 n2 c2, .int .u32 H3, .int .u32 M4, .int .u32 P5, .int .u32 A7, .int .u32 I7, .slice B8 m8 d8] 0 HOw.out (by omega) : FrB (w.heap.size + 1 + 1 + 1) none (fun w => U32s w B8 m8 d8 CN) wF)
                    have HFb := hide (hwF ▸ below_sets [.int .i64 (nmH h), .int .i64 O1, .slice A2 n2 c2, .int .u32 H3, .int .u32 M4, .int .u32 P5, .int .u32 A7, .int .u32 I7, .slice B8 m8 d8] 0 HS.out.bel (by omega) : Below w.heap.size w wF)
                    clear hwF
                    have HEq : Hid (normA ⟨h, o, pl, hp, md, pf, aa, ai, cl⟩ = ⟨nmH h, O1, PN, H3, M4, P5, A7, I7, CN⟩) := hide (by unfold normA; simp only [HQ1.out, HQ2.out, HQ3.out, HQ4.out, HQ5.out, HQ7.out, HQ8.out, HX1.out, HX2.out, HX3.out, HX4.out, HX5.out, HXA7.out, HXI7.out, HX8.out])
                    obtain ⟨y0, y1, y2, y3, y4, y5, y6, y7, y8⟩ := blk9 HS.out.k2
                    obtain ⟨z0, z1, z2, z3, z4, z5, z6, z7, z8⟩ := blk9 HS.out.k1
                    have zf := fun i => HS.out.k1.frozen i
                    go_wp2
                    change bodyPost _ _ _ _ _ (w14.setCells (w.heap.size + 1) 0 [.int .i64 (nmH h), .int .i64 O1, .slice A2 n2 c2, .int .u32 H3, .int .u32 M4, .int .u32 P5, .int .u32 A7, .int .u32 I7, .slice B8 m8 d8])
                    rw [HFw.out, HEq.out]
                    clear z0 z1 z2 z3 z4 z5 z6 z7 z8 zf y0 y1 y2 y3 y4 y5 y6 y7 y8
                    obtain ⟨z0, z1, z2, z3, z4, z5, z6, z7, z8⟩ := blk9 HFk.out
                    have zf := fun i => HFk.out.frozen i
                    exact bodyPost_ret (v := atV (nmH h) O1 A2 n2 c2 H3 M4 P5 A7 I7 B8 m8 d8) (by simp [results, Tryz.results23, go_sem, z0, z1, z2, z3, z4, z5, z6, z7, z8, zf]) rfl ⟨_, rfl, ⟨A2, n2, c2, xs2, B8, m8, d8, rfl, HFl.out.less (by omega) (by omega), HFo.out.less (by omega)⟩, HFb.out⟩
end Go.Proofs.YtplhnhoijficgaaGreat
set_option linter.unusedSimpArgs false
set_option linter.unusedVariables false
namespace Go.Proofs.YtplhnhoijficgaaGreat
open Go.RowKit Go.WideShapes Go.ChangeShapes
theorem setOf_idem (l : List Nat) : setOf (setOf l) = setOf l := rise_ext (setOf_rise _) (setOf_rise _) (fun x => by rw [setOf_mem])
theorem setOf_ne {l : List Nat} (h : l ≠ []) : setOf l ≠ [] := by
  obtain ⟨x, hx⟩ := List.exists_mem_of_ne_nil l h
  intro e
  have := (setOf_mem l x).2 hx
  rw [e] at this
  simp at this
theorem normS_concat (l : List SG) (x : SG) : normS (l ++ [x]) = stepS (normS l) x := by unfold normS; rw [List.foldl_append]; rfl
theorem putS_cases (q : List SG) (n : Nat) : putS q n = q ++ [⟨2, [n]⟩] ∨ ∃ q' r, q = q' ++ [⟨2, r⟩] ∧ putS q n = q' ++ [⟨2, r ++ [n]⟩] := by
  unfold putS
  cases h : q.getLast? with
  | none =>
    rw [List.getLast?_eq_none_iff] at h
    subst h
    exact .inl rfl
  | some x =>
    simp only
    split
    · right
      rename_i hx
      obtain ⟨k, r⟩ := x
      obtain ⟨rfl, _⟩ := hx
      obtain ⟨ys, hy⟩ := List.getLast?_eq_some_iff.1 h
      refine ⟨ys, r, hy, ?_⟩
      rw [hy, List.dropLast_concat]
    · exact .inl rfl
theorem stepS_seq (q : List SG) (r : List Nat) : stepS q ⟨2, r⟩ = r.foldl putS q := by unfold stepS; rw [if_pos rfl]
theorem putS_own {q : List SG} (h : normS q = q) (n : Nat) : normS (putS q n) = putS q n := by
  rcases putS_cases q n with e | ⟨q', r, rfl, e⟩
  · rw [e, normS_concat, h, stepS_seq, ← e]; rfl
  · have e2 : r.foldl putS (normS q') = q' ++ [⟨2, r⟩] := by rw [← stepS_seq, ← normS_concat, h]
    rw [e, normS_concat, stepS_seq, List.foldl_append, e2, ← e]; rfl
theorem foldP_own : ∀ (r : List Nat) {q : List SG}, normS q = q → normS (r.foldl putS q) = r.foldl putS q
  | [], _, h => h
  | n :: r, q, h => foldP_own r (putS_own h n)
theorem stepS_own {q : List SG} (h : normS q = q) (x : SG) : normS (stepS q x) = stepS q x := by
  unfold stepS
  split
  · exact foldP_own _ h
  · split
    · rename_i hx
      rw [normS_concat, h]
      unfold stepS
      rw [if_neg (by show ¬ ((1 : Int) = 2); decide), if_pos ⟨rfl, setOf_ne hx.2⟩]
      simp only
      rw [setOf_idem]
    · exact h
theorem foldS_own : ∀ (l : List SG) {q : List SG}, normS q = q → normS (l.foldl stepS q) = l.foldl stepS q
  | [], _, h => h
  | x :: l, q, h => foldS_own l (stepS_own h x)
theorem normS_idem (l : List SG) : normS (normS l) = normS l := foldS_own l rfl
theorem numS_concat (q : List SG) (x : SG) : numS (q ++ [x]) = numS q + x.r.length := by simp [numS]
theorem numS_put (q : List SG) (n : Nat) : numS (putS q n) = numS q + 1 := by
  rcases putS_cases q n with e | ⟨q', r, rfl, e⟩
  · rw [e, numS_concat]; rfl
  · rw [e, numS_concat, numS_concat]; simp only [List.length_append, List.length_cons, List.length_nil]; omega
theorem numS_foldP : ∀ (r : List Nat) (q : List SG), numS (r.foldl putS q) = numS q + r.length
  | [], _ => rfl
  | n :: r, q => by rw [List.foldl_cons, numS_foldP r, numS_put, List.length_cons]; omega
theorem numS_step (q : List SG) (x : SG) : numS (stepS q x) ≤ numS q + x.r.length := by
  unfold stepS
  split
  · rw [numS_foldP]; omega
  · split
    · rw [numS_concat]
      have := setOf_len x.r
      simp only; omega
    · omega
theorem numS_cons (x : SG) (l : List SG) : numS (x :: l) = x.r.length + numS l := by simp [numS]
theorem numS_fold : ∀ (l q : List SG), numS (l.foldl stepS q) ≤ numS q + numS l
  | [], q => by simp [numS]
  | x :: l, q => by
    have h1 := numS_fold l (stepS q x)
    have h2 := numS_step q x
    rw [List.foldl_cons, numS_cons]; omega
theorem numS_norm (l : List SG) : numS (normS l) ≤ numS l := by have := numS_fold l []; simpa [numS, normS] using this
end Go.Proofs.YtplhnhoijficgaaGreat
set_option linter.unusedSimpArgs false
set_option linter.unusedVariables false
namespace Go.Proofs.YtplhnhoijficgaaGreat
open Go.RowKit Go.WideShapes Go.ChangeShapes
attribute [local go_sem] Oper.semAt_some
theorem blk12 {w : World} {g : Nat} {t : TypeId} {v0 v1 v2 v3 v4 v5 v6 v7 v8 v9 v10 v11 : Value} (h : Blk w g t #[v0, v1, v2, v3, v4, v5, v6, v7, v8, v9, v10, v11]) :
    w.cell? ⟨g, 0, none⟩ = some v0 ∧ w.cell? ⟨g, 1, none⟩ = some v1 ∧ w.cell? ⟨g, 2, none⟩ = some v2 ∧ w.cell? ⟨g, 3, none⟩ = some v3 ∧ w.cell? ⟨g, 4, none⟩ = some v4 ∧ w.cell? ⟨g, 5, none⟩ = some v5 ∧ w.cell? ⟨g, 6, none⟩ = some v6 ∧ w.cell? ⟨g, 7, none⟩ = some v7 ∧ w.cell? ⟨g, 8, none⟩ = some v8 ∧ w.cell? ⟨g, 9, none⟩ = some v9 ∧ w.cell? ⟨g, 10, none⟩ = some v10 ∧ w.cell? ⟨g, 11, none⟩ = some v11 :=
  ⟨h.cell 0, h.cell 1, h.cell 2, h.cell 3, h.cell 4, h.cell 5, h.cell 6, h.cell 7, h.cell 8, h.cell 9, h.cell 10, h.cell 11⟩
theorem blk16 {w : World} {g : Nat} {t : TypeId} {v0 v1 v2 v3 v4 v5 v6 v7 v8 v9 v10 v11 v12 v13 v14 v15 : Value} (h : Blk w g t #[v0, v1, v2, v3, v4, v5, v6, v7, v8, v9, v10, v11, v12, v13, v14, v15]) :
    w.cell? ⟨g, 0, none⟩ = some v0 ∧ w.cell? ⟨g, 1, none⟩ = some v1 ∧ w.cell? ⟨g, 2, none⟩ = some v2 ∧ w.cell? ⟨g, 3, none⟩ = some v3 ∧ w.cell? ⟨g, 4, none⟩ = some v4 ∧ w.cell? ⟨g, 5, none⟩ = some v5 ∧ w.cell? ⟨g, 6, none⟩ = some v6 ∧ w.cell? ⟨g, 7, none⟩ = some v7 ∧ w.cell? ⟨g, 8, none⟩ = some v8 ∧ w.cell? ⟨g, 9, none⟩ = some v9 ∧ w.cell? ⟨g, 10, none⟩ = some v10 ∧ w.cell? ⟨g, 11, none⟩ = some v11 ∧ w.cell? ⟨g, 12, none⟩ = some v12 ∧ w.cell? ⟨g, 13, none⟩ = some v13 ∧ w.cell? ⟨g, 14, none⟩ = some v14 ∧ w.cell? ⟨g, 15, none⟩ = some v15 :=
  ⟨h.cell 0, h.cell 1, h.cell 2, h.cell 3, h.cell 4, h.cell 5, h.cell 6, h.cell 7, h.cell 8, h.cell 9, h.cell 10, h.cell 11, h.cell 12, h.cell 13, h.cell 14, h.cell 15⟩
structure CF where
  asn : Int
  id : Int
  ho : Int
  re : Int
  mr : Int
  P : Option Addr × Nat × Nat
  N : Option Addr × Nat × Nat
  G : Option Addr × Nat × Nat
  L1 : Option Addr × Nat × Nat
  L2 : Option Addr × Nat × Nat
  L3 : Option Addr × Nat × Nat
  L4 : Option Addr × Nat × Nat
structure PE where
  ad : Int
  asn : Int
  mx : Int
  pas : Bool
  im : ByteArray
  ex : ByteArray
  un : ByteArray
  df : Bool
  dm : ByteArray
  av : ByteArray
  cn : ByteArray
  non : Bool
abbrev cfC (x : CF) : Array Value := #[.int .u32 x.asn, .int .u32 x.id, .int .i64 x.ho, .int .i64 x.re, .int .i64 x.mr, .slice x.P.1 x.P.2.1 x.P.2.2, .slice x.N.1 x.N.2.1 x.N.2.2, .slice x.G.1 x.G.2.1 x.G.2.2, .slice x.L1.1 x.L1.2.1 x.L1.2.2, .slice x.L2.1 x.L2.2.1 x.L2.2.2, .slice x.L3.1 x.L3.2.1 x.L3.2.2, .slice x.L4.1 x.L4.2.1 x.L4.2.2]
abbrev peC (x : PE) : Array Value := #[.int .u32 x.ad, .int .u32 x.asn, .int .i64 x.mx, .bool x.pas, .string x.im, .string x.ex, .string x.un, .bool x.df, .string x.dm, .string x.av, .string x.cn, .bool x.non]
abbrev rtC (pa pl h o : Int) (A : Option Addr) (n c : Nat) (hp md pf aa ai : Int) (B : Option Addr) (m d : Nat) (rp ra ri : Int) (inn loc : Bool) : Array Value :=
  #[.int .u32 pa, .int .i64 pl, .int .i64 h, .int .i64 o, .slice A n c, .int .u32 hp, .int .u32 md, .int .u32 pf, .int .u32 aa, .int .u32 ai, .slice B m d, .int .u32 rp, .int .u32 ra, .int .u32 ri, .bool inn, .bool loc]
set_option maxRecDepth 100000 in
set_option maxHeartbeats 4000000 in
theorem exHas_any (k : Nat) (hk : K8 k) (h o : Int) (A : Option Addr) (n c : Nat) (hp md pf aa ai : Int) (B : Option Addr) (m d : Nat) (w : World) :
    Calls Tryz.prog 30 #[atV h o A n c hp md pf aa ai B m d, .int .i64 (k : Int)] w (GoodP (attB h k) w) := by
  have hne := hasB_ne h k hk
  have HB := hide (((Below.refl w.heap.size w).alloc (Nat.le_refl _) (.cells (atC h o A n c hp md pf aa ai B m d) 40)))
  have HK := hide (Blk.new w 40 (atC h o A n c hp md pf aa ai B m d))
  have c0 := HK.out.cell 0
  rcases k8_cases hk with rfl | rfl | rfl | rfl | rfl | rfl | rfl | rfl <;> (
    simp only [Nat.reducePow, Int.reducePow, Int.cast_ofNat_Int] at hne
    go_enter Tryz.func30, Tryz.ntmps30
    go_wp2
    go_region
    go_wp2
    go_ret
    exact ⟨by simp [hne], HB.out.drew⟩)
set_option maxRecDepth 100000 in
set_option maxHeartbeats 4000000 in
theorem exInner_any (x : CF) (y : PE) (w : World) : Calls Tryz.prog 27 #[.agg (cfC x), .agg (peC y)] w (GoodP (y.asn == x.asn) w) := by
  have HB := hide ((((Below.refl w.heap.size w).alloc (Nat.le_refl _) (.cells (cfC x) 35)).alloc (by simp) (.cells (peC y) 48)))
  go_enter Tryz.func27, Tryz.ntmps27
  go_wp2
  go_ret
  exact ⟨rfl, HB.out⟩
set_option maxRecDepth 100000 in
set_option maxHeartbeats 4000000 in
theorem exInnerX_any (x : CF) (y : PE) (w : World) : Calls Tryz.prog 17 #[.agg (cfC x), .agg (peC y)] w (GoodP (y.asn == x.asn) w) := by
  have hb0 : Below w.heap.size w ((w.alloc (.cells (cfC x) 35)).alloc (.cells (peC y) 48)) := ((Below.refl _ w).alloc (Nat.le_refl _) _).alloc (by simp) _
  have HB := hide hb0
  have HI := hide (exInner_any x y ((w.alloc (.cells (cfC x) 35)).alloc (.cells (peC y) 48)))
  clear hb0
  go_enter Tryz.func17, Tryz.ntmps17
  go_wp2_with fail
  refine HI.out.mono ?_
  rintro e w1 ⟨rfl, hb⟩
  have HB1 := hide (HB.out.trans (hb.mono HB.out.size))
  clear hb
  go_wp2
  go_ret
  exact ⟨rfl, HB1.out⟩
set_option maxRecDepth 100000 in
set_option maxHeartbeats 4000000 in
theorem exWith_any (k : Nat) (hk : k = 2 ∨ k = 3 ∨ k = 5) (q : Nat) (hq : q < 512) (o : Int) (A : Option Addr) (n c : Nat) (hp md pf aa ai : Int) (B : Option Addr) (m d : Nat) (w : World) :
    Calls Tryz.prog 29 #[atV q o A n c hp md pf aa ai B m d, .int .i64 (k : Int)] w (fun e w' => e = .returned (atV (setB q k : Nat) o A n c hp md pf aa ai B m d) ∧ Below w.heap.size w w') := by
  have hK : K8 k := by unfold K8; omega
  have hor := setB_or q k hq hK
  have HB := hide ((((Below.refl w.heap.size w).alloc (Nat.le_refl _) (.cells (atC (setB q k : Nat) o A n c hp md pf aa ai B m d) 40))).alloc (by simp) (.cells (atC (setB q k : Nat) o A n c hp md pf aa ai B m d) 40))
  rcases hk with rfl | rfl | rfl <;> (
    simp only [Nat.reducePow, Int.reducePow, Int.cast_ofNat_Int] at hor
    go_enter Tryz.func29, Tryz.ntmps29
    go_wp2
    go_region
    go_wp2
    exact bodyPost_ret (by simp [results, Tryz.results29, go_sem]) rfl ⟨rfl, HB.out.drew⟩)
set_option maxRecDepth 100000 in
set_option maxHeartbeats 4000000 in
theorem exWithout_any (k : Nat) (hk : k = 4 ∨ k = 5) (q : Nat) (hq : q < 512) (o : Int) (A : Option Addr) (n c : Nat) (hp md pf aa ai : Int) (B : Option Addr) (m d : Nat) (w : World) :
    Calls Tryz.prog 32 #[atV q o A n c hp md pf aa ai B m d, .int .i64 (k : Int)] w (fun e w' => e = .returned (atV (clrB q k : Nat) o A n c hp md pf aa ai B m d) ∧ Below w.heap.size w w') := by
  have hK : K8 k := by unfold K8; omega
  have hor := clrB_andNot q k hq hK
  have HB := hide ((((Below.refl w.heap.size w).alloc (Nat.le_refl _) (.cells (atC (clrB q k : Nat) o A n c hp md pf aa ai B m d) 40))).alloc (by simp) (.cells (atC (clrB q k : Nat) o A n c hp md pf aa ai B m d) 40))
  rcases hk with rfl | rfl <;> (
    simp only [Nat.reducePow, Int.reducePow, Int.cast_ofNat_Int] at hor
    go_enter Tryz.func32, Tryz.ntmps32
    go_wp2
    go_region
    go_wp2
    exact bodyPost_ret (by simp [results, Tryz.results32, go_sem]) rfl ⟨rfl, HB.out.drew⟩)
set_option maxRecDepth 100000 in
set_option maxHeartbeats 4000000 in
theorem exKept_any (pa pl h o : Int) (A : Option Addr) (n c : Nat) (hp md pf aa ai : Int) (B : Option Addr) (m d : Nat) (rp ra ri : Int) (inn loc : Bool)
    (h2 o2 : Int) (A2 : Option Addr) (n2 c2 : Nat) (hp2 md2 pf2 aa2 ai2 : Int) (B2 : Option Addr) (m2 d2 : Nat) (w : World) :
    Calls Tryz.prog 33 #[.agg (rtC pa pl h o A n c hp md pf aa ai B m d rp ra ri inn loc), atV h2 o2 A2 n2 c2 hp2 md2 pf2 aa2 ai2 B2 m2 d2] w (GoodP (!loc && attB h2 4 && attB h 4 && (md2 == md)) w) := by
  obtain ⟨w0, hw0⟩ : ∃ w0, ((w.alloc (.cells (rtC pa pl h o A n c hp md pf aa ai B m d rp ra ri inn loc) 42)).alloc (.cells (atC h2 o2 A2 n2 c2 hp2 md2 pf2 aa2 ai2 B2 m2 d2) 40)) = w0 := ⟨_, rfl⟩
  have HB0 := hide (show Below w.heap.size w w0 from hw0 ▸ ((Below.refl _ w).alloc (Nat.le_refl _) _).alloc (by simp) _)
  have HKr : Hid (Blk w0 w.heap.size 42 (rtC pa pl h o A n c hp md pf aa ai B m d rp ra ri inn loc)) := hide (hw0 ▸ (Blk.new w _ _).alloc _)
  have HKa : Hid (Blk w0 (w.heap.size + 1) 40 (atC h2 o2 A2 n2 c2 hp2 md2 pf2 aa2 ai2 B2 m2 d2)) := hide (hw0 ▸ blk_new' _ _ (by simp))
  have HW0 := hide hw0
  have H1 := hide (fun W => exHas_any 4 ⟨by decide, by decide⟩ h2 o2 A2 n2 c2 hp2 md2 pf2 aa2 ai2 B2 m2 d2 W)
  have H2 := hide (fun W => exHas_any 4 ⟨by decide, by decide⟩ h o A n c hp md pf aa ai B m d W)
  obtain ⟨q1, hq1⟩ : ∃ q, attB h2 4 = q := ⟨_, rfl⟩
  obtain ⟨q2, hq2⟩ : ∃ q, attB h 4 = q := ⟨_, rfl⟩
  rw [hq1] at H1 ⊢
  rw [hq2] at H2 ⊢
  clear hw0 hq1 hq2
  go_enter Tryz.func33, Tryz.ntmps33
  cases loc
  · go_wp2_with fail
    rw [HW0.out]
    refine (H1.out _).mono ?_
    rintro e w1 ⟨rfl, hb1⟩
    have HB1 := hide (HB0.out.trans (hb1.mono HB0.out.size))
    have HKr1 := hide (HKr.out.below hb1 HKr.out.lt)
    have HKa1 := hide (HKa.out.below hb1 HKa.out.lt)
    clear hb1
    cases q1
    · go_wp2
      go_ret
      exact ⟨by simp, HB1.out⟩
    · obtain ⟨r0, r1, r2, r3, r4, r5, r6, r7, r8, r9, r10, r11, r12, r13, r14, r15⟩ := blk16 HKr1.out
      go_wp2_with fail
      refine (H2.out _).mono ?_
      rintro e w2 ⟨rfl, hb2⟩
      have HB2 := hide (HB1.out.trans (hb2.mono HB1.out.size))
      have HKr2 := hide (HKr1.out.below hb2 HKr1.out.lt)
      have HKa2 := hide (HKa1.out.below hb2 HKa1.out.lt)
      clear hb2 r0 r1 r2 r3 r4 r5 r6 r7 r8 r9 r10 r11 r12 r13 r14 r15
      cases q2
      · go_wp2
        go_ret
        exact ⟨by simp, HB2.out⟩
      · have r6 := HKr2.out.cell 6
        have a4 := HKa2.out.cell 4
        go_wp2
        go_ret
        exact ⟨by simp, HB2.out⟩
  · go_wp2
    go_ret
    exact ⟨by simp, by have h := HB0.out; rw [← HW0.out] at h; exact h⟩
end Go.Proofs.YtplhnhoijficgaaGreat
set_option linter.unusedSimpArgs false
set_option linter.unusedVariables false
namespace Go.Proofs.YtplhnhoijficgaaGreat
open Go.RowKit Go.WideShapes Go.ChangeShapes
attribute [local go_sem] Oper.semAt_some
/-- A route, its attributes wherever they lie. -/
structure RT where
  pa : Int
  pl : Int
  at_ : AT
  A : Option Addr
  n : Nat
  c : Nat
  B : Option Addr
  m : Nat
  d : Nat
  rp : Int
  ra : Int
  ri : Int
  inn : Bool
  loc : Bool
abbrev rtV (r : RT) : Array Value := rtC r.pa r.pl r.at_.has r.at_.org r.A r.n r.c r.at_.hop r.at_.med r.at_.pref r.at_.aas r.at_.aid r.B r.m r.d r.rp r.ra r.ri r.inn r.loc
def wireA (cas : Nat) (cid pas : Int) (loc : Bool) (rh rmd : Int) (x : AT) : AT :=
  let n := normA x
  let t := loc || !(pas == (cas : Int))
  let q1 := if t then setB (nmH x.has) 3 else nmH x.has
  let h1 := if t then cid else n.hop
  if pas == (cas : Int) then normA ⟨(setB q1 5 : Nat), n.org, n.path, h1, n.med, if attB (q1 : Int) 5 then n.pref else 100, n.aas, n.aid, n.comms⟩
  else
    let q2 := clrB (setB q1 2) 5
    normA ⟨((if !loc && attB (q2 : Int) 4 && attB rh 4 && (n.med == rmd) then clrB q2 4 else q2 : Nat) : Int), n.org, normS (⟨2, [cas]⟩ :: n.path), h1, n.med, n.pref, n.aas, n.aid, n.comms⟩
/-- export.wire under way: the boxes of what it is handed, and the result's. -/
structure WS (w : World) (x : CF) (y : PE) (r : RT) (cells : Array Value) (wc : World) : Prop where
  bel : Below w.heap.size w wc
  kc : Blk wc w.heap.size 35 (cfC x)
  kp : Blk wc (w.heap.size + 1) 48 (peC y)
  kr : Blk wc (w.heap.size + 1 + 1) 42 (rtV r)
  ka : Blk wc (w.heap.size + 1 + 1 + 1) 40 cells
  kz : Blk wc (w.heap.size + 1 + 1 + 1 + 1) 40 zeroC
theorem WS.call {w wc w2 : World} {x : CF} {y : PE} {r : RT} {cells : Array Value} (h : WS w x y r cells wc) (hb : Below wc.heap.size wc w2) : WS w x y r cells w2 :=
  ⟨h.bel.trans (hb.mono h.bel.size), h.kc.below hb h.kc.lt, h.kp.below hb h.kp.lt, h.kr.below hb h.kr.lt, h.ka.below hb h.ka.lt, h.kz.below hb h.kz.lt⟩
theorem WS.set_ {w wc : World} {x : CF} {y : PE} {r : RT} {cells : Array Value} (h : WS w x y r cells wc) (i : Nat) (v : Value) : WS w x y r (cells.setIfInBounds i v) (wc.setCell ⟨w.heap.size + 1 + 1 + 1, i, none⟩ v) :=
  ⟨h.bel.setCell (by show w.heap.size ≤ w.heap.size + 1 + 1 + 1; omega) v, h.kc.far (by show w.heap.size ≠ w.heap.size + 1 + 1 + 1; omega) v, h.kp.far (by show w.heap.size + 1 ≠ w.heap.size + 1 + 1 + 1; omega) v, h.kr.far (by show w.heap.size + 1 + 1 ≠ w.heap.size + 1 + 1 + 1; omega) v, h.ka.set_ i v, h.kz.far (by show w.heap.size + 1 + 1 + 1 + 1 ≠ w.heap.size + 1 + 1 + 1; omega) v⟩
theorem blk_sets_far {g H : Nat} {t : TypeId} {cs : Array Value} (hne : g ≠ H) : ∀ (vs : List Value) (i : Nat) {w : World}, Blk w g t cs → Blk (w.setCells H i vs) g t cs
  | [], _, _, h => h
  | v :: vs, i, _, h => blk_sets_far hne vs (i + 1) (h.far (p := ⟨H, i, none⟩) hne v)
theorem WS.sets {w wc : World} {x : CF} {y : PE} {r : RT} {u0 u1 u2 u3 u4 u5 u6 u7 u8 v0 v1 v2 v3 v4 v5 v6 v7 v8 : Value} (h : WS w x y r #[u0, u1, u2, u3, u4, u5, u6, u7, u8] wc) :
    WS w x y r #[v0, v1, v2, v3, v4, v5, v6, v7, v8] (wc.setCells (w.heap.size + 1 + 1 + 1) 0 [v0, v1, v2, v3, v4, v5, v6, v7, v8]) :=
  ⟨below_sets _ 0 h.bel (by omega), blk_sets_far (by omega) _ 0 h.kc, blk_sets_far (by omega) _ 0 h.kp, blk_sets_far (by omega) _ 0 h.kr, blk9_set h.ka, blk_sets_far (by omega) _ 0 h.kz⟩
theorem WS.start (w : World) (x : CF) (y : PE) (r : RT) (cells : Array Value) : WS w x y r cells (((((w.alloc (.cells (cfC x) 35)).alloc (.cells (peC y) 48)).alloc (.cells (rtV r) 42)).alloc (.cells cells 40)).alloc (.cells zeroC 40)) :=
  ⟨((((((Below.refl _ w).alloc (Nat.le_refl _) _).alloc (by simp) _).alloc (by simp; omega) _).alloc (by simp; omega) _).alloc (by simp; omega) _), ((((Blk.new w _ _).alloc _).alloc _).alloc _).alloc _, (((blk_new' _ _ (by simp)).alloc _).alloc _).alloc _, ((blk_new' _ _ (by simp)).alloc _).alloc _, (blk_new' _ _ (by simp)).alloc _, blk_new' _ _ (by simp)⟩
/-- What lies behind attributes at these addresses, from b on. -/
def PU (b : Nat) (w : World) (A : Option Addr) (n c : Nat) (B : Option Addr) (m d : Nat) (P : List SG) (C : List Nat) : Prop := (∃ xs, LOw 2 59 sgR w b b A n c P xs) ∧ FrB b none (fun w => U32s w B m d C) w
section
variable {b H : Nat} {w w' : World} {A : Option Addr} {n c : Nat} {B : Option Addr} {m d : Nat} {P : List SG} {C : List Nat}
theorem PU.below (h : PU b w A n c B m d P C) (hb : Below w.heap.size w w') : PU b w' A n c B m d P C := by
  obtain ⟨⟨xs, h1⟩, h2⟩ := h
  exact ⟨⟨xs, h1.below hb⟩, h2.below hb⟩
theorem PU.set_ {i : Nat} (h : PU b w A n c B m d P C) (hH : H < b) (v : Value) : PU b (w.setCell ⟨H, i, none⟩ v) A n c B m d P C := by
  obtain ⟨⟨xs, h1⟩, h2⟩ := h
  exact ⟨⟨xs, h1.set hH hH v⟩, h2.set (p := ⟨H, i, none⟩) hH v⟩
theorem PU.less {b' : Nat} (h : PU b w A n c B m d P C) (hl : b' ≤ b) : PU b' w A n c B m d P C := by
  obtain ⟨⟨xs, h1⟩, h2⟩ := h
  exact ⟨⟨xs, h1.less hl hl⟩, h2.less hl⟩
theorem PU.lst (h : PU b w A n c B m d P C) : LstAt 2 sgR w A n c P := by obtain ⟨⟨xs, h1⟩, h2⟩ := h; exact h1.lst (by decide)
theorem PU.u32 (h : PU b w A n c B m d P C) : U32s w B m d C := h.2.here
end
theorem PU.sets {b H : Nat} {A : Option Addr} {n c : Nat} {B : Option Addr} {m d : Nat} {P : List SG} {C : List Nat} : ∀ (vs : List Value) (i : Nat) {w : World}, PU b w A n c B m d P C → H < b → PU b (w.setCells H i vs) A n c B m d P C
  | [], _, _, h, _ => h
  | v :: vs, i, _, h, h1 => PU.sets vs (i + 1) (h.set_ h1 v) h1
set_option maxRecDepth 100000 in
set_option maxHeartbeats 16000000 in
theorem exWire_any (cas : Nat) (hcas : cas < 4294967296) (x : CF) (hx : x.asn = (cas : Int)) (y : PE) (r : RT) (X : AT) (v : Value) (w : World) (hv : AtR w X v) (hn : numS X.path ≤ 8000) (hm : X.comms.length ≤ 10000) :
    Calls Tryz.prog 22 #[.agg (cfC x), .agg (peC y), .agg (rtV r), v] w (AtP (wireA cas x.id y.asn r.loc r.at_.has r.at_.med X) w) := by
  obtain ⟨A, n, c, B, m, d, rfl, hP, hC⟩ := hv
  obtain ⟨w0, hw0⟩ : ∃ w0, ((((w.alloc (.cells (cfC x) 35)).alloc (.cells (peC y) 48)).alloc (.cells (rtV r) 42)).alloc (.cells (atC X.has X.org A n c X.hop X.med X.pref X.aas X.aid B m d) 40)).alloc (.cells zeroC 40) = w0 := ⟨_, rfl⟩
  have HS : Hid (WS w x y r (atC X.has X.org A n c X.hop X.med X.pref X.aas X.aid B m d) w0) := hide (hw0 ▸ WS.start w x y r _)
  have HNm := hide (attrNormX_any X (atV X.has X.org A n c X.hop X.med X.pref X.aas X.aid B m d) w0 ⟨A, n, c, B, m, d, rfl, hP.below sgMono HS.out.bel, hC.below HS.out.bel⟩ (by omega) hm)
  have HNum : Hid (numS (normA X).path ≤ 8000) := hide (by
    show numS (if attB X.has 2 then normS X.path else []) ≤ 8000
    split
    · have := numS_norm X.path; omega
    · simp [numS])
  have HNl : Hid ((normA X).path.length ≤ 10000) := hide (by
    show (if attB X.has 2 then normS X.path else []).length ≤ 10000
    split
    · have := normS_len X.path; omega
    · simp)
  have HCl : Hid ((normA X).comms.length ≤ 10000) := hide (by
    show (if attB X.has 8 then setOf X.comms else []).length ≤ 10000
    split
    · have := setOf_len X.comms; omega
    · simp)
  obtain ⟨q, hq⟩ : ∃ q, nmH X.has = q := ⟨_, rfl⟩
  have Hq8 : Hid (Own8 q) := hide (hq ▸ own8_nm X.has)
  obtain ⟨XN, hXN⟩ : ∃ Y, normA X = Y := ⟨_, rfl⟩
  have hXh : XN.has = (q : Int) := by rw [← hXN, ← hq]; rfl
  have HRes : Hid (wireA cas x.id y.asn r.loc r.at_.has r.at_.med X = if (y.asn == x.asn) = true then normA ⟨(setB (if (r.loc || !(y.asn == x.asn)) = true then setB q 3 else q) 5 : Nat), XN.org, XN.path, if (r.loc || !(y.asn == x.asn)) = true then x.id else XN.hop, XN.med, if attB ((if (r.loc || !(y.asn == x.asn)) = true then setB q 3 else q : Nat) : Int) 5 = true then XN.pref else 100, XN.aas, XN.aid, XN.comms⟩ else
    normA ⟨((if (!r.loc && attB ((clrB (setB (if (r.loc || !(y.asn == x.asn)) = true then setB q 3 else q) 2) 5 : Nat) : Int) 4 && attB r.at_.has 4 && (XN.med == r.at_.med)) = true then clrB (clrB (setB (if (r.loc || !(y.asn == x.asn)) = true then setB q 3 else q) 2) 5) 4 else clrB (setB (if (r.loc || !(y.asn == x.asn)) = true then setB q 3 else q) 2) 5 : Nat) : Int), XN.org, normS (⟨2, [cas]⟩ :: XN.path), if (r.loc || !(y.asn == x.asn)) = true then x.id else XN.hop, XN.med, XN.pref, XN.aas, XN.aid, XN.comms⟩) := hide (by rw [hx, ← hXN, ← hq]; rfl)
  obtain ⟨RES, hRES⟩ : ∃ R, wireA cas x.id y.asn r.loc r.at_.has r.at_.med X = R := ⟨_, rfl⟩
  rw [hRES] at HRes ⊢
  rw [hXN] at HNm HNum HNl HCl
  have HW0 := hide hw0
  obtain ⟨hh, o1, P, H0, M, F, AA, AI, C⟩ := XN
  simp only at hXh HNum HNl HCl HRes
  subst hXh
  obtain ⟨ib, hib⟩ : ∃ ib, (y.asn == x.asn) = ib := ⟨_, rfl⟩
  have HIn := hide (fun W => exInner_any x y W)
  rw [hib] at HIn HRes
  have Hcas := hide hcas
  have Hx := hide hx
  clear hw0 hP hC hn hm hq hXN hib hcas hx hRES
  go_enter Tryz.func22, Tryz.ntmps22
  go_wp2_with fail
  rw [HW0.out]
  refine HNm.out.mono ?_
  rintro e w1 ⟨v1, rfl, ho, hb⟩
  obtain ⟨A1, n1, c1, xs1, B1, m1, d1, rfl, hl, hu⟩ := ho
  have hs : (w.heap.size + 1 + 1 + 1 + 1 + 1) ≤ w0.heap.size := HS.out.kz.lt
  have HPU : Hid (PU (w.heap.size + 1 + 1 + 1 + 1 + 1) w1 A1 n1 c1 B1 m1 d1 P C) := hide ⟨⟨xs1, hl.less hs hs⟩, hu.less hs⟩
  have HS := hide (HS.out.call hb)
  clear hl hu hb hs
  obtain ⟨a0, a1, a2, a3, a4, a5, a6, a7, a8⟩ := blk9 HS.out.ka
  have af := fun i => HS.out.ka.frozen i
  go_upto_region 2 with fail
  change Code.wp _ _ _ _ (w1.setCells (w.heap.size + 1 + 1 + 1) 0 [.int .i64 q, .int .i64 o1, .slice A1 n1 c1, .int .u32 H0, .int .u32 M, .int .u32 F, .int .u32 AA, .int .u32 AI, .slice B1 m1 d1])
  obtain ⟨w2, hw2⟩ : ∃ W, w1.setCells (w.heap.size + 1 + 1 + 1) 0 [.int .i64 q, .int .i64 o1, .slice A1 n1 c1, .int .u32 H0, .int .u32 M, .int .u32 F, .int .u32 AA, .int .u32 AI, .slice B1 m1 d1] = W := ⟨_, rfl⟩
  have HS2 : Hid (WS w x y r (atC q o1 A1 n1 c1 H0 M F AA AI B1 m1 d1) w2) := hide (hw2 ▸ WS.sets HS.out)
  have HPU2 : Hid (PU (w.heap.size + 1 + 1 + 1 + 1 + 1) w2 A1 n1 c1 B1 m1 d1 P C) := hide (hw2 ▸ PU.sets _ 0 HPU.out (by omega))
  rw [hw2]
  clear hw2 a0 a1 a2 a3 a4 a5 a6 a7 a8 af HS HPU
  obtain ⟨t, ht⟩ : ∃ t, (r.loc || !ib) = t := ⟨_, rfl⟩
  rw [ht] at HRes
  have HT := hide ht
  go_cut [18] (fun s18 wc => s18 = .bool t ∧ WS w x y r (atC q o1 A1 n1 c1 H0 M F AA AI B1 m1 d1) wc ∧ PU (w.heap.size + 1 + 1 + 1 + 1 + 1) wc A1 n1 c1 B1 m1 d1 P C)
  case first =>
    have r15 : w2.cell? ⟨w.heap.size + 1 + 1, 15, none⟩ = some (.bool r.loc) := HS2.out.kr.cell 15
    obtain ⟨lc, hlc⟩ : ∃ b, r.loc = b := ⟨_, rfl⟩
    rw [hlc] at r15 ht
    clear hlc
    cases lc
    · obtain ⟨c0, c1_, c2, c3, c4, c5, c6, c7, c8, c9, c10, c11⟩ := blk12 HS2.out.kc
      obtain ⟨p0, p1, p2, p3, p4, p5, p6, p7, p8, p9, p10, p11⟩ := blk12 HS2.out.kp
      go_wp2_with fail
      refine (HIn.out w2).mono ?_
      rintro e w3 ⟨rfl, hb⟩
      have HS3 := hide (HS2.out.call hb)
      have HPU3 := hide (HPU2.out.below hb)
      clear hb c0 c1_ c2 c3 c4 c5 c6 c7 c8 c9 c10 c11 p0 p1 p2 p3 p4 p5 p6 p7 p8 p9 p10 p11
      go_wp2
      go_meet
      exact ⟨by rw [← ht]; try simp, HS3.out, HPU3.out⟩
    · go_wp2
      go_meet
      exact ⟨by rw [← ht]; try simp, HS2.out, HPU2.out⟩
  case rest =>
    obtain ⟨rfl, hs, hpu⟩ := hcut
    have HS := hide hs
    have HPU := hide hpu
    clear hs hpu HS2 HPU2 ht
    obtain ⟨q1, hq1⟩ : ∃ v, (if t = true then setB q 3 else q) = v := ⟨_, rfl⟩
    obtain ⟨h1, hh1⟩ : ∃ v, (if t = true then x.id else H0) = v := ⟨_, rfl⟩
    rw [hq1, hh1] at HRes
    have HQ1 := hide hq1
    have HH1 := hide hh1
    have HO1 : Hid (Own8 q1) := hide (by rw [← hq1]; split; exact own8_set Hq8.out ⟨by decide, by decide⟩; exact Hq8.out)
    clear hq1 hh1
    go_upto_if 18 with fail
    go_cut [] (fun wc => WS w x y r (atC q1 o1 A1 n1 c1 h1 M F AA AI B1 m1 d1) wc ∧ PU (w.heap.size + 1 + 1 + 1 + 1 + 1) wc A1 n1 c1 B1 m1 d1 P C)
    case first =>
      have hlt : w.heap.size + 1 + 1 + 1 < (w.heap.size + 1 + 1 + 1 + 1 + 1) := by omega
      cases t
      · have e1 := HQ1.out
        have e2 := HH1.out
        simp only [Bool.false_eq_true, if_false] at e1 e2
        subst e1 e2
        clear HQ1 HH1
        go_wp2
        go_meet
        exact ⟨HS.out, HPU.out⟩
      · have e1 := HQ1.out
        have e2 := HH1.out
        simp only [if_true] at e1 e2
        have c1_ : wc.cell? ⟨w.heap.size, 1, none⟩ = some (.int .u32 x.id) := HS.out.kc.cell 1
        obtain ⟨a0, a1, a2, a3, a4, a5, a6, a7, a8⟩ := blk9 HS.out.ka
        have af := fun i => HS.out.ka.frozen i
        have HS4 := hide (HS.out.set_ 3 (.int .u32 x.id))
        have HPU4 := hide (HPU.out.set_ (i := 3) hlt (.int .u32 x.id))
        have HW := hide (fun W => exWith_any 3 (by omega) q Hq8.out.1 o1 A1 n1 c1 x.id M F AA AI B1 m1 d1 W)
        have HE1 := hide e1
        have HE2 := hide e2
        clear e1 e2 hlt
        go_wp2_with fail
        refine (HW.out _).mono ?_
        rintro e w5 ⟨rfl, hb⟩
        have HS5 := hide (HS4.out.call hb)
        have HPU5 := hide (HPU4.out.below hb)
        clear hb a0 a1 a2 a3 a4 a5 a6 a7 a8 af c1_
        rw [HE1.out]
        obtain ⟨a0, a1, a2, a3, a4, a5, a6, a7, a8⟩ := blk9 HS5.out.ka
        have af := fun i => HS5.out.ka.frozen i
        go_wp2
        go_meet
        rw [← HE2.out]
        have hg1 : WS w x y r (atC q1 o1 A1 n1 c1 x.id M F AA AI B1 m1 d1) (w5.setCells (w.heap.size + 1 + 1 + 1) 0 [.int .i64 q1, .int .i64 o1, .slice A1 n1 c1, .int .u32 x.id, .int .u32 M, .int .u32 F, .int .u32 AA, .int .u32 AI, .slice B1 m1 d1]) := WS.sets HS5.out
        have hg2 : PU (w.heap.size + 1 + 1 + 1 + 1 + 1) (w5.setCells (w.heap.size + 1 + 1 + 1) 0 [.int .i64 q1, .int .i64 o1, .slice A1 n1 c1, .int .u32 x.id, .int .u32 M, .int .u32 F, .int .u32 AA, .int .u32 AI, .slice B1 m1 d1]) A1 n1 c1 B1 m1 d1 P C := PU.sets _ 0 HPU5.out (by omega)
        exact ⟨hg1, hg2⟩
    case rest =>
      obtain ⟨hs, hpu⟩ := hcut
      clear HS HPU
      have HS := hide hs
      have HPU := hide hpu
      clear hs hpu HQ1 HH1
      obtain ⟨w6, hw6⟩ : ∃ W, W = wc := ⟨_, rfl⟩
      subst hw6
      obtain ⟨c0, c1_, c2, c3, c4, c5, c6, c7, c8, c9, c10, c11⟩ := blk12 HS.out.kc
      obtain ⟨p0, p1, p2, p3, p4, p5, p6, p7, p8, p9, p10, p11⟩ := blk12 HS.out.kp
      go_wp2_with fail
      refine (HIn.out w6).mono ?_
      rintro e w7 ⟨rfl, hb⟩
      have HS := hide (HS.out.call hb)
      have HPU := hide (HPU.out.below hb)
      clear hb c0 c1_ c2 c3 c4 c5 c6 c7 c8 c9 c10 c11 p0 p1 p2 p3 p4 p5 p6 p7 p8 p9 p10 p11
      cases ib
      · obtain ⟨q2, hq2⟩ : ∃ v, clrB (setB q1 2) 5 = v := ⟨_, rfl⟩
        have hr := HRes.out.trans (if_neg (by decide))
        rw [hq2] at hr
        have HO2 : Hid (Own8 q2) := hide (by rw [← hq2]; exact own8_clr (own8_set HO1.out ⟨by decide, by decide⟩) ⟨by decide, by decide⟩)
        have HQ2 := hide hq2
        obtain ⟨kp, hkp⟩ : ∃ v, (!r.loc && attB (q2 : Int) 4 && attB r.at_.has 4 && (M == r.at_.med)) = v := ⟨_, rfl⟩
        rw [hkp] at hr
        have HKp := hide hkp
        obtain ⟨q3, hq3⟩ : ∃ v, (if kp = true then clrB q2 4 else q2) = v := ⟨_, rfl⟩
        rw [hq3] at hr
        have HQ3 := hide hq3
        have HO3 : Hid (Own8 q3) := hide (by rw [← hq3]; split; exact own8_clr HO2.out ⟨by decide, by decide⟩; exact HO2.out)
        obtain ⟨PN, hPN⟩ : ∃ v, normS (⟨2, [cas]⟩ :: P) = v := ⟨_, rfl⟩
        rw [hPN] at hr
        have HPN : Hid (normS (⟨2, List.replicate (timesN 1) cas⟩ :: P) = PN) := hide hPN
        have HPs : Hid (numS PN ≤ 10000) := hide (by have h1 := numS_norm (⟨2, [cas]⟩ :: P); rw [hPN, numS_cons] at h1; simp only [List.length_cons, List.length_nil] at h1; have := HNum.out; omega)
        have HRes := hide hr
        have hn1 : n1 ≤ 10000 := by rw [← HPU.out.lst.1]; exact HNl.out
        have HPr := hide (prepend_any A1 n1 c1 cas 1 P w7 HPU.out.lst Hcas.out (by have := HNum.out; omega) hn1)
        clear hq2 hkp hq3 hPN hr hn1
        have c0 : w7.cell? ⟨w.heap.size, 0, none⟩ = some (.int .u32 (cas : Int)) := by rw [← Hx.out]; exact HS.out.kc.cell 0
        have a2 := HS.out.ka.cell 2
        go_wp2_with fail
        refine HPr.out.mono ?_
        intro e w8 hmv
        unfold SegP at hmv
        obtain ⟨A2, n2, c2, xs2, rfl, hl, hb⟩ := hmv
        rw [HPN.out] at hl
        have hs : (w.heap.size + 1 + 1 + 1 + 1 + 1) ≤ w7.heap.size := HS.out.kz.lt
        have HPU : Hid (PU (w.heap.size + 1 + 1 + 1 + 1 + 1) w8 A2 n2 c2 B1 m1 d1 PN C) := hide ⟨⟨xs2, hl.less hs hs⟩, HPU.out.2.below hb⟩
        have HS := hide (HS.out.call hb)
        clear hl hb hs c0 a2
        have HSn := hide (HS.out.set_ 2 (.slice A2 n2 c2))
        have HPUn := hide (HPU.out.set_ (i := 2) (H := w.heap.size + 1 + 1 + 1) (by omega) (.slice A2 n2 c2))
        obtain ⟨a0, a1, a2, a3, a4, a5, a6, a7, a8⟩ := blk9 HS.out.ka
        have af := fun i => HS.out.ka.frozen i
        have HWi := hide (fun W => exWith_any 2 (by omega) q1 HO1.out.1 o1 A2 n2 c2 h1 M F AA AI B1 m1 d1 W)
        have HWo := hide (fun W => exWithout_any 5 (by omega) (setB q1 2) (setB_lt HO1.out.1 ⟨by decide, by decide⟩) o1 A2 n2 c2 h1 M F AA AI B1 m1 d1 W)
        rw [HQ2.out] at HWo
        go_wp2_with fail
        refine (HWi.out _).mono ?_
        rintro e w9 ⟨rfl, hb⟩
        have HS9 := hide (HSn.out.call hb)
        have HPU9 := hide (HPUn.out.below hb)
        clear hb a0 a1 a2 a3 a4 a5 a6 a7 a8 af HWi
        go_wp2_with fail
        refine (HWo.out _).mono ?_
        rintro e w10 ⟨rfl, hb⟩
        have HS10 := hide (HS9.out.call hb)
        have HPU10 := hide (HPU9.out.below hb)
        clear hb HWo
        obtain ⟨a0, a1, a2, a3, a4, a5, a6, a7, a8⟩ := blk9 HS10.out.ka
        have af := fun i => HS10.out.ka.frozen i
        go_upto_region 11 with fail
        change Code.wp _ _ _ _ (w10.setCells (w.heap.size + 1 + 1 + 1) 0 [.int .i64 q2, .int .i64 o1, .slice A2 n2 c2, .int .u32 h1, .int .u32 M, .int .u32 F, .int .u32 AA, .int .u32 AI, .slice B1 m1 d1])
        obtain ⟨w11, hw11⟩ : ∃ W, w10.setCells (w.heap.size + 1 + 1 + 1) 0 [.int .i64 q2, .int .i64 o1, .slice A2 n2 c2, .int .u32 h1, .int .u32 M, .int .u32 F, .int .u32 AA, .int .u32 AI, .slice B1 m1 d1] = W := ⟨_, rfl⟩
        have HS11 : Hid (WS w x y r (atC q2 o1 A2 n2 c2 h1 M F AA AI B1 m1 d1) w11) := hide (hw11 ▸ WS.sets HS10.out)
        have HPU11 : Hid (PU (w.heap.size + 1 + 1 + 1 + 1 + 1) w11 A2 n2 c2 B1 m1 d1 PN C) := hide (hw11 ▸ PU.sets _ 0 HPU10.out (by omega))
        rw [hw11]
        clear hw11 a0 a1 a2 a3 a4 a5 a6 a7 a8 af HS HPU HSn HPUn HS9 HPU9 HS10 HPU10
        have HKe := hide (exKept_any r.pa r.pl r.at_.has r.at_.org r.A r.n r.c r.at_.hop r.at_.med r.at_.pref r.at_.aas r.at_.aid r.B r.m r.d r.rp r.ra r.ri r.inn r.loc q2 o1 A2 n2 c2 h1 M F AA AI B1 m1 d1 w11)
        rw [HKp.out] at HKe
        obtain ⟨a0, a1, a2, a3, a4, a5, a6, a7, a8⟩ := blk9 HS11.out.ka
        obtain ⟨r0, r1, r2, r3, r4, r5, r6, r7, r8, r9, r10, r11, r12, r13, r14, r15⟩ := blk16 HS11.out.kr
        go_wp2_with fail
        refine HKe.out.mono ?_
        rintro e w12 ⟨rfl, hb⟩
        have HS := hide (HS11.out.call hb)
        have HPU := hide (HPU11.out.below hb)
        clear hb a0 a1 a2 a3 a4 a5 a6 a7 a8 r0 r1 r2 r3 r4 r5 r6 r7 r8 r9 r10 r11 r12 r13 r14 r15 HS11 HPU11 HKe HKp
        go_upto_if 45 with fail
        go_cut [] (fun wc => WS w x y r (atC q3 o1 A2 n2 c2 h1 M F AA AI B1 m1 d1) wc ∧ PU (w.heap.size + 1 + 1 + 1 + 1 + 1) wc A2 n2 c2 B1 m1 d1 PN C)
        case first =>
          have hf := HQ3.out
          cases kp
          · simp only [Bool.false_eq_true, if_false] at hf
            subst hf
            clear HQ3
            go_wp2
            go_meet
            exact ⟨HS.out, HPU.out⟩
          · simp only [if_true] at hf
            subst hf
            clear HQ3
            have HWp := hide (exWithout_any 4 (by omega) q2 HO2.out.1 o1 A2 n2 c2 h1 M F AA AI B1 m1 d1 w12)
            obtain ⟨a0, a1, a2, a3, a4, a5, a6, a7, a8⟩ := blk9 HS.out.ka
            go_wp2_with fail
            refine HWp.out.mono ?_
            rintro e w13 ⟨rfl, hb⟩
            have HS13 := hide (HS.out.call hb)
            have HPU13 := hide (HPU.out.below hb)
            clear hb a0 a1 a2 a3 a4 a5 a6 a7 a8
            obtain ⟨a0, a1, a2, a3, a4, a5, a6, a7, a8⟩ := blk9 HS13.out.ka
            have af := fun i => HS13.out.ka.frozen i
            go_wp2
            go_meet
            have hg1 : WS w x y r (atC (clrB q2 4 : Nat) o1 A2 n2 c2 h1 M F AA AI B1 m1 d1) (w13.setCells (w.heap.size + 1 + 1 + 1) 0 [.int .i64 (clrB q2 4 : Nat), .int .i64 o1, .slice A2 n2 c2, .int .u32 h1, .int .u32 M, .int .u32 F, .int .u32 AA, .int .u32 AI, .slice B1 m1 d1]) := WS.sets HS13.out
            have hg2 : PU (w.heap.size + 1 + 1 + 1 + 1 + 1) (w13.setCells (w.heap.size + 1 + 1 + 1) 0 [.int .i64 (clrB q2 4 : Nat), .int .i64 o1, .slice A2 n2 c2, .int .u32 h1, .int .u32 M, .int .u32 F, .int .u32 AA, .int .u32 AI, .slice B1 m1 d1]) A2 n2 c2 B1 m1 d1 PN C := PU.sets _ 0 HPU13.out (by omega)
            exact ⟨hg1, hg2⟩
        case rest =>
          obtain ⟨hs, hpu⟩ := hcut
          clear HS HPU
          have HS := hide hs
          have HPU := hide hpu
          clear hs hpu HQ3
          obtain ⟨w13, hw13⟩ : ∃ W, W = wc := ⟨_, rfl⟩
          subst hw13
          obtain ⟨a0, a1, a2, a3, a4, a5, a6, a7, a8⟩ := blk9 HS.out.ka
          have HNm2 := hide (attrNormX_any ⟨(q3 : Nat), o1, PN, h1, M, F, AA, AI, C⟩ (atV q3 o1 A2 n2 c2 h1 M F AA AI B1 m1 d1) w13 ⟨A2, n2, c2, B1, m1, d1, rfl, HPU.out.lst, HPU.out.u32⟩ HPs.out HCl.out)
          rw [← HRes.out] at HNm2
          have HSL : Hid (w.heap.size + 1 + 1 + 1 + 1 < w13.heap.size) := hide HS.out.kz.lt
          go_wp2_with fail
          refine HNm2.out.mono ?_
          clear a0 a1 a2 a3 a4 a5 a6 a7 a8
          rintro e w14 ⟨v, rfl, ho, hb⟩
          obtain ⟨A3, n3, c3, xs3, B3, m3, d3, rfl, hl, hu⟩ := ho
          have HS := hide (HS.out.call hb)
          have hlt : w.heap.size + 1 + 1 + 1 + 1 < w13.heap.size := Nat.lt_of_lt_of_le HSL.out (Nat.le_refl _)
          have HO := hide (show AtO w13.heap.size w14 RES (atV RES.has RES.org A3 n3 c3 RES.hop RES.med RES.pref RES.aas RES.aid B3 m3 d3) from ⟨A3, n3, c3, xs3, B3, m3, d3, rfl, hl, hu⟩)
          clear hl hu hb
          obtain ⟨z0, z1, z2, z3, z4, z5, z6, z7, z8⟩ := blk9 HS.out.kz
          have zf := fun i => HS.out.kz.frozen i
          go_wp2
          change bodyPost _ _ _ _ _ (w14.setCells (w.heap.size + 1 + 1 + 1 + 1) 0 [.int .i64 RES.has, .int .i64 RES.org, .slice A3 n3 c3, .int .u32 RES.hop, .int .u32 RES.med, .int .u32 RES.pref, .int .u32 RES.aas, .int .u32 RES.aid, .slice B3 m3 d3])
          obtain ⟨wF, hwF⟩ : ∃ x, w14.setCells (w.heap.size + 1 + 1 + 1 + 1) 0 [.int .i64 RES.has, .int .i64 RES.org, .slice A3 n3 c3, .int .u32 RES.hop, .int .u32 RES.med, .int .u32 RES.pref, .int .u32 RES.aas, .int .u32 RES.aid, .slice B3 m3 d3] = x := ⟨_, rfl⟩
          have HFk := hide (hwF ▸ blk9_set HS.out.kz : Blk wF (w.heap.size + 1 + 1 + 1 + 1) 40 (atC RES.has RES.org A3 n3 c3 RES.hop RES.med RES.pref RES.aas RES.aid B3 m3 d3))
          have HFo := hide (hwF ▸ AtO.sets _ 0 HO.out hlt : AtO w13.heap.size wF RES (atV RES.has RES.org A3 n3 c3 RES.hop RES.med RES.pref RES.aas RES.aid B3 m3 d3))
          have HFb := hide (hwF ▸ below_sets _ 0 HS.out.bel (by omega) : Below w.heap.size w wF)
          rw [hwF]
          clear hwF z0 z1 z2 z3 z4 z5 z6 z7 z8 zf
          obtain ⟨z0, z1, z2, z3, z4, z5, z6, z7, z8⟩ := blk9 HFk.out
          exact bodyPost_ret (v := atV RES.has RES.org A3 n3 c3 RES.hop RES.med RES.pref RES.aas RES.aid B3 m3 d3) (by simp [results, Tryz.results22, go_sem, z0, z1, z2, z3, z4, z5, z6, z7, z8]) rfl ⟨_, rfl, HFo.out.less (b' := w.heap.size) (by omega), HFb.out⟩
      · have hr := HRes.out
        rw [if_pos (show ((true : Bool) = true) from rfl)] at hr
        obtain ⟨F1, hF1⟩ : ∃ v, (if attB (q1 : Int) 5 = true then F else 100) = v := ⟨_, rfl⟩
        rw [hF1] at hr
        have HF1 := hide hF1
        have HResI := hide hr
        clear HRes
        obtain ⟨g, hg⟩ : ∃ g, attB (q1 : Int) 5 = g := ⟨_, rfl⟩
        have HHs := hide (fun W => exHas_any 5 ⟨by decide, by decide⟩ q1 o1 A1 n1 c1 h1 M F AA AI B1 m1 d1 W)
        rw [hg] at HHs HF1
        clear hr hF1 hg
        obtain ⟨a0, a1, a2, a3, a4, a5, a6, a7, a8⟩ := blk9 HS.out.ka
        go_wp2_with fail
        refine (HHs.out w7).mono ?_
        rintro e w8 ⟨rfl, hb⟩
        have HS := hide (HS.out.call hb)
        have HPU := hide (HPU.out.below hb)
        clear hb a0 a1 a2 a3 a4 a5 a6 a7 a8
        go_upto_if 29 with fail
        go_cut [] (fun wc => WS w x y r (atC q1 o1 A1 n1 c1 h1 M F1 AA AI B1 m1 d1) wc ∧ PU (w.heap.size + 1 + 1 + 1 + 1 + 1) wc A1 n1 c1 B1 m1 d1 P C)
        case first =>
          have hf := HF1.out
          cases g
          · simp only [Bool.false_eq_true, if_false] at hf
            subst hf
            clear HF1
            have a5 := HS.out.ka.cell 5
            have af := fun i => HS.out.ka.frozen i
            go_wp2
            go_meet
            exact ⟨HS.out.set_ 5 _, HPU.out.set_ (by omega) _⟩
          · simp only [if_true] at hf
            subst hf
            clear HF1
            go_wp2
            go_meet
            exact ⟨HS.out, HPU.out⟩
        case rest =>
          obtain ⟨hs, hpu⟩ := hcut
          clear HS HPU
          have HS := hide hs
          have HPU := hide hpu
          clear hs hpu HF1
          obtain ⟨w9, hw9⟩ : ∃ W, W = wc := ⟨_, rfl⟩
          subst hw9
          obtain ⟨a0, a1, a2, a3, a4, a5, a6, a7, a8⟩ := blk9 HS.out.ka
          have HW := hide (exWith_any 5 (by omega) q1 HO1.out.1 o1 A1 n1 c1 h1 M F1 AA AI B1 m1 d1 w9)
          go_wp2_with fail
          refine HW.out.mono ?_
          rintro e w10 ⟨rfl, hb⟩
          have HS := hide (HS.out.call hb)
          have HPU := hide (HPU.out.below hb)
          have HNm2 := hide (attrNormX_any ⟨(setB q1 5 : Nat), o1, P, h1, M, F1, AA, AI, C⟩ (atV (setB q1 5 : Nat) o1 A1 n1 c1 h1 M F1 AA AI B1 m1 d1) w10 ⟨A1, n1, c1, B1, m1, d1, rfl, HPU.out.lst, HPU.out.u32⟩ (by have := HNum.out; simp only; omega) HCl.out)
          rw [← HResI.out] at HNm2
          have HSL : Hid (w.heap.size + 1 + 1 + 1 + 1 < w10.heap.size) := hide HS.out.kz.lt
          clear hb a0 a1 a2 a3 a4 a5 a6 a7 a8 HW
          go_wp2_with fail
          refine HNm2.out.mono ?_
          rintro e w11 ⟨v, rfl, ho, hb⟩
          obtain ⟨A2, n2, c2, xs2, B2, m2, d2, rfl, hl, hu⟩ := ho
          have HS := hide (HS.out.call hb)
          have hlt : w.heap.size + 1 + 1 + 1 + 1 < w10.heap.size := Nat.lt_of_lt_of_le HSL.out (Nat.le_refl _)
          have HO := hide (show AtO w10.heap.size w11 RES (atV RES.has RES.org A2 n2 c2 RES.hop RES.med RES.pref RES.aas RES.aid B2 m2 d2) from ⟨A2, n2, c2, xs2, B2, m2, d2, rfl, hl, hu⟩)
          clear hl hu hb
          obtain ⟨z0, z1, z2, z3, z4, z5, z6, z7, z8⟩ := blk9 HS.out.kz
          have zf := fun i => HS.out.kz.frozen i
          go_wp2
          change bodyPost _ _ _ _ _ (w11.setCells (w.heap.size + 1 + 1 + 1 + 1) 0 [.int .i64 RES.has, .int .i64 RES.org, .slice A2 n2 c2, .int .u32 RES.hop, .int .u32 RES.med, .int .u32 RES.pref, .int .u32 RES.aas, .int .u32 RES.aid, .slice B2 m2 d2])
          obtain ⟨wF, hwF⟩ : ∃ x, w11.setCells (w.heap.size + 1 + 1 + 1 + 1) 0 [.int .i64 RES.has, .int .i64 RES.org, .slice A2 n2 c2, .int .u32 RES.hop, .int .u32 RES.med, .int .u32 RES.pref, .int .u32 RES.aas, .int .u32 RES.aid, .slice B2 m2 d2] = x := ⟨_, rfl⟩
          have HFk := hide (hwF ▸ blk9_set HS.out.kz : Blk wF (w.heap.size + 1 + 1 + 1 + 1) 40 (atC RES.has RES.org A2 n2 c2 RES.hop RES.med RES.pref RES.aas RES.aid B2 m2 d2))
          have HFo := hide (hwF ▸ AtO.sets _ 0 HO.out hlt : AtO w10.heap.size wF RES (atV RES.has RES.org A2 n2 c2 RES.hop RES.med RES.pref RES.aas RES.aid B2 m2 d2))
          have HFb := hide (hwF ▸ below_sets _ 0 HS.out.bel (by omega) : Below w.heap.size w wF)
          rw [hwF]
          clear hwF z0 z1 z2 z3 z4 z5 z6 z7 z8 zf
          obtain ⟨z0, z1, z2, z3, z4, z5, z6, z7, z8⟩ := blk9 HFk.out
          exact bodyPost_ret (v := atV RES.has RES.org A2 n2 c2 RES.hop RES.med RES.pref RES.aas RES.aid B2 m2 d2) (by simp [results, Tryz.results22, go_sem, z0, z1, z2, z3, z4, z5, z6, z7, z8]) rfl ⟨_, rfl, HFo.out.less (b' := w.heap.size) (by omega), HFb.out⟩
end Go.Proofs.YtplhnhoijficgaaGreat
