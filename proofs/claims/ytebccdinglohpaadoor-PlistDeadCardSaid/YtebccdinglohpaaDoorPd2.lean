import Derived.Test.YtebccdinglohpaaDoorPd1
import Derived.Test.YtebccdinglohpaaDoorPdSh
import Derived.Shelf.Strings.Builder1
import Derived.Shelf.Strings.Builder2
import Derived.Shelf.Strings.OnBuilder
import Derived.Shelf.LaysM
import Derived.WalkKit
import Derived.ProofKit
import Derived.OpenShut
import Derived.Below
import Derived.Laws.OwnMore
import Derived.Laws.Rows
import Derived.Laws.MakeOwn
import Derived.Deep.AppendLies
import Derived.Deep.Draws
import Derived.Deep.OwnRows
import Derived.Deep.QuietTactic
import Derived.Maps.AppendAt
import Derived.RegionTactic
import Derived.OwnWalk
import Derived.ChangeSame
import Derived.Outline
import Derived.BigQuiet
import Derived.WalkMore
import Derived.ScopeJumps
import Derived.WalkLawsBesides
import Derived.WalkSpells
import Derived.WideKeyArgs
import Derived.Deep.DeepHandedRow
import Derived.Deep.DeepWitnessRowRef
import Derived.Lib.LaidTab
import Derived.Lib.AppendIntMem
import Derived.LaidMore
import Derived.MakeChecks
import Derived.Lib.Itoa
import Derived.Lib.ItoaMem
import Derived.Laws.BitsLemmas
import Derived.Laws.BitsAllLaws
import Derived.Deep.Quiet
import Derived.StillTailTactics
import Derived.Lib.SmallJoins
import Derived.Lib.ParseIntBCases
import Derived.Lib.IndexMore
import Derived.Shelf.Vars
import Derived.BigRegion
import Derived.Lib.AtoiAllCases
import Derived.SliceStrings
import Derived.Deep.RegionLaw
import Derived.Lib.PathFns
import Derived.Lib.IndexBytes
import Derived.RangeFuncWrites
import Derived.RangeFuncNested
import Derived.RangeFuncBound
import Derived.RangeFuncCalls
import Derived.RangeFuncLeaves
import Derived.RangeFuncBox
import Derived.Shelf.Abstract
import Derived.Shelf.RegionOpen
import Derived.OwnWalkIn
import Derived.TacticsInMore
import Derived.LoopNIn
import Derived.LoopIn
import Derived.Sort.LotA
import Derived.BigRegionIn
import Derived.Deep.Slices
import Derived.Deep.RegionHeld3
import Derived.Orders
set_option linter.unusedSimpArgs false
set_option linter.unusedVariables false
namespace Go.Proofs.YtebccdinglohpaaDoor
open Go.RowKit
theorem itoa_any (n : Nat) (h : n ≤ 9223372036854775807) (w : World) (ht : Tab w) :
    Calls Tryd.prog 61 #[.int .i64 n] w fun e w' => e = .returned (.string (str (Lib.decDigits n))) ∧ Below w.heap.size w w' := by
  refine (Tryd.strconv_Itoa n (by omega) (by omega) w ht).mono ?_
  rintro e w' ⟨rfl, k, os, rfl⟩
  refine ⟨?_, Lib.below_grow _ _ (Nat.le_refl _) _ _⟩
  rw [Lib.itoa_nonneg]; rfl
end Go.Proofs.YtebccdinglohpaaDoor
set_option linter.unusedSimpArgs false
set_option linter.unusedVariables false
namespace Go.Proofs.YtebccdinglohpaaDoor
open Go.RowKit
def octN (a i : Nat) : Nat := a / 256 ^ (3 - i) % 256
def octS (a k i : Nat) : Value := .string (if i < k then str (Lib.decDigits (octN a i)) else ⟨#[]⟩)
def octs (a k : Nat) : Array Value := #[octS a k 0, octS a k 1, octS a k 2, octS a k 3]
def addrL (a : Nat) : List UInt8 := Lib.decDigits (octN a 0) ++ [46] ++ Lib.decDigits (octN a 1) ++ [46] ++ Lib.decDigits (octN a 2) ++ [46] ++ Lib.decDigits (octN a 3)
theorem octN_lt (a i : Nat) : octN a i < 256 := Nat.mod_lt _ (by decide)
theorem oct_len (a i : Nat) : (Lib.decDigits (octN a i)).length ≤ 3 := dec_len _ 2 (by have := octN_lt a i; omega)
theorem addrL_len (a : Nat) : (addrL a).length ≤ 15 := by
  have h0 := oct_len a 0; have h1 := oct_len a 1; have h2 := oct_len a 2; have h3 := oct_len a 3
  simp [addrL]; omega
theorem oct_walk (a s : Nat) (ha : a < 4294967296) : bits .and .u32 ((a : Int) / ((2 ^ s : Nat) : Int)) 255 = ((a / 2 ^ s % 256 : Nat) : Int) := by
  have e : (a : Int) / ((2 ^ s : Nat) : Int) = ((a / 2 ^ s : Nat) : Int) := by simp
  have h1 : a / 2 ^ s < 4294967296 := Nat.lt_of_le_of_lt (Nat.div_le_self _ _) ha
  rw [e, show (255 : Int) = ((255 : Nat) : Int) from rfl, u32_and_nat _ _ h1 (by decide), show (255 : Nat) = 2 ^ 8 - 1 from rfl, Nat.and_two_pow_sub_one_eq_mod]
theorem blk_read {w : World} {g : Nat} {t : TypeId} {cs : Array Value} (h : Blk w g t cs) {i : Nat} {v : Value} (hv : cs[i]? = some v) : w.cell? ⟨g, i, none⟩ = some v := (h.cell i).trans hv
theorem oct_arg0 (a : Nat) (ha : a < 4294967296) : RowKit.wrap64 (bits .and .u32 ((a : Int) / 16777216) 255) = ((octN a 0 : Nat) : Int) := by
  have := oct_walk a 24 ha
  rw [show ((2 ^ 24 : Nat) : Int) = 16777216 from rfl] at this
  rw [this]; have := octN_lt a 0; unfold octN RowKit.wrap64 at *; omega
theorem oct_arg1 (a : Nat) (ha : a < 4294967296) : RowKit.wrap64 (bits .and .u32 ((a : Int) / 65536) 255) = ((octN a 1 : Nat) : Int) := by
  have := oct_walk a 16 ha
  rw [show ((2 ^ 16 : Nat) : Int) = 65536 from rfl] at this
  rw [this]; have := octN_lt a 1; unfold octN RowKit.wrap64 at *; omega
theorem oct_arg2 (a : Nat) (ha : a < 4294967296) : RowKit.wrap64 (bits .and .u32 ((a : Int) / 256) 255) = ((octN a 2 : Nat) : Int) := by
  have := oct_walk a 8 ha
  rw [show ((2 ^ 8 : Nat) : Int) = 256 from rfl] at this
  rw [this]; have := octN_lt a 2; unfold octN RowKit.wrap64 at *; omega
theorem oct_arg3 (a : Nat) (ha : a < 4294967296) : RowKit.wrap64 (bits .and .u32 (a : Int) 255) = ((octN a 3 : Nat) : Int) := by
  have := oct_walk a 0 ha
  rw [show ((2 ^ 0 : Nat) : Int) = 1 from rfl, Int.ediv_one] at this
  rw [this]; have := octN_lt a 3; unfold octN RowKit.wrap64 at *; omega
theorem makeStr4 (w : World) : (Instr.makeSlice 60 (.int .i64 4) (.int .i64 4)).run Tryd.prog w = .ok (.slice (some ⟨w.heap.size, 0, none⟩) 4 4) (w.alloc (.cells #[.string ⟨#[]⟩, .string ⟨#[]⟩, .string ⟨#[]⟩, .string ⟨#[]⟩] 9)) := by kernel_rfl
set_option maxHeartbeats 1000000 in
theorem addr_any (a : Nat) (ha : a < 4294967296) (w : World) (ht : Tab w) :
    Calls Tryd.prog 76 #[.int .u32 a] w fun e w' => e = .returned (.string (str (addrL a))) ∧ Below w.heap.size w w' := by
  have hmk := makeStr4
  go_enter Tryd.func76, Tryd.ntmps76
  go_wp2
  go_loopw [8] (fun i wr => ∃ k : Nat, k ≤ 4 ∧ i = .int .i64 k ∧ Blk wr w.heap.size 9 (octs a k) ∧ Below w.heap.size w wr) (fun i _ => 4 - (intOf i).toNat)
  case atStart => exact ⟨0, by omega, rfl, Blk.new w _ _, (Below.refl _ _).alloc (Nat.le_refl _) _⟩
  case round =>
    obtain ⟨k, hk, rfl, hB, hbel⟩ := hrel
    have hz : w.heap.size < wr.heap.size := hB.lt
    have htr : Tab wr := ht.below hbel
    by_cases hlt : k < 4
    · rcases (show k = 0 ∨ k = 1 ∨ k = 2 ∨ k = 3 by omega) with h0 | h0 | h0 | h0
      · subst h0
        have he := hide (oct_arg0 a ha)
        have h256 := octN_lt a 0
        go_wp2_with fail
        rw [he.out]
        refine (itoa_any (octN a 0) (by omega) _ htr).mono ?_
        rintro e w1 ⟨rfl, hb1⟩
        have hB1 := hB.below hb1 hz
        have hfz := hB1.frozen 0
        have hcl := hide (hB1.cell 0)
        have hin : w1.cell? ⟨w.heap.size, 0, none⟩ = some (.string ⟨#[]⟩) := hcl.out
        go_wp2
        go_round
        case rel => exact ⟨1, by omega, by go_num, hB1.set_ 0 _, (hbel.trans (hb1.mono (by omega))).setCell (Nat.le_refl _) _⟩
        case measure => simp [intOf]
      · subst h0
        have he := hide (oct_arg1 a ha)
        have h256 := octN_lt a 1
        go_wp2_with fail
        rw [he.out]
        refine (itoa_any (octN a 1) (by omega) _ htr).mono ?_
        rintro e w1 ⟨rfl, hb1⟩
        have hB1 := hB.below hb1 hz
        have hfz := hB1.frozen 1
        have hcl := hide (hB1.cell 1)
        have hin : w1.cell? ⟨w.heap.size, 1, none⟩ = some (.string ⟨#[]⟩) := hcl.out
        go_wp2
        go_round
        case rel => exact ⟨2, by omega, by go_num, hB1.set_ 1 _, (hbel.trans (hb1.mono (by omega))).setCell (Nat.le_refl _) _⟩
        case measure => simp [intOf]
      · subst h0
        have he := hide (oct_arg2 a ha)
        have h256 := octN_lt a 2
        go_wp2_with fail
        rw [he.out]
        refine (itoa_any (octN a 2) (by omega) _ htr).mono ?_
        rintro e w1 ⟨rfl, hb1⟩
        have hB1 := hB.below hb1 hz
        have hfz := hB1.frozen 2
        have hcl := hide (hB1.cell 2)
        have hin : w1.cell? ⟨w.heap.size, 2, none⟩ = some (.string ⟨#[]⟩) := hcl.out
        go_wp2
        go_round
        case rel => exact ⟨3, by omega, by go_num, hB1.set_ 2 _, (hbel.trans (hb1.mono (by omega))).setCell (Nat.le_refl _) _⟩
        case measure => simp [intOf]
      · subst h0
        have he := hide (oct_arg3 a ha)
        have h256 := octN_lt a 3
        go_wp2_with fail
        rw [he.out]
        refine (itoa_any (octN a 3) (by omega) _ htr).mono ?_
        rintro e w1 ⟨rfl, hb1⟩
        have hB1 := hB.below hb1 hz
        have hfz := hB1.frozen 3
        have hcl := hide (hB1.cell 3)
        have hin : w1.cell? ⟨w.heap.size, 3, none⟩ = some (.string ⟨#[]⟩) := hcl.out
        go_wp2
        go_round
        case rel => exact ⟨4, by omega, by go_num, hB1.set_ 3 _, (hbel.trans (hb1.mono (by omega))).setCell (Nat.le_refl _) _⟩
        case measure => simp [intOf]
    · obtain rfl : k = 4 := by omega
      have l0 := oct_len a 0
      have l1 := oct_len a 1
      have l2 := oct_len a 2
      have l3 := oct_len a 3
      have c0 := hide (show wr.cell? ⟨w.heap.size, 0, none⟩ = some (.string (str (Lib.decDigits (octN a 0)))) from blk_read hB (i := 0) rfl)
      have c1 := hide (show wr.cell? ⟨w.heap.size, 1, none⟩ = some (.string (str (Lib.decDigits (octN a 1)))) from blk_read hB (i := 1) rfl)
      have c2 := hide (show wr.cell? ⟨w.heap.size, 2, none⟩ = some (.string (str (Lib.decDigits (octN a 2)))) from blk_read hB (i := 2) rfl)
      have c3 := hide (show wr.cell? ⟨w.heap.size, 3, none⟩ = some (.string (str (Lib.decDigits (octN a 3)))) from blk_read hB (i := 3) rfl)
      have HJ := hide (Tryd.strings_Join w.heap.size 0 4 [str (Lib.decDigits (octN a 0)), str (Lib.decDigits (octN a 1)), str (Lib.decDigits (octN a 2)), str (Lib.decDigits (octN a 3))] ⟨#[46]⟩ wr
        (by
          intro j x hj
          rcases (show j = 0 ∨ j = 1 ∨ j = 2 ∨ j = 3 ∨ 4 ≤ j by omega) with h | h | h | h | h
          · subst h; obtain rfl := Option.some.inj hj; simpa using c0.out
          · subst h; obtain rfl := Option.some.inj hj; simpa using c1.out
          · subst h; obtain rfl := Option.some.inj hj; simpa using c2.out
          · subst h; obtain rfl := Option.some.inj hj; simpa using c3.out
          · rw [List.getElem?_eq_none (by simpa using h)] at hj; cases hj)
        hz (by simp) (by simp) (by simp [Lib.join, str_data]; omega))
      go_wp2_with fail
      refine HJ.out.mono ?_
      rintro e w1 ⟨rfl, hb1⟩
      go_wp2
      go_ret
      refine ⟨?_, hbel.trans (hb1.mono (by omega))⟩
      refine ret_str ?_
      show str _ = str _
      congr 1
      simp [Lib.join, str_data, addrL]
def textL (a : Nat) (n : Int) : List UInt8 := if goodB a n then addrL a ++ [47] ++ Lib.decDigits n.toNat else []
set_option maxHeartbeats 1000000 in
theorem ptext_any (a : Nat) (n : Int) (ha : a < 4294967296) (h1 : -9223372036854775808 ≤ n) (h2 : n ≤ 9223372036854775807) (w : World) (ht : Tab w) :
    Calls Tryd.prog 57 #[pfx a n] w fun e w' => e = .returned (.string (str (textL a n))) ∧ Below w.heap.size w w' := by
  have hgd := good_any a n ha h1 h2
  unfold pfx at hgd ⊢
  have HG := hide hgd
  clear hgd
  have k0 := fun x => cell?_far (W := w.alloc (.cells #[.int .u32 (a : Int), .int .i64 n] 36)) x (p := ⟨w.heap.size, 0, none⟩) (v := .int .u32 (a : Int)) (by simp)
  have k1 := fun x => cell?_far (W := w.alloc (.cells #[.int .u32 (a : Int), .int .i64 n] 36)) x (p := ⟨w.heap.size, 1, none⟩) (v := .int .i64 n) (by simp)
  cases hg : goodB a n
  · have hf := hide (show textL a n = [] by simp [textL, hg])
    rw [hg] at HG
    clear hg
    go_enter Tryd.func57, Tryd.ntmps57
    go_wp2_with fail
    refine (HG.out _).mono ?_
    rintro e w1 ⟨rfl, hb1⟩
    obtain ⟨x1, rfl⟩ := far_of_below hb1
    go_wp2
    go_ret
    rw [hf.out]
    exact ⟨rfl, below_box _ _ _⟩
  · have hf := hide (show textL a n = addrL a ++ [47] ++ Lib.decDigits n.toNat by simp [textL, hg])
    rw [hg] at HG
    have hn : 0 ≤ n ∧ n ≤ 32 := by simp [goodB] at hg; omega
    obtain ⟨k, rfl⟩ := Int.eq_ofNat_of_zero_le hn.1
    have hk : k ≤ 32 := by omega
    have l1 := addrL_len a
    have l2 : (Lib.decDigits k).length ≤ 2 := dec_len _ 1 (by omega)
    clear hg hn
    have s1 : (str (addrL a)).size ≤ 15 := by rw [str_size]; exact l1
    have s2 : (str (Lib.decDigits k)).size ≤ 2 := by rw [str_size]; exact l2
    go_enter Tryd.func57, Tryd.ntmps57
    go_wp2_with fail
    refine (HG.out _).mono ?_
    rintro e w1 ⟨rfl, hb1⟩
    have ht1 : Tab w1 := ht.below (((Below.refl _ w).alloc (Nat.le_refl _) _).trans (hb1.mono (by simp)))
    have hbw : Below w.heap.size w w1 := ((Below.refl _ w).alloc (Nat.le_refl _) _).trans (hb1.mono (by simp))
    obtain ⟨x1, rfl⟩ := far_of_below hb1
    have m0 := fun y => cell?_far y (k0 x1)
    have m1 := fun y => cell?_far y (k1 x1)
    have hT : ∀ y, Tab (far (far (w.alloc (.cells #[.int .u32 (a : Int), .int .i64 (k : Int)] 36)) x1) y) := fun y => ht1.below (below_far _ _)
    have HT := hide hT
    clear hT
    go_wp2
    refine wp_region_far (by kernel_rfl) (by kernel_rfl) ?_
    repeat (go_big_quiet_step ((first | (go_at_call 76; exact far_call (addr_any a ha _ (HT.out _))) | (go_at_call 61; exact far_call (itoa_any k (by omega) _ (HT.out _))))))
    refine wpQuiet_nil ?_
    rintro _ ⟨nq, rfl⟩
    go_wp2
    go_ret
    refine ⟨?_, hbw.trans ((below_far _ _).mono hbw.size)⟩
    rw [hf.out]
    refine ret_str ?_
    show str (addrL a) ++ str [47] ++ str (Lib.decDigits k) = _
    rw [cat_str, cat_str]
    simp
set_option maxHeartbeats 400000 in
theorem PText_any (a : Nat) (n : Int) (ha : a < 4294967296) (h1 : -9223372036854775808 ≤ n) (h2 : n ≤ 9223372036854775807) (w : World) (ht : Tab w) :
    Calls Tryd.prog 60 #[pfx a n] w fun e w' => e = .returned (.string (str (textL a n))) ∧ Below w.heap.size w w' := by
  have HX := hide (ptext_any a n ha h1 h2)
  unfold pfx at HX ⊢
  go_enter Tryd.func60, Tryd.ntmps60
  go_wp2_with fail
  refine (HX.out _ (ht.below ((Below.refl _ w).alloc (Nat.le_refl _) _))).mono ?_
  rintro e w1 ⟨rfl, hb1⟩
  rw [World.size_alloc] at hb1
  go_wp2
  go_ret
  exact ⟨rfl, ((Below.refl _ w).alloc (Nat.le_refl _) _).trans (hb1.mono (by omega))⟩
theorem lives_text : str (textL 167772160 8) = ⟨#[49, 48, 46, 48, 46, 48, 46, 48, 47, 56]⟩ := by decide +kernel
end Go.Proofs.YtebccdinglohpaaDoor
set_option linter.unusedSimpArgs false
set_option linter.unusedVariables false
namespace Go.Proofs.YtebccdinglohpaaDoor
open Go.RowKit
set_option maxHeartbeats 400000 in
theorem Covers_any (a : Nat) (n : Int) (b : Nat) (m : Int) (ha : a < 4294967296) (hb : b < 4294967296) (h1 : -9223372036854775808 ≤ n) (h2 : n ≤ 9223372036854775807) (h3 : -9223372036854775808 ≤ m) (h4 : m ≤ 9223372036854775807) (w : World) :
    Calls Tryd.prog 37 #[pfx a n, pfx b m] w (GoodP (covB a n b m) w) := by
  have hc := covers_any a n b m ha hb h1 h2 h3 h4
  unfold pfx at hc ⊢
  have HC := hide hc
  clear hc
  obtain ⟨k0, k1, k2, k3⟩ := boxes w (.int .u32 (a : Int)) (.int .i64 n) (.int .u32 (b : Int)) (.int .i64 m) 36 36
  go_enter Tryd.func37, Tryd.ntmps37
  go_wp2_with fail
  refine (HC.out _).mono ?_
  rintro e w1 ⟨rfl, hb1⟩
  obtain ⟨x1, rfl⟩ := far_of_below hb1
  go_wp2
  go_ret
  exact ⟨rfl, below_boxes _ _ _ _⟩
def refCovB (a : Nat) (n : Int) (b : Nat) (m : Int) : Bool := goodB a n && goodB b m && decide (n ≤ m) && (cutN b n.toNat == a)
set_option maxHeartbeats 1000000 in
theorem refCovers_any (a : Nat) (n : Int) (b : Nat) (m : Int) (ha : a < 4294967296) (hb : b < 4294967296) (w : World) :
    Calls Tryd.prog 12 #[pfx a n, pfx b m] w (GoodP (refCovB a n b m) w) := by
  have hg1 := refGood_any a n ha
  have hh1 := refGood_any b m hb
  unfold pfx at hg1 hh1 ⊢
  have HG := hide hg1
  have HH := hide hh1
  obtain ⟨k0, k1, k2, k3⟩ := boxes w (.int .u32 (a : Int)) (.int .i64 n) (.int .u32 (b : Int)) (.int .i64 m) 36 36
  cases hg : goodB a n
  · have hf := hide (show refCovB a n b m = false by unfold refCovB; rw [hg]; rfl)
    rw [hg] at HG
    clear hg hg1 hh1
    go_enter Tryd.func12, Tryd.ntmps12
    go_wp2_with fail
    refine (HG.out _).mono ?_
    rintro e w1 ⟨rfl, hb1⟩
    obtain ⟨x1, rfl⟩ := far_of_below hb1
    go_wp2
    go_ret
    rw [hf.out]
    exact ⟨rfl, below_boxes _ _ _ _⟩
  · cases hh : goodB b m
    · have hf := hide (show refCovB a n b m = false by unfold refCovB; rw [hg, hh]; rfl)
      rw [hg] at HG
      rw [hh] at HH
      clear hg hg1 hh1 hh
      go_enter Tryd.func12, Tryd.ntmps12
      go_wp2_with fail
      refine (HG.out _).mono ?_
      rintro e w1 ⟨rfl, hb1⟩
      obtain ⟨x1, rfl⟩ := far_of_below hb1
      go_wp2_with fail
      refine (HH.out _).mono ?_
      rintro e w1 ⟨rfl, hb2⟩
      obtain ⟨x2, rfl⟩ := far_below hb2
      go_wp2
      go_ret
      rw [hf.out]
      exact ⟨rfl, below_boxes _ _ _ _⟩
    · by_cases hnm : n ≤ m
      · have hn : 0 ≤ n ∧ n ≤ 32 := by simp [goodB] at hg; omega
        have hf := hide (show refCovB a n b m = (((cutN b (clampN n) : Nat) : Int) == (a : Int)) by
          unfold refCovB; rw [hg, hh]
          have : clampN n = n.toNat := by unfold clampN; rw [if_neg (by omega), if_neg (by omega)]
          rw [this, Bool.eq_iff_iff]; simp [hnm]; omega)
        rw [hg] at HG
        rw [hh] at HH
        clear hg hg1 hh1 hh hn
        go_enter Tryd.func12, Tryd.ntmps12
        go_wp2_with fail
        refine (HG.out _).mono ?_
        rintro e w1 ⟨rfl, hb1⟩
        obtain ⟨x1, rfl⟩ := far_of_below hb1
        go_wp2_with fail
        refine (HH.out _).mono ?_
        rintro e w1 ⟨rfl, hb2⟩
        obtain ⟨x2, rfl⟩ := far_below hb2
        go_wp2_with fail
        go_quiet ((go_at_call 23; exact quiet_left (refCut_num b n hb _)))
        go_wp2
        go_ret
        refine ⟨?_, below_drewN (below_boxes _ _ _ _) _⟩
        rw [hf.out]; rfl
      · have hf := hide (show refCovB a n b m = false by unfold refCovB; rw [hg, hh]; simp [hnm])
        have hd : decide (m < n) = true := by simp; omega
        rw [hg] at HG
        rw [hh] at HH
        clear hg hg1 hh1 hh
        go_enter Tryd.func12, Tryd.ntmps12
        go_wp2_with fail
        refine (HG.out _).mono ?_
        rintro e w1 ⟨rfl, hb1⟩
        obtain ⟨x1, rfl⟩ := far_of_below hb1
        go_wp2_with fail
        refine (HH.out _).mono ?_
        rintro e w1 ⟨rfl, hb2⟩
        obtain ⟨x2, rfl⟩ := far_below hb2
        go_wp2
        go_ret
        rw [hf.out]
        exact ⟨rfl, below_boxes _ _ _ _⟩
end Go.Proofs.YtebccdinglohpaaDoor
set_option linter.unusedSimpArgs false
set_option linter.unusedVariables false
namespace Go.Proofs.YtebccdinglohpaaDoor
open Go.RowKit
theorem goodB_iff (a : Nat) (n : Int) : goodB a n = true ↔ 0 ≤ n ∧ n ≤ 32 ∧ cutN a n.toNat = a := by
  simp [goodB, and_assoc]
/-- One prefix's facts. -/
structure PfxOk (a : Nat) (n : Int) : Prop where
  a : a < 4294967296
  l : -9223372036854775808 ≤ n
  h : n ≤ 9223372036854775807
end Go.Proofs.YtebccdinglohpaaDoor
set_option linter.unusedSimpArgs false
set_option linter.unusedVariables false
namespace Go.Proofs.YtebccdinglohpaaDoor
open Go.RowKit
/-- What the library's own variables hold, as far as the calls here read them. -/
structure Env (w : World) : Prop where
  tab : Tab w
  most : ∃ m, w.cell? ⟨0, 0, none⟩ = some (.int .i64 m)
  syn : ∃ ev, w.cell? ⟨1, 0, none⟩ = some ev ∧ (ev = .nilIface ∨ ∃ te pe, ev = .iface te pe)
  rng : ∃ ev, w.cell? ⟨2, 0, none⟩ = some ev ∧ (ev = .nilIface ∨ ∃ te pe, ev = .iface te pe)
theorem Env.below {w w' : World} (h : Env w) (hb : Below w.heap.size w w') : Env w' :=
  ⟨h.tab.below hb, h.most.imp fun _ hm => (hb.cell (World.block_lt_of_cell? w _ hm)).trans hm, h.syn.imp fun _ hm => ⟨(hb.cell (World.block_lt_of_cell? w _ hm.1)).trans hm.1, hm.2⟩,
    h.rng.imp fun _ hm => ⟨(hb.cell (World.block_lt_of_cell? w _ hm.1)).trans hm.1, hm.2⟩⟩
theorem below_drewN0 (w : World) (n : Nat) : Below w.heap.size w (w.drewN n) := below_drewN (Below.refl _ w) n
theorem fold_ge (l : List UInt8) : ∀ acc : Nat, acc ≤ l.foldl (fun a c => 10 * a + (c.toNat - 48)) acc := by
  induction l with
  | nil => intro acc; exact Nat.le_refl _
  | cons c r ih => intro acc; exact Nat.le_trans (show acc ≤ 10 * acc + (c.toNat - 48) by omega) (ih _)
theorem parseM_fold (M : Nat) (hM : M < 1844674407370955162) (l : List UInt8) : ∀ acc : Nat, (∀ c ∈ l, 48 ≤ c.toNat ∧ c.toNat ≤ 57) → l.foldl (fun a c => 10 * a + (c.toNat - 48)) acc ≤ M →
    Lib.parseUintM M acc l = .ok (l.foldl (fun a c => 10 * a + (c.toNat - 48)) acc) := by
  induction l with
  | nil => intro acc _ _; rfl
  | cons c r ih =>
    intro acc hd hv
    have hc := hd c (by simp)
    simp only [List.foldl_cons] at hv ⊢
    have h2 := fold_ge r (10 * acc + (c.toNat - 48))
    unfold Lib.parseUintM
    rw [if_pos hc, if_neg (by omega), if_neg (by omega), show acc * 10 + (c.toNat - 48) = 10 * acc + (c.toNat - 48) by omega]
    exact ih _ (fun x hx => hd x (by simp [hx])) hv
theorem parse_dec (B u : Nat) (hB : 2 ^ B - 1 < 1844674407370955162) (hu : u ≤ 2 ^ B - 1) : Lib.parseUintB B (Lib.decDigits u) = .ok u := by
  unfold Lib.parseUintB
  rw [if_neg (dec_ne u)]
  have h1 := numOf_dec u
  unfold numOf at h1
  have := parseM_fold (2 ^ B - 1) hB (Lib.decDigits u) 0 (dec_dig u) (by rw [h1]; exact hu)
  rwa [h1] at this
theorem index_at (p : UInt8) (x y : List UInt8) (hx : ∀ c ∈ x, c ≠ p) : Lib.index (x ++ p :: y) [p] = (x.length : Int) := by
  induction x with
  | nil => simp [Lib.index]
  | cons c r ih =>
    have hc : c ≠ p := hx c (by simp)
    have := ih (fun d hd => hx d (by simp [hd]))
    rw [List.cons_append, Lib.index, this]
    have e : ([p] : List UInt8).isPrefixOf (c :: (r ++ p :: y)) = false := by first | (simp [List.isPrefixOf]; done) | simp [List.isPrefixOf, Ne.symm hc]
    rw [e]
    have e2 : ((r.length : Int) == -1) = false := by first | (simp; done) | (simp; omega)
    rw [e2]
    simp
theorem cut_at (p : UInt8) (x y : List UInt8) (hx : ∀ c ∈ x, c ≠ p) : Lib.cut (x ++ p :: y) [p] = (x, y, true) := by
  unfold Lib.cut
  rw [index_at p x y hx, if_pos (by omega)]
  simp
theorem cut_len1 (l sep : List UInt8) : (Lib.cut l sep).1.length ≤ l.length := by
  unfold Lib.cut; split
  · simp only [List.length_take]; omega
  · exact Nat.le_refl _
theorem cut_len2 (l sep : List UInt8) : (Lib.cut l sep).2.1.length ≤ l.length := by
  unfold Lib.cut; split
  · simp only [List.length_drop]; omega
  · simp
theorem cut_any (p : UInt8) (l : List UInt8) (hl : l.length ≤ 1000) (w : World) (he : Env w) : Calls Tryd.prog 54 #[.string (str l), .string ⟨#[p]⟩] w fun e w' =>
    e = .returned (.tuple #[.string (str (Lib.cut l [p]).1), .string (str (Lib.cut l [p]).2.1), .bool (Lib.cut l [p]).2.2]) ∧ Below w.heap.size w w' := by
  obtain ⟨m, hm⟩ := he.most
  have h := Tryd.strings_Cut (str l) ⟨#[p]⟩ m w (by rw [str_size]; omega) hm
  rw [str_data] at h
  refine h.mono ?_
  rintro e w' ⟨rfl, n, rfl⟩
  exact ⟨rfl, below_drewN0 _ _⟩
theorem env_cells {w : World} (he : Env w) (o : Obj) : Env (w.alloc o) := he.below ((Below.refl _ w).alloc (Nat.le_refl _) _)
end Go.Proofs.YtebccdinglohpaaDoor
set_option linter.unusedSimpArgs false
set_option linter.unusedVariables false
namespace Go.Proofs.YtebccdinglohpaaDoor
open Go.RowKit
theorem trod_error {H : Type} {enc : TypeId × Value → H} {P : Program} {w : World} {base : Nat} {spare : Nat → Bool} {held : Bool} {fuel : Nat} {t : TypeId} {cs : List Value} {x : DataW H × List MemPlace} {ms : Array (String × TypeId)}
    (ht : P.underlying t = some (.interface ms)) (h : DataW.trod enc P w base spare held fuel t cs = some x) : ∃ ev, cs = [ev] ∧ (ev = .nilIface ∨ ∃ te pe, ev = .iface te pe) := by
  cases fuel with
  | zero => simp [DataW.trod] at h
  | succ n =>
    unfold DataW.trod at h
    rw [ht] at h
    match cs, h with
    | [], h => simp at h
    | [v], h =>
      cases v <;> first | exact ⟨_, rfl, Or.inl rfl⟩ | exact ⟨_, rfl, Or.inr ⟨_, _, rfl⟩⟩ | (simp at h)
    | v :: v' :: r, h => simp at h
theorem err_of_mem {P : Program} {W : World} {name : String} {d : DataW Unit} {laid : List (String × DataW Unit)} {g : Nat} {t : TypeId} {ms : Array (String × TypeId)}
    (hg : P.globalNamed name = some g) (hty : (P.globals[g]?).map (·.type) = some t) (ht : P.underlying t = some (.interface ms)) (h : laidMet P laid W) (hm : (name, d) ∈ laid) :
    ∃ ev, W.cell? ⟨g, 0, none⟩ = some ev ∧ (ev = .nilIface ∨ ∃ te pe, ev = .iface te pe) := by
  obtain ⟨ps, hl, _⟩ := h
  obtain ⟨g', t', cs, fuel, p, hg', ht', hvar, hd⟩ := laidVars_mem hl hm
  obtain rfl := Option.some.inj (hg.symm.trans hg')
  obtain rfl := Option.some.inj (hty.symm.trans ht')
  obtain ⟨ev, hev, hh⟩ := trod_error ht hd
  have h0 := World.var?_cell hg hvar 0
  obtain ⟨l⟩ := cs
  simp at hev
  subst hev
  exact ⟨ev, by simpa using h0, hh⟩
theorem gSyn : Tryd.prog.globalNamed "strconv.ErrSyntax" = some 1 := by kernel_rfl
theorem gSynT : (Tryd.prog.globals[1]?).map (·.type) = some 87 := by kernel_rfl
theorem gRng : Tryd.prog.globalNamed "strconv.ErrRange" = some 2 := by kernel_rfl
theorem gRngT : (Tryd.prog.globals[2]?).map (·.type) = some 87 := by kernel_rfl
set_option maxRecDepth 100000 in
theorem env_of {W : World} {laid : List (String × DataW Unit)} {d1 d2 : DataW Unit} (ht : Tab W) (hh : (laid.all fun x => x.2.handleName?.isNone) = true) (hL : laidMetH Tryd.prog laid W) (hsh : W.ShapedOpen Tryd.prog)
    (m1 : ("strconv.ErrSyntax", d1) ∈ laid) (m2 : ("strconv.ErrRange", d2) ∈ laid) : Env W := by
  rw [MakeChecks.laidMetH_plain _ _ _ hh] at hL
  exact ⟨ht, Go.Proofs.cell_of_shapedOpen_int (zero := #[.int .i64 0]) (t := 3) hsh (of_decide_eq_true (by kernel_rfl)) (by kernel_rfl) rfl (by kernel_rfl) (by kernel_rfl) Tryd.underlying3,
    err_of_mem gSyn gSynT Tryd.underlying87 hL m1, err_of_mem gRng gRngT Tryd.underlying87 hL m2⟩
end Go.Proofs.YtebccdinglohpaaDoor
set_option linter.unusedSimpArgs false
set_option linter.unusedVariables false
namespace Go.Proofs.YtebccdinglohpaaDoor
open Go.RowKit
theorem parse10_fold (l : List UInt8) : ∀ acc : Nat, (∀ c ∈ l, 48 ≤ c.toNat ∧ c.toNat ≤ 57) → l.foldl (fun a c => 10 * a + (c.toNat - 48)) acc < 9223372036854775808 →
    Lib.parseUint10 acc l = .ok (l.foldl (fun a c => 10 * a + (c.toNat - 48)) acc) := by
  induction l with
  | nil => intro acc _ _; rfl
  | cons c r ih =>
    intro acc hd hv
    have hc := hd c (by simp)
    simp only [List.foldl_cons] at hv ⊢
    have h2 := fold_ge r (10 * acc + (c.toNat - 48))
    unfold Lib.parseUint10
    rw [if_pos hc, if_neg (by omega), if_neg (by omega), show acc * 10 + (c.toNat - 48) = 10 * acc + (c.toNat - 48) by omega]
    exact ih _ (fun x hx => hd x (by simp [hx])) hv
theorem atoi_dec (n : Nat) (hn : n < 9223372036854775808) : Lib.atoiAll (Lib.decDigits n) = .ok (n : Int) := by
  obtain ⟨c, r, hcr⟩ := List.exists_cons_of_ne_nil (dec_ne n)
  have hc := dec_dig n c (by rw [hcr]; simp)
  have h1 := numOf_dec n
  unfold numOf at h1
  have hp := parse10_fold (Lib.decDigits n) 0 (dec_dig n) (by rw [h1]; exact hn)
  rw [h1] at hp
  rw [hcr] at hp ⊢
  rw [Lib.atoiAll_plain c r (by omega) (by omega)]
  unfold Lib.parseMag
  rw [if_neg (by simp), hp]
  simp [Lib.signless]
  omega
/-- A text is a number's digits, and the number is not too great. -/
def numOk (l : List UInt8) (most : Int) : Bool := (l == Lib.decDigits (numOf l)) && decide (numOf l < 9223372036854775808) && decide ((numOf l : Int) ≤ most)
def numRes (l : List UInt8) (most : Int) : Value := if numOk l most then .tuple #[.int .i64 (numOf l : Nat), .bool true] else .tuple #[.int .i64 0, .bool false]
theorem numOk_iff (l : List UInt8) (most : Int) : numOk l most = true ↔ ∃ n : Nat, l = Lib.decDigits n ∧ n < 9223372036854775808 ∧ (n : Int) ≤ most ∧ numOf l = n := by
  unfold numOk
  simp only [Bool.and_eq_true, beq_iff_eq, decide_eq_true_eq]
  constructor
  · rintro ⟨⟨h1, h2⟩, h3⟩; exact ⟨_, h1, h2, h3, rfl⟩
  · rintro ⟨n, h1, h2, h3, h4⟩; rw [h4]; exact ⟨⟨h1, h2⟩, h3⟩
theorem numRes_no {l : List UInt8} {most : Int} (h : ∀ n : Nat, l = Lib.decDigits n → n < 9223372036854775808 → (n : Int) ≤ most → False) : numRes l most = .tuple #[.int .i64 0, .bool false] := by
  unfold numRes
  rw [if_neg]
  intro hk
  obtain ⟨n, h1, h2, h3, _⟩ := (numOk_iff l most).1 hk
  exact h n h1 h2 h3
theorem numRes_yes {n : Nat} {most : Int} (h1 : n < 9223372036854775808) (h2 : (n : Int) ≤ most) : numRes (Lib.decDigits n) most = .tuple #[.int .i64 (n : Nat), .bool true] := by
  unfold numRes
  rw [if_pos ((numOk_iff _ _).2 ⟨n, rfl, h1, h2, numOf_dec n⟩), numOf_dec]
theorem atoi_any (s : ByteArray) (hs : s.size ≤ 1000) (w : World) (he : Env w) : Calls Tryd.prog 79 #[.string s] w fun e w' => Below w.heap.size w w' ∧
    ((∃ v : Int, -9223372036854775808 ≤ v ∧ v ≤ 9223372036854775807 ∧ Lib.atoiAll s.data.toList = .ok v ∧ e = .returned (.tuple #[.int .i64 v, .nilIface])) ∨
     (∃ (v : Int) (te : TypeId) (pe : Value), (∀ x, Lib.atoiAll s.data.toList ≠ .ok x) ∧ e = .returned (.tuple #[.int .i64 v, .iface te pe]))) := by
  rcases h : Lib.atoiAll s.data.toList with v | _ | _
  · 
    have hb := Lib.atoiAll_bounds h
    refine (Tryd.strconv_Atoi_ok s (by omega) v h w).mono ?_
    rintro e w' ⟨rfl, hw⟩
    refine ⟨?_, Or.inl ⟨v, hb.1, hb.2, rfl, rfl⟩⟩
    rcases hw with rfl | ⟨t, rfl⟩
    · exact Below.refl _ _
    · exact Go.Joins.below_bytesWorld _ _ _ _ (Nat.le_refl _)
  · 
    obtain ⟨ev, hv, hev⟩ := he.syn
    refine (Tryd.strconv_Atoi_syntax s (by omega) h ev w hv hev).mono ?_
    rintro e w' ⟨N, rfl, _, _, hb⟩
    exact ⟨hb, Or.inr ⟨0, _, _, by simp, rfl⟩⟩
  · 
    obtain ⟨ev, hv, hev⟩ := he.rng
    refine (Tryd.strconv_Atoi_range s (by omega) h ev w hv hev).mono ?_
    rintro e w' ⟨N, rfl, _, _, hb⟩
    exact ⟨hb, Or.inr ⟨_, _, _, by simp, rfl⟩⟩
set_option maxHeartbeats 1000000 in
theorem lexNumber_any (l : List UInt8) (hl : l.length ≤ 1000) (most : Int) (w : World) (he : Env w) :
    Calls Tryd.prog 58 #[.string (str l), .int .i64 most] w fun e w' => e = .returned (numRes l most) ∧ Below w.heap.size w w' := by
  have HA := hide (atoi_any (str l) (by rw [str_size]; exact hl) w he)
  have HE := hide he
  clear he hl
  go_enter Tryd.func58, Tryd.ntmps58
  go_wp2_with fail
  refine HA.out.mono ?_
  rintro e w1 ⟨hb1, ⟨v, hv1, hv2, hp, rfl⟩ | ⟨v, te, pe, hp, rfl⟩⟩
  · rw [str_data] at hp
    have HP := hide hp
    have HB1 := hide hb1
    have he1 := hide (HE.out.below hb1)
    clear hp hb1
    have HNo : Hid (∀ n : Nat, l = Lib.decDigits n → n < 9223372036854775808 → v = n) := hide (fun n h1 h2 => by
      have := atoi_dec n h2
      rw [← h1, HP.out] at this
      exact Lib.NumEnd.ok.inj this)
    by_cases hv0 : v < 0
    · have hr := hide (numRes_no (l := l) (most := most) (fun n h1 h2 h3 => by have := HNo.out n h1 h2; omega))
      go_wp2
      go_ret2
      exact ⟨by rw [hr.out]; rfl, HB1.out⟩
    · obtain ⟨n, rfl⟩ := Int.eq_ofNat_of_zero_le (show 0 ≤ v by omega)
      by_cases hvm : (n : Int) > most
      · have hr := hide (numRes_no (l := l) (most := most) (fun k h1 h2 h3 => by have := HNo.out k h1 h2; omega))
        go_wp2
        go_ret2
        exact ⟨by rw [hr.out]; rfl, HB1.out⟩
      · have HI := hide (itoa_any n (by omega) w1 he1.out.tab)
        by_cases hq : l = Lib.decDigits n
        · have e1 : ((str (Lib.decDigits n)).toList == (str l).toList) = true := by rw [str_beq, hq]; simp
          have e2 : ((str (Lib.decDigits n)).toList != (str l).toList) = false := by unfold bne; rw [e1]; rfl
          have hr : Hid (numRes l most = .tuple #[.int .i64 (n : Nat), .bool true]) := hide (by rw [hq]; exact numRes_yes (by omega) (by omega))
          clear hq
          go_wp2_with fail
          refine HI.out.mono ?_
          rintro e w2 ⟨rfl, hb2⟩
          have HB2 := hide (HB1.out.trans (hb2.mono HB1.out.size))
          clear hb2
          go_wp2
          go_ret2
          exact ⟨by rw [hr.out]; rfl, HB2.out⟩
        · have e1 : ((str (Lib.decDigits n)).toList == (str l).toList) = false := by rw [str_beq]; simpa using fun h => hq h.symm
          have e2 : ((str (Lib.decDigits n)).toList != (str l).toList) = true := by unfold bne; rw [e1]; rfl
          have hr := hide (numRes_no (l := l) (most := most) (fun k h1 h2 h3 => by
            have := HNo.out k h1 h2
            have e : k = n := by omega
            exact hq (e ▸ h1)))
          clear hq
          go_wp2_with fail
          refine HI.out.mono ?_
          rintro e w2 ⟨rfl, hb2⟩
          have HB2 := hide (HB1.out.trans (hb2.mono HB1.out.size))
          clear hb2
          go_wp2
          go_ret2
          exact ⟨by rw [hr.out]; rfl, HB2.out⟩
  · rw [str_data] at hp
    have hr := hide (numRes_no (l := l) (most := most) (fun n h1 h2 h3 => by
      have := atoi_dec n h2
      rw [← h1] at this
      exact hp _ this))
    have HB1 := hide hb1
    clear hp hb1
    go_wp2
    go_ret2
    exact ⟨by rw [hr.out]; rfl, HB1.out⟩
end Go.Proofs.YtebccdinglohpaaDoor
set_option linter.unusedSimpArgs false
set_option linter.unusedVariables false
namespace Go.Proofs.YtebccdinglohpaaDoor
open Go.RowKit
/-- A slice of texts. -/
def StrsAt (w : World) (A : Option Addr) (n c : Nat) (l : List ByteArray) : Prop :=
  l.length = n ∧ n ≤ c ∧ c ≤ maxLen ∧ (∀ x ∈ l, x.size ≤ maxLen) ∧ (0 < n → ∃ g o, A = some ⟨g, o, none⟩ ∧ g < w.heap.size ∧ ∀ (k : Nat) (x : ByteArray), l[k]? = some x → w.cell? ⟨g, o + k, none⟩ = some (.string x))
theorem StrsAt.below {w w' : World} {A : Option Addr} {n c : Nat} {l : List ByteArray} {B : Nat} (h : StrsAt w A n c l) (hB : w.heap.size = B) (hb : Below B w w') : StrsAt w' A n c l := by
  subst hB
  refine ⟨h.1, h.2.1, h.2.2.1, h.2.2.2.1, fun hn => ?_⟩
  obtain ⟨g, o, hA, hg, hc⟩ := h.2.2.2.2 hn
  exact ⟨g, o, hA, Nat.lt_of_lt_of_le hg hb.size, fun k x hk => (hb.cell (by exact hg)).trans (hc k x hk)⟩
theorem StrsAt.at_ {w : World} {A : Option Addr} {n c : Nat} {l : List ByteArray} (h : StrsAt w A n c l) {k : Nat} (hk : k < n) :
    ∃ g o x, A = some ⟨g, o, none⟩ ∧ g < w.heap.size ∧ l[k]? = some x ∧ x.size ≤ maxLen ∧ w.cell? ⟨g, o + k, none⟩ = some (.string x) := by
  obtain ⟨g, o, hA, hg, hc⟩ := h.2.2.2.2 (by omega)
  have hx : l[k]? = some (l[k]'(by rw [h.1]; exact hk)) := List.getElem?_eq_getElem _
  exact ⟨g, o, _, hA, hg, hx, h.2.2.2.1 _ (List.getElem_mem _), hc k _ hx⟩
theorem infoStr : (Tryd.prog.info? 9).map (fun i => (i.zero, i.size, i.bytes)) = some (some (.string ⟨#[]⟩), 1, 16) := by kernel_rfl
def strv (l : List (List UInt8)) : List Value := l.map fun x => .string (str x)
end Go.Proofs.YtebccdinglohpaaDoor
set_option linter.unusedSimpArgs false
set_option linter.unusedVariables false
namespace Go.Proofs.YtebccdinglohpaaDoor
open Go.RowKit
theorem Reads.keepB {w w' : World} {B size n : Nat} {A : Option Addr} {xs : List Value} (h : Reads w B size A n xs) (hb : Below B w w') : Reads w' B size A n xs := h.below hb
end Go.Proofs.YtebccdinglohpaaDoor
set_option linter.unusedSimpArgs false
set_option linter.unusedVariables false
namespace Go.Proofs.YtebccdinglohpaaDoor
open Go.RowKit
theorem own_set {w : World} {base e size n g i : Nat} {v : Value} {xs : List Value} (h : w.ownsRow base e size v n xs) (hne : v.ownBlock ≠ some g) (u : Value) : (w.setCell ⟨g, i, none⟩ u).ownsRow base e size v n xs :=
  h.kept (only_setCell (World.grownBy.refl w (some g)) (p := ⟨g, i, none⟩) (.inl rfl) u) (.inr hne)
end Go.Proofs.YtebccdinglohpaaDoor
set_option linter.unusedSimpArgs false
set_option linter.unusedVariables false
namespace Go.Proofs.YtebccdinglohpaaDoor
open Go.RowKit
theorem strv_len (l : List (List UInt8)) : (strv l).length = l.length := by simp [strv]
theorem own_below {w w' : World} {base e size n : Nat} {v : Value} {xs : List Value} (h : w.ownsRow base e size v n xs) (hb : Below w.heap.size w w') : w'.ownsRow base e size v n xs :=
  ⟨h.1, h.2.imp id (fun ⟨g, cap, cur, e1, e2, e3, rest⟩ => ⟨g, cap, cur, e1, e2, (hb.block g (Array.getElem?_eq_some_iff.1 e3).1).trans e3, rest⟩)⟩
end Go.Proofs.YtebccdinglohpaaDoor
set_option linter.unusedSimpArgs false
set_option linter.unusedVariables false
namespace Go.Proofs.YtebccdinglohpaaDoor
open Go.RowKit
attribute [local go_sem] Oper.semAt_some
theorem blk_new' {w : World} {g : Nat} (t : TypeId) (cs : Array Value) (h : g = w.heap.size) : Blk (w.alloc (.cells cs t)) g t cs := by subst h; exact Blk.new w t cs
theorem KeepsFrom.below {lo : Nat} {A B : World} (hb : Below A.heap.size A B) : KeepsFrom lo A B :=
  ⟨hb.size, fun k o _ hk _ => (hb.block k (Array.getElem?_eq_some_iff.1 hk).1).trans hk⟩
theorem Blk.put {W : World} {g D : Nat} {t : TypeId} {cs : Array Value} (h : Blk W g t cs) (hne : g ≠ D) (o : Obj) : Blk (W.putObj D o) g t cs := (World.putObj_heap_other hne).trans h
end Go.Proofs.YtebccdinglohpaaDoor
set_option linter.unusedSimpArgs false
set_option linter.unusedVariables false
namespace Go.Proofs.YtebccdinglohpaaDoor
open Go.RowKit Go.WideShapes Go.ChangeShapes
attribute [local go_sem] Oper.semAt_some
structure PR where
  b : Bool
  a : Nat
  n : Int
  ge : Int
  le : Int
def PR.cs (r : PR) : List Value := [.bool r.b, .int .u32 (r.a : Int), .int .i64 r.n, .int .i64 r.ge, .int .i64 r.le]
structure PR.Ok (r : PR) : Prop where
  a : r.a < 4294967296
  l : -9223372036854775808 ≤ r.n
  h : r.n ≤ 9223372036854775807
def prR (_ : World) (vs : List Value) (r : PR) : Prop := vs = r.cs ∧ r.Ok
theorem prMono : SMono prR := fun _ _ _ _ _ h => h
theorem prOne : SOne prR := by
  rintro w vs x ⟨rfl, _⟩ u hu
  simp [PR.cs] at hu
  rcases hu with rfl | rfl | rfl | rfl | rfl <;> rfl
/-- A list of rules; the k-th. -/
theorem PRat {w : World} {A : Option Addr} {n c : Nat} {l : List PR} (h : LstAt 5 prR w A n c l) {k : Nat} (hk : k < n) :
    ∃ (g o : Nat) (b : Bool) (a : Nat) (m ge le : Int), A = some ⟨g, o, none⟩ ∧ g < w.heap.size ∧ l[k]? = some ⟨b, a, m, ge, le⟩ ∧ PR.Ok ⟨b, a, m, ge, le⟩ ∧ w.cell? ⟨g, o + k * 5, none⟩ = some (.bool b) ∧ w.cell? ⟨g, o + k * 5 + 1, none⟩ = some (.int .u32 (a : Int)) ∧
      w.cell? ⟨g, o + k * 5 + 2, none⟩ = some (.int .i64 m) ∧ w.cell? ⟨g, o + k * 5 + 3, none⟩ = some (.int .i64 ge) ∧ w.cell? ⟨g, o + k * 5 + 4, none⟩ = some (.int .i64 le) := by
  obtain ⟨g, o, ⟨b, a, m, ge, le⟩, vs, hA, hg, hx, _, ⟨rfl, hr⟩, hc⟩ := h.at_ hk
  exact ⟨g, o, b, a, m, ge, le, hA, hg, hx, hr, hc 0 _ rfl, hc 1 _ rfl, hc 2 _ rfl, hc 3 _ rfl, hc 4 _ rfl⟩
def pgoodP (r : PR) : Bool := goodB r.a r.n && (decide (r.n ≤ r.ge) && (decide (r.ge ≤ r.le) && decide (r.le ≤ 32)))
def phitP (a : Nat) (n : Int) (r : PR) : Bool := covB r.a r.n a n && (decide (r.ge ≤ n) && decide (n ≤ r.le))
theorem ret_i64 {i j : Int} (h : i = j) : Ending.returned (.int .i64 i) = .returned (.int .i64 j) := by rw [h]
set_option maxRecDepth 100000 in
theorem prIndex1_any (F : FuncId) (cap : Value) (p : PR → Bool) (A : Option Addr) (n c : Nat) (l : List PR) (w : World) (h : LstAt 5 prR w A n c l) (hF : ∀ (args : Array Value) (W : World), (callFunc F args).run Tryd.prog W = .ok (.enter F args) W)
    (HF : ∀ (b : Bool) (a : Nat) (m ge le : Int) (W : World), Below w.heap.size w W → PR.Ok ⟨b, a, m, ge, le⟩ → Calls Tryd.prog F #[.agg #[.bool b, .int .u32 (a : Int), .int .i64 m, .int .i64 ge, .int .i64 le], cap] W (GoodP (p ⟨b, a, m, ge, le⟩) W)) :
    Calls Tryd.prog 36 #[.slice A n c, .func (.func F) #[] #[cap]] w fun e w' => e = .returned (.int .i64 (idxP p l)) ∧ Below w.heap.size w w' := by
  have hm := h.2.2.1
  have hnc := h.2.1
  unfold maxLen at hm
  have HU := hide h
  have HP := hide HF
  have HE := hide hF
  clear h HF hF
  go_enter Tryd.func36, Tryd.ntmps36
  go_wp2
  go_loopw [8] (fun i wr => ∃ k : Nat, k ≤ n ∧ i = .int .i64 k ∧ (∀ y ∈ l.take k, p y = false) ∧ Below w.heap.size w wr) (fun i _ => n - (intOf i).toNat)
  case atStart => exact ⟨0, Nat.zero_le _, rfl, by simp, Below.refl _ _⟩
  case round =>
    obtain ⟨k, hk, rfl, hno, hb⟩ := hrel
    have HN := hide hno
    have HA := hide (HU.out.below prMono hb)
    have HB := hide hb
    have hsz := hb.size
    clear hno hb
    by_cases hlt : k < n
    · obtain ⟨g, o, b, a, m, ge, le, rfl, hg, hy, hok, c0, c1, c2, c3, c4⟩ := PRat HA.out hlt
      have HO := hide (HP.out b a m ge le wr HB.out hok)
      have HY := hide hy
      clear hy
      obtain ⟨q, hq⟩ : ∃ q, p ⟨b, a, m, ge, le⟩ = q := ⟨_, rfl⟩
      rw [hq] at HO
      have HQ := hide hq
      clear hq hok
      go_wp2_with fail
      rw [HE.out, Oper.upon_enter]
      refine HO.out.mono ?_
      rintro e w1 ⟨rfl, hb1⟩
      have HB1 := hide (HB.out.trans (hb1.mono hsz))
      clear hb1
      cases q
      · have hn2 := hide (show ∀ y ∈ l.take (k + 1), p y = false by
          intro y hy
          rw [List.take_add_one, HY.out, List.mem_append] at hy
          rcases hy with hy | hy
          · exact HN.out y hy
          · simp at hy; subst hy; exact HQ.out)
        go_wp2
        go_roundw
        case rel => exact ⟨k + 1, by omega, by go_num, hn2.out, HB1.out⟩
        case measure => simp [intOf]; omega
      · have hin := hide (idxP_at p l k _ HN.out HY.out HQ.out)
        go_wp2
        go_ret
        exact ⟨ret_i64 hin.out.symm, HB1.out⟩
    · obtain rfl : k = n := by omega
      have hf := hide (idxP_none p l (fun y hy => HN.out y (by rw [List.take_of_length_le (by rw [HU.out.1]; exact Nat.le_refl _)]; exact hy)))
      go_wp2
      go_ret
      exact ⟨ret_i64 hf.out.symm, HB.out⟩
theorem prContains1_any (F : FuncId) (cap : Value) (p : PR → Bool) (A : Option Addr) (n c : Nat) (l : List PR) (w : World) (h : LstAt 5 prR w A n c l) (hF : ∀ (args : Array Value) (W : World), (callFunc F args).run Tryd.prog W = .ok (.enter F args) W)
    (HF : ∀ (b : Bool) (a : Nat) (m ge le : Int) (W : World), Below w.heap.size w W → PR.Ok ⟨b, a, m, ge, le⟩ → Calls Tryd.prog F #[.agg #[.bool b, .int .u32 (a : Int), .int .i64 m, .int .i64 ge, .int .i64 le], cap] W (GoodP (p ⟨b, a, m, ge, le⟩) W)) :
    Calls Tryd.prog 19 #[.slice A n c, .func (.func F) #[] #[cap]] w (GoodP (l.any p) w) := by
  have HI := hide (prIndex1_any F cap p A n c l w h hF HF)
  have hd := idxP_any p l
  obtain ⟨q, hq⟩ : ∃ q, l.any p = q := ⟨_, rfl⟩
  obtain ⟨i, hi⟩ : ∃ i, idxP p l = i := ⟨_, rfl⟩
  rw [hi] at HI hd
  rw [hq] at hd ⊢
  clear h hF HF hi hq
  go_enter Tryd.func19, Tryd.ntmps19
  go_wp2_with fail
  refine HI.out.mono ?_
  rintro e w1 ⟨rfl, hb⟩
  have HB := hide hb
  clear hb
  go_wp2
  go_ret
  exact ⟨rfl, HB.out⟩
theorem pgood_any (b : Bool) (a : Nat) (m ge le : Int) (w : World) (hok : PR.Ok ⟨b, a, m, ge, le⟩) :
    Calls Tryd.prog 43 #[.agg #[.bool b, .int .u32 (a : Int), .int .i64 m, .int .i64 ge, .int .i64 le]] w (GoodP (pgoodP ⟨b, a, m, ge, le⟩) w) := by
  have HG := hide (fun W => Good_any a m hok.a hok.l hok.h W)
  have HK := hide (Blk.new w 41 #[.bool b, .int .u32 (a : Int), .int .i64 m, .int .i64 ge, .int .i64 le])
  have HB := hide ((Below.refl w.heap.size w).alloc (Nat.le_refl _) (.cells #[.bool b, .int .u32 (a : Int), .int .i64 m, .int .i64 ge, .int .i64 le] 41))
  have HR : Hid (pgoodP ⟨b, a, m, ge, le⟩ = (goodB a m && (decide (m ≤ ge) && (decide (ge ≤ le) && decide (le ≤ 32))))) := hide rfl
  obtain ⟨q, hq⟩ : ∃ q, goodB a m = q := ⟨_, rfl⟩
  obtain ⟨q1, hd1⟩ : ∃ q, decide (m ≤ ge) = q := ⟨_, rfl⟩
  obtain ⟨q2, hd2⟩ : ∃ q, decide (ge ≤ le) = q := ⟨_, rfl⟩
  obtain ⟨q3, hd3⟩ : ∃ q, decide (le ≤ 32) = q := ⟨_, rfl⟩
  rw [hq] at HG
  rw [hq, hd1, hd2, hd3] at HR
  clear hq hok
  cases q <;> cases q1 <;> cases q2 <;> cases q3
  all_goals
    go_enter Tryd.func43, Tryd.ntmps43
    go_wp2_with fail
    refine (HG.out _).mono ?_
    rintro e w1 ⟨rfl, hb⟩
    have hk1 := HK.out.below hb (by simp)
    have x2 := hk1.cell 2
    have x3 := hk1.cell 3
    have x4 := hk1.cell 4
    have HB1 := hide (below2 HB.out hb)
    clear hb hk1
    go_wp2
    go_ret
    exact ⟨ret_bool HR.out.symm, HB1.out⟩
theorem phits_any (b : Bool) (a : Nat) (m ge le : Int) (x : Nat) (n : Int) (w : World) (hok : PR.Ok ⟨b, a, m, ge, le⟩) (hx : PfxOk x n) :
    Calls Tryd.prog 40 #[.agg #[.bool b, .int .u32 (a : Int), .int .i64 m, .int .i64 ge, .int .i64 le], .agg #[.int .u32 (x : Int), .int .i64 n]] w (GoodP (phitP x n ⟨b, a, m, ge, le⟩) w) := by
  have HG := hide (fun W => Covers_any a m x n hok.a hx.a hok.l hok.h hx.l hx.h W)
  have HK := hide ((Blk.new w 41 #[.bool b, .int .u32 (a : Int), .int .i64 m, .int .i64 ge, .int .i64 le]).alloc (.cells #[.int .u32 (x : Int), .int .i64 n] 36))
  have HL := hide (Blk.new (w.alloc (.cells #[.bool b, .int .u32 (a : Int), .int .i64 m, .int .i64 ge, .int .i64 le] 41)) 36 #[.int .u32 (x : Int), .int .i64 n])
  have HB := hide (((Below.refl w.heap.size w).alloc (Nat.le_refl _) (.cells #[.bool b, .int .u32 (a : Int), .int .i64 m, .int .i64 ge, .int .i64 le] 41)).alloc (by simp) (.cells #[.int .u32 (x : Int), .int .i64 n] 36))
  have HR : Hid (phitP x n ⟨b, a, m, ge, le⟩ = (covB a m x n && (decide (ge ≤ n) && decide (n ≤ le)))) := hide rfl
  obtain ⟨q, hq⟩ : ∃ q, covB a m x n = q := ⟨_, rfl⟩
  obtain ⟨q1, hd1⟩ : ∃ q, decide (ge ≤ n) = q := ⟨_, rfl⟩
  obtain ⟨q2, hd2⟩ : ∃ q, decide (n ≤ le) = q := ⟨_, rfl⟩
  rw [hq] at HG
  rw [hq, hd1, hd2] at HR
  clear hq hok hx
  cases q <;> cases q1 <;> cases q2
  all_goals
    go_enter Tryd.func40, Tryd.ntmps40
    go_wp2_with fail
    refine (HG.out _).mono ?_
    rintro e w1 ⟨rfl, hb⟩
    have hk1 := HK.out.below hb (by simp; omega)
    have hl1 := HL.out.below hb (by simp)
    have x2 := hk1.cell 3
    have x3 := hk1.cell 4
    have x4 := hl1.cell 1
    simp at x4
    have HB1 := hide (below2 HB.out hb)
    clear hb hk1 hl1
    go_wp2
    go_ret
    exact ⟨ret_bool HR.out.symm, HB1.out⟩
theorem pseek1_any (b : Bool) (a : Nat) (m ge le : Int) (H x : Nat) (n : Int) (w : World) (hok : PR.Ok ⟨b, a, m, ge, le⟩) (hx : PfxOk x n) (hc : Blk w H 36 #[.int .u32 (x : Int), .int .i64 n]) :
    Calls Tryd.prog 39 #[.agg #[.bool b, .int .u32 (a : Int), .int .i64 m, .int .i64 ge, .int .i64 le], .pointer (some ⟨H, 0, none⟩)] w (GoodP (phitP x n ⟨b, a, m, ge, le⟩) w) := by
  have HG := hide (fun W => phits_any b a m ge le x n W hok hx)
  have HB := hide ((Below.refl w.heap.size w).alloc (Nat.le_refl _) (.cells #[.bool b, .int .u32 (a : Int), .int .i64 m, .int .i64 ge, .int .i64 le] 41))
  have hH := hc.lt
  have c0 := hc.cell 0
  have c1 := hc.cell 1
  obtain ⟨q, hq⟩ : ∃ q, phitP x n ⟨b, a, m, ge, le⟩ = q := ⟨_, rfl⟩
  rw [hq] at HG ⊢
  clear hq hok hx hc
  go_enter Tryd.func39, Tryd.ntmps39
  go_wp2_with fail
  refine (HG.out _).mono ?_
  rintro e w1 ⟨rfl, hb⟩
  have HB1 := hide (below2 HB.out hb)
  clear hb
  go_wp2
  go_ret
  exact ⟨rfl, HB1.out⟩
theorem callSeek1 (args : Array Value) (W : World) : (callFunc 39 args).run Tryd.prog W = .ok (.enter 39 args) W := by
  simp [callFunc, go_sem, Tryd.func39]
  rfl
theorem pseek_any (s : ByteArray) (A : Option Addr) (k c : Nat) (l : List PR) (x : Nat) (n : Int) (w : World) (h : LstAt 5 prR w A k c l) (hx : PfxOk x n) :
    Calls Tryd.prog 24 #[.agg #[.string s, .slice A k c], .agg #[.int .u32 (x : Int), .int .i64 n]] w fun e w' => e = .returned (.int .i64 (idxP (phitP x n) l)) ∧ Below w.heap.size w w' := by
  have hal : Below w.heap.size w ((w.alloc (.cells #[.string s, .slice A k c] 33)).alloc (.cells #[.int .u32 (x : Int), .int .i64 n] 36)) := ((Below.refl w.heap.size w).alloc (Nat.le_refl _) _).alloc (by simp) _
  have hbk : Blk ((w.alloc (.cells #[.string s, .slice A k c] 33)).alloc (.cells #[.int .u32 (x : Int), .int .i64 n] 36)) (w.heap.size + 1) 36 #[.int .u32 (x : Int), .int .i64 n] := blk_new' _ _ (by simp)
  have HI := hide (prIndex1_any 39 (.pointer (some ⟨w.heap.size + 1, 0, none⟩)) (phitP x n) A k c l _ (h.below prMono hal) callSeek1 (fun b a m ge le W hW hok => pseek1_any b a m ge le (w.heap.size + 1) x n W hok hx (hbk.below hW hbk.lt)))
  have HB := hide hal
  obtain ⟨i, hi⟩ : ∃ i, idxP (phitP x n) l = i := ⟨_, rfl⟩
  rw [hi] at HI ⊢
  clear h hx hal hbk hi
  go_enter Tryd.func24, Tryd.ntmps24
  go_wp2_with fail
  refine HI.out.mono ?_
  rintro e w1 ⟨rfl, hb⟩
  have HB1 := hide (below2 HB.out hb)
  clear hb
  go_wp2
  go_ret
  exact ⟨rfl, HB1.out⟩
end Go.Proofs.YtebccdinglohpaaDoor
set_option linter.unusedSimpArgs false
set_option linter.unusedVariables false
namespace Go.Proofs.YtebccdinglohpaaDoor
open Go.RowKit
set_option maxRecDepth 100000 in
open Go.WideShapes Go.ChangeShapes Go.ChangeAt Go.ChangeMaps in
theorem prefix_open {H : Type} {enc : TypeId × Value → H} {W : World} {r : Reach} {b0 : Nat} {v : Value} {d : DataW H} {p : List MemPlace} (hv : Value.okWide Tryd.prog W r b0 36 v)
    (h : DataW.Trod enc Tryd.prog W 0 (fun _ => true) true 36 v d p) :
    ∃ (a : Nat) (n : Int), v = pfx a n ∧ a < 4294967296 ∧ -9223372036854775808 ≤ n ∧ n ≤ 9223372036854775807 := by
  obtain ⟨v0, v1, y0, y1, k, rfl, _, _, h0, h1⟩ := Go.Joins.open_agg2 Tryd.underlying36 (by kernel_rfl) (by kernel_rfl) hv h
  obtain ⟨z0, e0, _, w0⟩ := DataW.trod_int Tryd.underlying34 h0
  obtain ⟨z1, e1, _, w1⟩ := DataW.trod_int Tryd.underlying3 h1
  obtain rfl : v0 = _ := by simpa using e0
  obtain rfl : v1 = _ := by simpa using e1
  have c0 : 0 ≤ z0 ∧ z0 ≤ 4294967295 := by simpa [Lit.wf, IntKind.min, IntKind.max, IntKind.signed, IntKind.bits] using w0
  have c1 : -9223372036854775808 ≤ z1 ∧ z1 ≤ 9223372036854775807 := by simpa [Lit.wf, IntKind.min, IntKind.max, IntKind.signed, IntKind.bits] using w1
  obtain ⟨a, rfl⟩ := Int.eq_ofNat_of_zero_le c0.1
  exact ⟨a, z1, rfl, by omega, c1.1, c1.2⟩
end Go.Proofs.YtebccdinglohpaaDoor
set_option linter.unusedSimpArgs false
set_option linter.unusedVariables false
namespace Go.Proofs.YtebccdinglohpaaDoor
open Go.RowKit
/-- A text parted at a sign. -/
def parts (p : UInt8) : List UInt8 → List (List UInt8)
  | [] => [[]]
  | c :: r => if c = p then [] :: parts p r else match parts p r with
    | [] => [[c]]
    | h :: t => (c :: h) :: t
theorem parts_none (p : UInt8) : ∀ l : List UInt8, (∀ c ∈ l, c ≠ p) → parts p l = [l]
  | [], _ => rfl
  | c :: r, h => by
    have hc : c ≠ p := h c (by simp)
    have := parts_none p r (fun d hd => h d (by simp [hd]))
    rw [parts, if_neg hc, this]
theorem parts_at (p : UInt8) : ∀ x y : List UInt8, (∀ c ∈ x, c ≠ p) → parts p (x ++ p :: y) = x :: parts p y
  | [], y, _ => by simp [parts]
  | c :: r, y, h => by
    have hc : c ≠ p := h c (by simp)
    have := parts_at p r y (fun d hd => h d (by simp [hd]))
    rw [List.cons_append, parts, if_neg hc, this]
theorem split_or (p : UInt8) : ∀ l : List UInt8, (∀ c ∈ l, c ≠ p) ∨ ∃ x y, l = x ++ p :: y ∧ ∀ c ∈ x, c ≠ p
  | [] => .inl (by simp)
  | c :: r => by
    by_cases hc : c = p
    · subst hc; exact .inr ⟨[], r, rfl, by simp⟩
    · rcases split_or p r with h | ⟨x, y, rfl, hx⟩
      · refine .inl fun d hd => ?_
        rcases List.mem_cons.1 hd with rfl | hd
        · exact hc
        · exact h d hd
      · refine .inr ⟨c :: x, y, rfl, fun d hd => ?_⟩
        rcases List.mem_cons.1 hd with rfl | hd
        · exact hc
        · exact hx d hd
theorem splitK_parts (p : UInt8) : ∀ (n : Nat) (l : List UInt8), l.length ≤ n → Lib.splitK [p] 0 (Lib.count l [p]) l = parts p l
  | 0, l, h => by
    have : l = [] := List.eq_nil_of_length_eq_zero (by omega)
    subst this
    simp [Lib.count_one, Lib.splitK, parts]
  | n + 1, l, h => by
    rcases split_or p l with hl | ⟨x, y, rfl, hx⟩
    · rw [parts_none p l hl, Lib.count_one, List.count_eq_zero.2 (fun hm => hl p hm rfl)]
      rfl
    · have hc : Lib.count (x ++ p :: y) [p] = Lib.count y [p] + 1 := by
        rw [Lib.count_one, Lib.count_one, List.count_append, List.count_cons_self, List.count_eq_zero.2 (fun hm => hx p hm rfl)]; omega
      rw [hc, Lib.splitK, index_at p x y hx, if_neg (by simp), parts_at p x y hx]
      have e1 : ((x.length : Int).toNat + 0) = x.length := by omega
      have e2 : ((x.length : Int).toNat + [p].length) = x.length + 1 := by simp
      rw [e1, e2, List.take_left']
      · have e3 : (x ++ p :: y).drop (x.length + 1) = y := by simp
        rw [e3, splitK_parts p n y (by simp at h; omega)]
      · rfl
theorem splitB_parts (p : UInt8) (l : List UInt8) : Lib.splitB ⟨#[p]⟩ 0 (Lib.countB (str l) ⟨#[p]⟩) (str l) = (parts p l).map str := by
  have h := Lib.splitB_data ⟨#[p]⟩ 0 (Lib.countB (str l) ⟨#[p]⟩) (str l)
  have e : Lib.countB (str l) ⟨#[p]⟩ = Lib.count l [p] := by unfold Lib.countB; rw [str_data]
  rw [e] at h ⊢
  rw [str_data, splitK_parts p _ l (Nat.le_refl _)] at h
  rw [← h, List.map_map]
  have : (str ∘ fun x : ByteArray => x.data.toList) = id := by funext x; exact str_of x
  rw [this, List.map_id]
theorem countB_parts (p : UInt8) (l : List UInt8) : Lib.countB (str l) ⟨#[p]⟩ + 1 = (parts p l).length := by
  have := Lib.splitB_all ⟨#[p]⟩ (Nat.le_refl 1) 0 _ (str l) rfl
  rw [splitB_parts, List.length_map] at this
  exact this.symm
theorem parts_len (p : UInt8) : ∀ (n : Nat) (l : List UInt8), l.length ≤ n → (parts p l).length ≤ l.length + 1 ∧ ∀ x ∈ parts p l, x.length ≤ l.length
  | 0, l, h => by
    have : l = [] := List.eq_nil_of_length_eq_zero (by omega)
    subst this
    simp [parts]
  | n + 1, l, h => by
    rcases split_or p l with hl | ⟨x, y, rfl, hx⟩
    · rw [parts_none p l hl]; simp
    · obtain ⟨h1, h2⟩ := parts_len p n y (by simp at h; omega)
      rw [parts_at p x y hx]
      refine ⟨by simp; omega, fun z hz => ?_⟩
      rcases List.mem_cons.1 hz with rfl | hz
      · simp
      · have := h2 z hz; simp; omega
/-- strconv.ParseUint at 8 bits: the number and nil, or a number and an error. -/
theorem pu8_any (s : ByteArray) (hs : s.size ≤ 1000) (w : World) (he : Env w) : Calls Tryd.prog 56 #[.string s, .int .i64 10, .int .i64 8] w fun e w' => Below w.heap.size w w' ∧
    ((∃ u, u < 256 ∧ Lib.parseUintB 8 s.data.toList = .ok u ∧ e = .returned (.tuple #[.int .u64 (u : Int), .nilIface])) ∨
     (∃ (u : Nat) (te : TypeId) (pe : Value), u < 256 ∧ (∀ x, Lib.parseUintB 8 s.data.toList ≠ .ok x) ∧ e = .returned (.tuple #[.int .u64 (u : Int), .iface te pe]))) := by
  rcases h : Lib.parseUintB 8 s.data.toList with u | _ | _
  · 
    have hu := Lib.parseUintB_le h
    refine (Tryd.strconv_ParseUint_10_at8_ok s (by omega) u h w).mono ?_
    rintro e w' ⟨rfl, hw⟩
    refine ⟨?_, Or.inl ⟨u, by omega, rfl, rfl⟩⟩
    rcases hw with rfl | rfl
    · exact Below.refl _ _
    · exact Go.Joins.below_bytesWorld _ _ _ _ (Nat.le_refl _)
  · 
    obtain ⟨ev, hv, hev⟩ := he.syn
    refine (Tryd.strconv_ParseUint_10_at8_syntax s (by omega) h ev w hv hev).mono ?_
    rintro e w' ⟨N, rfl, _, _, hb⟩
    exact ⟨hb, Or.inr ⟨0, _, _, by omega, by simp, rfl⟩⟩
  · 
    obtain ⟨ev, hv, hev⟩ := he.rng
    refine (Tryd.strconv_ParseUint_10_at8_range s (by omega) h ev w hv hev).mono ?_
    rintro e w' ⟨N, rfl, _, _, hb⟩
    exact ⟨hb, Or.inr ⟨255, _, _, by omega, by simp, rfl⟩⟩
theorem parts_addr (a : Nat) : parts 46 (addrL a) = [Lib.decDigits (octN a 0), Lib.decDigits (octN a 1), Lib.decDigits (octN a 2), Lib.decDigits (octN a 3)] := by
  have e : addrL a = Lib.decDigits (octN a 0) ++ 46 :: (Lib.decDigits (octN a 1) ++ 46 :: (Lib.decDigits (octN a 2) ++ 46 :: Lib.decDigits (octN a 3))) := by simp [addrL]
  rw [e, parts_at _ _ _ (dec_no (by decide) _), parts_at _ _ _ (dec_no (by decide) _), parts_at _ _ _ (dec_no (by decide) _), parts_none _ _ (dec_no (by decide) _)]
/-- An address's first k bytes. -/
def accN (x k : Nat) : Nat := x / 256 ^ (4 - k)
theorem accN_zero (x : Nat) (h : x < 4294967296) : accN x 0 = 0 := by unfold accN; exact Nat.div_eq_of_lt h
theorem accN_four (x : Nat) : accN x 4 = x := by unfold accN; simp
theorem accN_succ (x k : Nat) (h : k < 4) : accN x (k + 1) = accN x k * 256 + octN x k := by
  unfold accN octN
  rcases (show k = 0 ∨ k = 1 ∨ k = 2 ∨ k = 3 by omega) with rfl | rfl | rfl | rfl
  all_goals (simp only [Nat.reduceAdd, Nat.reduceSub, Nat.reducePow]; omega)
theorem accN_lt (x k : Nat) (h : x < 4294967296) (hk : k < 4) : accN x k < 16777216 := by
  unfold accN
  rcases (show k = 0 ∨ k = 1 ∨ k = 2 ∨ k = 3 by omega) with rfl | rfl | rfl | rfl
  all_goals (simp only [Nat.reduceAdd, Nat.reduceSub, Nat.reducePow]; omega)
/-- What the parts of a text at hand say of an address whose text it is. -/
def AccOf (l : List UInt8) (k A : Nat) : Prop := ∀ x, x < 4294967296 → l = addrL x → A = accN x k
def SplitP (l : List UInt8) (w : World) (e : Ending) (w' : World) : Prop :=
  e = .returned (.slice (some ⟨w.heap.size, 0, none⟩) (parts 46 l).length (parts 46 l).length) ∧ Below w.heap.size w w' ∧ ∀ j x, (parts 46 l)[j]? = some x → w'.cell? ⟨w.heap.size, j, none⟩ = some (.string (str x))
theorem split46 (l : List UInt8) (hl : l.length ≤ 1000) (w : World) (he : Env w) : Calls Tryd.prog 34 #[.string (str l), .string ⟨#[46]⟩] w (SplitP l w) := by
  obtain ⟨m, hm⟩ := he.most
  have h := Tryd.strings_Split (str l) ⟨#[46]⟩ m w (by rw [str_size]; omega) hm (by decide)
  rw [splitB_parts, countB_parts] at h
  refine h.mono ?_
  rintro e w' ⟨rfl, rfl⟩
  refine ⟨rfl, (Below.refl _ _).alloc (Nat.le_refl _) _, fun j x hj => ?_⟩
  have hb := (Blk.new w 9 (((parts 46 l).map str).map Value.string).toArray).cell j
  rw [hb]
  simp [hj]
def PAddrP (l : List UInt8) (w : World) (e : Ending) (w' : World) : Prop :=
  Below w.heap.size w w' ∧ ∃ (a : Nat) (b : Bool), a < 4294967296 ∧ e = .returned (.tuple #[.int .u32 (a : Int), .bool b]) ∧ (b = true → l = addrL a) ∧ (∀ x, x < 4294967296 → l = addrL x → b = true ∧ a = x)
theorem oct_or (A u : Nat) (hu : u < 256) : A * 256 % 4294967296 ||| u = A * 256 % 4294967296 + u := by
  have h : A * 256 % 4294967296 = 2 ^ 8 * (A % 16777216) := by omega
  rw [h, Nat.two_pow_add_eq_or_of_lt (by omega)]
set_option maxRecDepth 100000 in
set_option maxHeartbeats 1000000 in
theorem paddr_any (l : List UInt8) (hl : l.length ≤ 100) (w : World) (he : Env w) : Calls Tryd.prog 55 #[.string (str l)] w (PAddrP l w) := by
  have HS := hide (split46 l (by omega) w he)
  have HE := hide he
  have HL := hide hl
  obtain ⟨ps, hps⟩ : ∃ ps, parts 46 l = ps := ⟨_, rfl⟩
  obtain ⟨n, hn⟩ : ∃ n, ps.length = n := ⟨_, rfl⟩
  have hlen := parts_len 46 _ l (Nat.le_refl _)
  rw [hps] at hlen
  have hn1 : n ≤ 1000 := by omega
  have HX := hide hlen.2
  have HPS := hide hps
  have HN := hide hn
  have HAd : Hid (∀ x, l = addrL x → n = 4 ∧ ∀ k, k < 4 → ps[k]? = some (Lib.decDigits (octN x k))) := hide (fun x hx => by
    have e := parts_addr x
    rw [← hx, HPS.out] at e
    subst e
    refine ⟨HN.out.symm, fun k hk => ?_⟩
    rcases (show k = 0 ∨ k = 1 ∨ k = 2 ∨ k = 3 by omega) with rfl | rfl | rfl | rfl <;> rfl)
  clear he hl hps hn hlen
  go_enter Tryd.func55, Tryd.ntmps55
  go_wp2_with fail
  refine HS.out.mono ?_
  rintro e w1 ⟨rfl, hb1, hcells⟩
  rw [HPS.out, HN.out]
  rw [HPS.out] at hcells
  have HC := hide hcells
  have HB1 := hide hb1
  clear hcells hb1
  go_wp2
  go_loopw [4, 14] (fun a i wr => ∃ k A : Nat, k ≤ n ∧ A < 4294967296 ∧ i = .int .i64 k ∧ a = .int .u32 A ∧ Below w1.heap.size w1 wr ∧ AccOf l k A) (fun _ i _ => n - (intOf i).toNat)
  case atStart => exact ⟨0, 0, by omega, by omega, rfl, rfl, Below.refl _ _, fun x hx _ => (accN_zero x hx).symm⟩
  case round =>
    obtain ⟨k, A, hk, hA, rfl, rfl, hbel, hacc⟩ := hrel
    have HA := hide hacc
    have HBel := hide hbel
    clear hacc hbel
    have her := hide (HE.out.below (HB1.out.trans (HBel.out.mono HB1.out.size)))
    by_cases hlt : k < n
    · obtain ⟨x, hx⟩ : ∃ x, ps[k]? = some x := ⟨ps[k]'(by rw [HN.out]; exact hlt), List.getElem?_eq_getElem _⟩
      have HXK := hide hx
      have hc0 := HC.out k x hx
      have hc : wr.cell? ⟨w.heap.size, k, none⟩ = some (.string (str x)) := (HBel.out.cell (World.block_lt_of_cell? _ _ hc0)).trans hc0
      have HP := hide (pu8_any (str x) (by rw [str_size]; have := HX.out x (List.mem_of_getElem? hx); have := HL.out; omega) wr her.out)
      have HOk : Hid (∀ t, t < 4294967296 → l = addrL t → k < 4 ∧ Lib.parseUintB 8 (str x).data.toList = .ok (octN t k)) := hide (fun t ht hlt2 => by
        obtain ⟨h4, hp⟩ := HAd.out t hlt2
        have e := Option.some.inj ((hp k (by omega)).symm.trans HXK.out)
        refine ⟨by omega, ?_⟩
        rw [str_data, ← e]
        exact parse_dec 8 _ (by decide) (by have := octN_lt t k; omega))
      clear hx hc0
      go_wp2_with fail
      refine HP.out.mono ?_
      rintro e w3 ⟨hb3, ⟨u, hu, hp, rfl⟩ | ⟨u, te, pe, hu, hp, rfl⟩⟩
      · have HPU := hide hp
        have HB3 := hide hb3
        clear hp hb3
        go_wp2
        go_roundw
        case rel =>
          refine ⟨k + 1, A * 256 % 4294967296 + u, by omega, by omega, by go_num, ?_, HBel.out.trans (HB3.out.mono HBel.out.size), fun t ht hlt2 => ?_⟩
          · rw [show ((A : Int) * 256 % 4294967296) = ((A * 256 % 4294967296 : Nat) : Int) by omega, u32_or_nat _ _ (by omega) (by omega), oct_or A u hu]
          · obtain ⟨h4, hp⟩ := HOk.out t ht hlt2
            have e := Lib.NumEnd.ok.inj (HPU.out.symm.trans hp)
            have hacc := HA.out t ht hlt2
            have := accN_lt t k ht h4
            rw [accN_succ t k h4, ← hacc, ← e, Nat.mod_eq_of_lt (by omega)]
        case measure => simp [intOf]; omega
      · have HPU := hide hp
        have HB3 := hide hb3
        clear hp hb3
        go_wp2
        go_ret2
        refine ⟨HB1.out.trans ((HBel.out.trans (HB3.out.mono HBel.out.size)).mono HB1.out.size), 0, false, by omega, rfl, fun h => by simp at h, fun t ht hlt2 => ?_⟩
        exact absurd (HOk.out t ht hlt2).2 (HPU.out _)
    · obtain rfl : k = n := by omega
      have hbw := hide (HB1.out.trans (HBel.out.mono HB1.out.size))
      by_cases h4 : k = 4
      · subst h4
        have HT := hide (addr_any A hA wr her.out.tab)
        have hq := hide (str_beq (addrL A) l)
        go_wp2_with fail
        refine HT.out.mono ?_
        rintro e w5 ⟨rfl, hb5⟩
        go_wp2
        go_ret2
        refine ⟨hbw.out.trans (hb5.mono hbw.out.size), A, (addrL A == l), hA, by rw [← hq.out]; rfl, fun h => by simpa using (beq_iff_eq.1 h).symm, fun t ht hlt2 => ?_⟩
        have e := HA.out t ht hlt2
        rw [accN_four] at e
        exact ⟨by rw [hlt2, e]; simp, e⟩
      · have he4 : ((k : Int) == 4) = false := by simp; omega
        go_wp2
        go_ret2
        exact ⟨hbw.out, A, false, hA, rfl, fun h => by simp at h, fun t ht hlt2 => absurd (HAd.out t hlt2).1 h4⟩
theorem addr_no47 (a : Nat) : ∀ c ∈ addrL a, c ≠ 47 := by
  intro c hc
  simp only [addrL, List.mem_append, List.mem_singleton] at hc
  rcases hc with (((((h | h) | h) | h) | h) | h) | h
  all_goals first | exact dec_no (by decide) _ _ h | (subst h; decide)
theorem goodB_32 {a : Nat} {m : Int} (h : goodB a m = true) : 0 ≤ m ∧ m ≤ 32 := by simp [goodB] at h; omega
def PParseP (l : List UInt8) (w : World) (e : Ending) (w' : World) : Prop :=
  Below w.heap.size w w' ∧ ((∃ (a : Nat) (m : Nat), a < 4294967296 ∧ m ≤ 32 ∧ goodB a (m : Int) = true ∧ l = textL a (m : Int) ∧ e = .returned (.tuple #[pfx a (m : Int), .int .i64 0])) ∨
    ((∀ (x : Nat) (m : Int), x < 4294967296 → goodB x m = true → l ≠ textL x m) ∧ e = .returned (.tuple #[pfx 0 0, .int .i64 2])))
theorem cut_empty (p : UInt8) : (Lib.cut [] [p]).2.2 = false := by simp [Lib.cut, Lib.index]
set_option maxRecDepth 100000 in
set_option maxHeartbeats 2000000 in
theorem pparse_any (l : List UInt8) (hl : l.length ≤ 100) (w : World) (he : Env w) : Calls Tryd.prog 41 #[.string (str l)] w (PParseP l w) := by
  have HE := hide (env_cells he (.cells #[.int .u32 0, .int .i64 0] 36))
  have HL := hide hl
  have hbw := hide ((Below.refl w.heap.size w).alloc (Nat.le_refl _) (.cells #[.int .u32 0, .int .i64 0] 36))
  have hk0 := hide (Blk.new w 36 #[.int .u32 0, .int .i64 0])
  clear he hl
  have HC := hide (cut_any 47 l (by have := HL.out; omega) _ HE.out)
  have hx1 := cut_len1 l [47]
  have hx2 := cut_len2 l [47]
  have HCA := hide (cut_at 47)
  obtain ⟨x, hx⟩ : ∃ x, (Lib.cut l [47]).1 = x := ⟨_, rfl⟩
  obtain ⟨y, hy⟩ : ∃ y, (Lib.cut l [47]).2.1 = y := ⟨_, rfl⟩
  obtain ⟨z, hz⟩ : ∃ z, (Lib.cut l [47]).2.2 = z := ⟨_, rfl⟩
  rw [hx, hy, hz] at HC
  rw [hx] at hx1
  rw [hy] at hx2
  have HX := hide hx
  have HY := hide hy
  have HZ := hide hz
  have HCut : Hid (∀ (t : Nat) (m : Int), goodB t m = true → l = textL t m → x = addrL t ∧ y = Lib.decDigits m.toNat ∧ z = true) := hide (fun t m hg hlt => by
    have e1 : l = addrL t ++ 47 :: Lib.decDigits m.toNat := by rw [hlt]; simp [textL, hg]
    have e2 := HCA.out (addrL t) (Lib.decDigits m.toNat) (addr_no47 t)
    rw [← e1] at e2
    exact ⟨by rw [← HX.out, e2], by rw [← HY.out, e2], by rw [← HZ.out, e2]⟩)
  clear hx hy hz
  go_enter Tryd.func41, Tryd.ntmps41
  go_wp2_with fail
  refine HC.out.mono ?_
  rintro e w1 ⟨rfl, hb1⟩
  have he1 := hide (HE.out.below hb1)
  have hbw1 := hide (hbw.out.trans (hb1.mono hbw.out.size))
  have hk1 := hide (hk0.out.below hb1 (by simp))
  clear hb1
  have HM1 := hide (paddr_any x (by have := HL.out; omega) w1 he1.out)
  go_wp2_with fail
  refine HM1.out.mono ?_
  rintro e w2 ⟨hb2, a, b1, ha, rfl, hp1, hp2⟩
  have he2 := hide (he1.out.below hb2)
  have hbw2 := hide (hbw1.out.trans (hb2.mono hbw1.out.size))
  have hk2 := hide (hk1.out.below hb2 hk1.out.lt)
  have HP1 := hide hp1
  have HP2 := hide hp2
  clear hb2 hp1 hp2
  have HM2 := hide (pu8_any (str y) (by rw [str_size]; have := HL.out; omega) w2 he2.out)
  go_wp2_with fail
  refine HM2.out.mono ?_
  rintro e w3 ⟨hb3, ⟨u, hu, hp, rfl⟩ | ⟨u, te, pe, hu, hp, rfl⟩⟩
  · have he3 := hide (he2.out.below hb3)
    have hbw3 := hide (hbw2.out.trans (hb3.mono hbw2.out.size))
    have hk3 := hide (hk2.out.below hb3 hk2.out.lt)
    have HPU := hide hp
    clear hb3 hp
    have hlt3 := hk3.out.lt
    have c0 := blk_read hk3.out (i := 0) rfl
    have c1 := blk_read hk3.out (i := 1) rfl
    have f0 := hk3.out.frozen 0
    have f1 := hk3.out.frozen 1
    cases z
    · go_wp2
      have hR := ((hk3.out.set_ 0 (.int .u32 0)).set_ 1 (.int .i64 0)).alloc (.cells #[.int .u32 (a : Int), .int .i64 (u : Int)] 36)
      have r0 := blk_read hR (i := 0) (v := .int .u32 0) rfl
      have r1 := blk_read hR (i := 1) (v := .int .i64 0) rfl
      refine bodyPost_ret (v := .tuple #[.agg #[.int .u32 0, .int .i64 0], .int .i64 2]) (by simp [results, Tryd.results41, go_sem, r0, r1]) rfl ⟨?_, Or.inr ⟨fun t m ht hg hl => absurd (HCut.out t m hg hl).2.2 (by simp), rfl⟩⟩
      repeat (first | exact hbw3.out | refine Below.setCell ?_ (by simp) _ | refine Below.alloc ?_ (by simp; omega) _)
    · cases b1
      · go_wp2
        have hR := ((hk3.out.set_ 0 (.int .u32 0)).set_ 1 (.int .i64 0)).alloc (.cells #[.int .u32 (a : Int), .int .i64 (u : Int)] 36)
        have r0 := blk_read hR (i := 0) (v := .int .u32 0) rfl
        have r1 := blk_read hR (i := 1) (v := .int .i64 0) rfl
        refine bodyPost_ret (v := .tuple #[.agg #[.int .u32 0, .int .i64 0], .int .i64 2]) (by simp [results, Tryd.results41, go_sem, r0, r1]) rfl ⟨?_, Or.inr ⟨fun t m ht hg hl => absurd (HP2.out t ht (HCut.out t m hg hl).1).1 (by simp), rfl⟩⟩
        repeat (first | exact hbw3.out | refine Below.setCell ?_ (by simp) _ | refine Below.alloc ?_ (by simp; omega) _)
      · have HT := hide (fun w ht => ptext_any a (u : Int) ha (by omega) (by omega) w ht)
        unfold pfx at HT
        have hq := hide (str_beq (textL a (u : Int)) l)
        by_cases hlu : textL a (u : Int) = l
        · have hqt := hide (show ((str (textL a (u : Int))).toList == (str l).toList) = true by rw [hq.out]; simpa using hlu)
          have hqn := hide (show ((str (textL a (u : Int))).toList != (str l).toList) = false by unfold bne; rw [hqt.out]; rfl)
          have HLU := hide hlu
          have e1 := hqt.out
          have e2 := hqn.out
          clear hlu
          go_wp2_with fail
          refine (HT.out _ (he3.out.below ((Below.refl _ _).alloc (Nat.le_refl _) _)).tab).mono ?_
          rintro e w5 ⟨rfl, hb5⟩
          rw [World.size_alloc] at hb5
          have hkk := hide ((hk3.out.alloc (.cells #[.int .u32 (a : Int), .int .i64 (u : Int)] 36)).below hb5 (by omega))
          have hpp := hide ((Blk.new w3 36 #[.int .u32 (a : Int), .int .i64 (u : Int)]).below hb5 (by omega))
          have hbw5 := hide (hbw3.out.trans ((((Below.refl _ w3).alloc (Nat.le_refl _) (.cells #[.int .u32 (a : Int), .int .i64 (u : Int)] 36)).trans (hb5.mono (by omega))).mono hbw3.out.size))
          clear hb5 c0 c1 f0 f1
          have c0 := blk_read hkk.out (i := 0) rfl
          have c1 := blk_read hkk.out (i := 1) rfl
          have f0 := hkk.out.frozen 0
          have f1 := hkk.out.frozen 1
          have p0 := blk_read hpp.out (i := 0) rfl
          have p1 := blk_read hpp.out (i := 1) rfl
          have hlt5 := hkk.out.lt
          go_wp2
          have hgd : goodB a (u : Int) = true := by
            cases hg : goodB a (u : Int)
            · exfalso
              have : l = [] := by rw [← HLU.out]; simp [textL, hg]
              have hz := HZ.out
              rw [this, cut_empty] at hz
              simp at hz
            · rfl
          have hR := ((hkk.out.set_ 0 (.int .u32 (a : Int))).set_ 1 (.int .i64 (u : Int)))
          have r0 := blk_read hR (i := 0) (v := .int .u32 (a : Int)) rfl
          have r1 := blk_read hR (i := 1) (v := .int .i64 (u : Int)) rfl
          refine bodyPost_ret (v := .tuple #[.agg #[.int .u32 (a : Int), .int .i64 (u : Int)], .int .i64 0]) (by simp [results, Tryd.results41, go_sem, r0, r1]) rfl ⟨?_, Or.inl ⟨a, u, ha, by have := goodB_32 hgd; omega, hgd, HLU.out.symm, rfl⟩⟩
          repeat (first | exact hbw5.out | refine Below.setCell ?_ (by simp) _ | refine Below.alloc ?_ (by simp; omega) _)
        · have hqt := hide (show ((str (textL a (u : Int))).toList == (str l).toList) = false by rw [hq.out]; simpa using hlu)
          have hqn := hide (show ((str (textL a (u : Int))).toList != (str l).toList) = true by unfold bne; rw [hqt.out]; rfl)
          have HLU := hide hlu
          have e1 := hqt.out
          have e2 := hqn.out
          clear hlu
          go_wp2_with fail
          refine (HT.out _ (he3.out.below ((Below.refl _ _).alloc (Nat.le_refl _) _)).tab).mono ?_
          rintro e w5 ⟨rfl, hb5⟩
          rw [World.size_alloc] at hb5
          have hkk := hide ((hk3.out.alloc (.cells #[.int .u32 (a : Int), .int .i64 (u : Int)] 36)).below hb5 (by omega))
          have hbw5 := hide (hbw3.out.trans ((((Below.refl _ w3).alloc (Nat.le_refl _) (.cells #[.int .u32 (a : Int), .int .i64 (u : Int)] 36)).trans (hb5.mono (by omega))).mono hbw3.out.size))
          clear hb5 c0 c1 f0 f1
          have c0 := blk_read hkk.out (i := 0) rfl
          have c1 := blk_read hkk.out (i := 1) rfl
          have f0 := hkk.out.frozen 0
          have f1 := hkk.out.frozen 1
          have hlt5 := hkk.out.lt
          go_wp2
          have hR := ((hkk.out.set_ 0 (.int .u32 0)).set_ 1 (.int .i64 0))
          have r0 := blk_read hR (i := 0) (v := .int .u32 0) rfl
          have r1 := blk_read hR (i := 1) (v := .int .i64 0) rfl
          refine bodyPost_ret (v := .tuple #[.agg #[.int .u32 0, .int .i64 0], .int .i64 2]) (by simp [results, Tryd.results41, go_sem, r0, r1]) rfl ⟨?_, Or.inr ⟨fun t m ht hg hl => ?_, rfl⟩⟩
          · repeat (first | exact hbw5.out | refine Below.setCell ?_ (by simp) _ | refine Below.alloc ?_ (by simp; omega) _)
          · obtain ⟨q1, q2, q3⟩ := HCut.out t m hg hl
            have e3 := (HP2.out t ht q1).2
            have hm := goodB_32 hg
            have e4 : Lib.parseUintB 8 (str y).data.toList = .ok m.toNat := by
              rw [str_data, q2]; exact parse_dec 8 _ (by decide) (by omega)
            have e5 := Lib.NumEnd.ok.inj (HPU.out.symm.trans e4)
            refine HLU.out ?_
            rw [hl, e3, show ((u : Nat) : Int) = m by omega]
  · have he3 := hide (he2.out.below hb3)
    have hbw3 := hide (hbw2.out.trans (hb3.mono hbw2.out.size))
    have hk3 := hide (hk2.out.below hb3 hk2.out.lt)
    have HPU := hide hp
    clear hb3 hp
    have hlt3 := hk3.out.lt
    have c0 := blk_read hk3.out (i := 0) rfl
    have c1 := blk_read hk3.out (i := 1) rfl
    have f0 := hk3.out.frozen 0
    have f1 := hk3.out.frozen 1
    have key : Hid (∀ (t : Nat) (m : Int), t < 4294967296 → goodB t m = true → l ≠ textL t m) := hide (fun t m ht hg hl => by
      obtain ⟨q1, q2, q3⟩ := HCut.out t m hg hl
      have hm := goodB_32 hg
      refine HPU.out m.toNat ?_
      rw [str_data, q2]; exact parse_dec 8 _ (by decide) (by omega))
    cases z
    · go_wp2
      have hR := ((hk3.out.set_ 0 (.int .u32 0)).set_ 1 (.int .i64 0)).alloc (.cells #[.int .u32 (a : Int), .int .i64 (u : Int)] 36)
      have r0 := blk_read hR (i := 0) (v := .int .u32 0) rfl
      have r1 := blk_read hR (i := 1) (v := .int .i64 0) rfl
      refine bodyPost_ret (v := .tuple #[.agg #[.int .u32 0, .int .i64 0], .int .i64 2]) (by simp [results, Tryd.results41, go_sem, r0, r1]) rfl ⟨?_, Or.inr ⟨key.out, rfl⟩⟩
      repeat (first | exact hbw3.out | refine Below.setCell ?_ (by simp) _ | refine Below.alloc ?_ (by simp; omega) _)
    · cases b1
      · go_wp2
        have hR := ((hk3.out.set_ 0 (.int .u32 0)).set_ 1 (.int .i64 0)).alloc (.cells #[.int .u32 (a : Int), .int .i64 (u : Int)] 36)
        have r0 := blk_read hR (i := 0) (v := .int .u32 0) rfl
        have r1 := blk_read hR (i := 1) (v := .int .i64 0) rfl
        refine bodyPost_ret (v := .tuple #[.agg #[.int .u32 0, .int .i64 0], .int .i64 2]) (by simp [results, Tryd.results41, go_sem, r0, r1]) rfl ⟨?_, Or.inr ⟨key.out, rfl⟩⟩
        repeat (first | exact hbw3.out | refine Below.setCell ?_ (by simp) _ | refine Below.alloc ?_ (by simp; omega) _)
      · go_wp2
        have hR := ((hk3.out.set_ 0 (.int .u32 0)).set_ 1 (.int .i64 0)).alloc (.cells #[.int .u32 (a : Int), .int .i64 (u : Int)] 36)
        have r0 := blk_read hR (i := 0) (v := .int .u32 0) rfl
        have r1 := blk_read hR (i := 1) (v := .int .i64 0) rfl
        refine bodyPost_ret (v := .tuple #[.agg #[.int .u32 0, .int .i64 0], .int .i64 2]) (by simp [results, Tryd.results41, go_sem, r0, r1]) rfl ⟨?_, Or.inr ⟨key.out, rfl⟩⟩
        repeat (first | exact hbw3.out | refine Below.setCell ?_ (by simp) _ | refine Below.alloc ?_ (by simp; omega) _)
end Go.Proofs.YtebccdinglohpaaDoor
set_option linter.unusedSimpArgs false
set_option linter.unusedVariables false
namespace Go.Proofs.YtebccdinglohpaaDoor
open Go.RowKit
theorem addrL_inj {a b : Nat} (ha : a < 4294967296) (hb : b < 4294967296) (h : addrL a = addrL b) : a = b := by
  have e := congrArg (parts 46) h
  rw [parts_addr, parts_addr] at e
  simp only [List.cons.injEq, and_true] at e
  obtain ⟨e0, e1, e2, e3⟩ := e
  have q0 := dec_inj e0; have q1 := dec_inj e1; have q2 := dec_inj e2; have q3 := dec_inj e3
  unfold octN at q0 q1 q2 q3
  simp only [Nat.reduceSub, Nat.reducePow, Nat.sub_zero, Nat.sub_self, Nat.pow_zero, Nat.div_one] at q0 q1 q2 q3
  omega
theorem textL_good {a : Nat} {n : Int} (h : goodB a n = true) : textL a n = addrL a ++ 47 :: Lib.decDigits n.toNat := by simp [textL, h]
theorem textL_inj {a b : Nat} {n m : Int} (ha : a < 4294967296) (hb : b < 4294967296) (h1 : goodB a n = true) (h2 : goodB b m = true) (h : textL a n = textL b m) : a = b ∧ n = m := by
  rw [textL_good h1, textL_good h2] at h
  obtain ⟨e1, e2⟩ := split_eq (addr_no47 a) (addr_no47 b) h
  have := goodB_32 h1
  have := goodB_32 h2
  have := dec_inj e2
  exact ⟨addrL_inj ha hb e1, by omega⟩
theorem textL_len (a : Nat) (n : Int) : (textL a n).length ≤ 40 := by
  unfold textL
  split
  · rename_i h
    have := goodB_32 h
    have l1 := addrL_len a
    have l2 : (Lib.decDigits n.toNat).length ≤ 2 := dec_len _ 1 (by omega)
    simp; omega
  · simp
theorem textL_bad {a : Nat} {n : Int} (h : goodB a n = false) : textL a n = [] := by simp [textL, h]
/-- Parse of a prefix's own text. -/
theorem pparse_own (a : Nat) (n : Int) (ha : a < 4294967296) (w : World) (he : Env w) : Calls Tryd.prog 41 #[.string (str (textL a n))] w fun e w' =>
    e = .returned (if goodB a n then .tuple #[pfx a n, .int .i64 0] else .tuple #[pfx 0 0, .int .i64 2]) ∧ Below w.heap.size w w' := by
  refine (pparse_any (textL a n) (by have := textL_len a n; omega) w he).mono ?_
  rintro e w' ⟨hb, ⟨b, m, hb2, hm, hg, hl, rfl⟩ | ⟨hno, rfl⟩⟩
  · refine ⟨?_, hb⟩
    cases hga : goodB a n
    · rw [textL_bad hga, textL_good hg] at hl
      simp at hl
    · obtain ⟨rfl, rfl⟩ := textL_inj ha hb2 hga hg hl
      simp
  · refine ⟨?_, hb⟩
    cases hga : goodB a n
    · simp
    · exact absurd rfl (hno a n ha hga)
end Go.Proofs.YtebccdinglohpaaDoor
set_option linter.unusedSimpArgs false
set_option linter.unusedVariables false
namespace Go.Proofs.YtebccdinglohpaaDoor
open Go.RowKit
attribute [local go_sem] Oper.semAt_some
def permitT : List UInt8 := [112, 101, 114, 109, 105, 116]
end Go.Proofs.YtebccdinglohpaaDoor
set_option linter.unusedSimpArgs false
set_option linter.unusedVariables false
namespace Go.Proofs.YtebccdinglohpaaDoor
open Go.RowKit
attribute [local go_sem] Oper.semAt_some
theorem StrsAt.of_own {w : World} {base n c : Nat} {A : Option Addr} {l : List (List UInt8)} (h : w.ownsRow base 9 1 (.slice A n c) n (strv l)) (hb : ∀ x ∈ l, x.length ≤ maxLen) : StrsAt w A n c (l.map str) := by
  have hl : l.length = n := by have := h.1; rw [strv_len] at this; omega
  have hsz : ∀ x ∈ l.map str, x.size ≤ maxLen := fun x hx => by
    obtain ⟨y, hy, rfl⟩ := List.mem_map.1 hx
    rw [str_size]; exact hb y hy
  rcases h.2 with ⟨hv, h0⟩ | ⟨g, cap, cur, hv, _, hh, hnc, hm, _⟩
  · injection hv with e1 e2 e3
    subst e2 e3
    exact ⟨by simp [hl], Nat.le_refl _, by simp [maxLen], hsz, fun h => by omega⟩
  · injection hv with e1 _ e3
    subst e1 e3
    refine ⟨by simp [hl], hnc, hm, hsz, fun _ => ⟨g, 0, rfl, (Array.getElem?_eq_some_iff.1 hh).1, fun k x hk => ?_⟩⟩
    rw [List.getElem?_map, Option.map_eq_some_iff] at hk
    obtain ⟨y, hy, rfl⟩ := hk
    have := h.cells (g := g) rfl k (.string (str y)) (by simp [strv, hy])
    rw [show (⟨g, 0, none⟩ : Addr).add k = ⟨g, 0 + k, none⟩ by unfold Addr.add; split <;> simp_all] at this
    exact this
set_option maxHeartbeats 1000000 in
theorem strEq_any (A B : Option Addr) (n c m d : Nat) (xs ys : List ByteArray) (w : World) (hx : StrsAt w A n c xs) (hy : StrsAt w B m d ys) :
    Calls Tryd.prog 33 #[.slice A n c, .slice B m d] w fun e w' => e = .returned (.bool (decide (xs = ys))) ∧ Below w.heap.size w w' := by
  have hm1 := hx.2.2.1
  have hm2 := hy.2.2.1
  have hnc := hx.2.1
  have hmd := hy.2.1
  unfold maxLen at hm1 hm2
  by_cases hnm : n = m
  · subst hnm
    by_cases h0 : n = 0
    · subst h0
      refine (Tryd.slices_Equal_string_empty A B c 0 d w (by omega)).mono ?_
      rintro e w' ⟨rfl, rfl⟩
      refine ⟨ret_bool ?_, Below.refl _ _⟩
      rw [List.eq_nil_of_length_eq_zero hx.1, List.eq_nil_of_length_eq_zero hy.1]; rfl
    · obtain ⟨g, o, rfl, hg, hc⟩ := hx.2.2.2.2 (by omega)
      obtain ⟨g2, o2, rfl, hg2, hc2⟩ := hy.2.2.2.2 (by omega)
      refine (Tryd.slices_Equal_string g o n c g2 o2 n d xs ys w (by rw [hx.1]; exact Nat.le_refl _) (by rw [hy.1]; exact Nat.le_refl _) (by omega) (by omega) (fun j hj => ?_) (fun j hj => ?_)).mono ?_
      · rw [hc j _ (List.getElem?_eq_getElem hj)]; simp [List.getD, hj]
      · rw [hc2 j _ (List.getElem?_eq_getElem hj)]; simp [List.getD, hj]
      · rintro e w' ⟨rfl, q, rfl⟩
        refine ⟨ret_bool ?_, below_drewN0 _ _⟩
        rw [List.take_of_length_le (by rw [hx.1]; exact Nat.le_refl _), List.take_of_length_le (by rw [hy.1]; exact Nat.le_refl _)]
  · have hne : decide (n = m) = false := decide_eq_false hnm
    have hne2 : ((n : Int) != (m : Int)) = true := by simp; omega
    have HR := hide (show decide (xs = ys) = false by
      refine decide_eq_false fun e => hnm ?_
      rw [← hx.1, ← hy.1, e])
    clear hx hy hnm
    go_enter Tryd.func33, Tryd.ntmps33
    go_wp2
    go_ret
    exact ⟨ret_bool HR.out.symm, Below.refl _ _⟩
end Go.Proofs.YtebccdinglohpaaDoor
set_option linter.unusedSimpArgs false
set_option linter.unusedVariables false
namespace Go.Proofs.YtebccdinglohpaaDoor
open Go.RowKit
attribute [local go_sem] Oper.semAt_some
end Go.Proofs.YtebccdinglohpaaDoor
set_option linter.unusedSimpArgs false
set_option linter.unusedVariables false
namespace Go.Proofs.YtebccdinglohpaaDoor
open Go.RowKit Go.WideShapes Go.ChangeShapes
attribute [local go_sem] Oper.semAt_some
theorem pHits_any (b : Bool) (a : Nat) (m ge le : Int) (x : Nat) (n : Int) (w : World) (hok : PR.Ok ⟨b, a, m, ge, le⟩) (hx : PfxOk x n) :
    Calls Tryd.prog 27 #[.agg #[.bool b, .int .u32 (a : Int), .int .i64 m, .int .i64 ge, .int .i64 le], .agg #[.int .u32 (x : Int), .int .i64 n]] w (GoodP (phitP x n ⟨b, a, m, ge, le⟩) w) := by
  have HG := hide (fun W => phits_any b a m ge le x n W hok hx)
  have HB := hide (((Below.refl w.heap.size w).alloc (Nat.le_refl _) (.cells #[.bool b, .int .u32 (a : Int), .int .i64 m, .int .i64 ge, .int .i64 le] 41)).alloc (by simp) (.cells #[.int .u32 (x : Int), .int .i64 n] 36))
  obtain ⟨q, hq⟩ : ∃ q, phitP x n ⟨b, a, m, ge, le⟩ = q := ⟨_, rfl⟩
  rw [hq] at HG ⊢
  clear hq hok hx
  go_enter Tryd.func27, Tryd.ntmps27
  go_wp2_with fail
  refine (HG.out _).mono ?_
  rintro e w1 ⟨rfl, hb⟩
  have HB1 := hide (below2 HB.out hb)
  clear hb
  go_wp2
  go_ret
  exact ⟨rfl, HB1.out⟩
def prPerm (p : PR → Bool) (l : List PR) : Bool := match l.find? p with
  | some r => r.b
  | none => false
theorem pPermits_any (s : ByteArray) (A : Option Addr) (k c : Nat) (l : List PR) (x : Nat) (n : Int) (w : World) (h : LstAt 5 prR w A k c l) (hx : PfxOk x n) :
    Calls Tryd.prog 13 #[.agg #[.string s, .slice A k c], .agg #[.int .u32 (x : Int), .int .i64 n]] w (GoodP (prPerm (phitP x n) l) w) := by
  have hal : Below w.heap.size w ((w.alloc (.cells #[.string s, .slice A k c] 33)).alloc (.cells #[.int .u32 (x : Int), .int .i64 n] 36)) := ((Below.refl w.heap.size w).alloc (Nat.le_refl _) _).alloc (by simp) _
  have HI := hide (pseek_any s A k c l x n _ (h.below prMono hal) hx)
  have HB := hide hal
  have HK := hide ((Blk.new w 33 #[.string s, .slice A k c]).alloc (.cells #[.int .u32 (x : Int), .int .i64 n] 36))
  have hm := h.2.2.1
  have hnc := h.2.1
  unfold maxLen at hm
  have HU := hide (h.below prMono hal)
  rcases idxP_find (phitP x n) l with ⟨hi, hf, _⟩ | ⟨j, r, hi, hj, hr, hf, _⟩
  · have HR : Hid (prPerm (phitP x n) l = false) := hide (by unfold prPerm; rw [hf])
    rw [hi] at HI
    clear h hx hal hi hf
    go_enter Tryd.func13, Tryd.ntmps13
    go_wp2_with fail
    refine HI.out.mono ?_
    rintro e w1 ⟨rfl, hb⟩
    have HB1 := hide (below2 HB.out hb)
    clear hb
    go_wp2
    go_ret
    exact ⟨ret_bool HR.out.symm, HB1.out⟩
  · have HR : Hid (prPerm (phitP x n) l = r.b) := hide (by unfold prPerm; rw [hf])
    rw [hi] at HI
    have hjk : j < k := by rw [← h.1]; exact hj
    have HX := hide hr
    clear h hx hal hi hf hr hj
    go_enter Tryd.func13, Tryd.ntmps13
    go_wp2_with fail
    refine HI.out.mono ?_
    rintro e w1 ⟨rfl, hb⟩
    have hk1 := HK.out.below hb (by simp; omega)
    have x1 := hk1.cell 1
    obtain ⟨g, o, b, a, m, ge, le, rfl, hg, hy, hok, c0, c1, c2, c3, c4⟩ := PRat (HU.out.below prMono hb) hjk
    have HY : Hid (r.b = b) := hide (by rw [HX.out] at hy; injection hy with hy; rw [hy])
    have HB1 := hide (below2 HB.out hb)
    clear hb hk1 hy hok
    go_wp2
    go_ret
    exact ⟨ret_bool (HR.out.trans HY.out).symm, HB1.out⟩
end Go.Proofs.YtebccdinglohpaaDoor
set_option linter.unusedSimpArgs false
set_option linter.unusedVariables false
namespace Go.Proofs.YtebccdinglohpaaDoor
open Go.RowKit Go.WideShapes Go.ChangeShapes
attribute [local go_sem] Oper.semAt_some
theorem covRefB (a : Nat) (n : Int) (b : Nat) (m : Int) : refCovB a n b m = covB a n b m := by
  unfold covB refCovB hasB
  cases goodB a n <;> cases goodB b m <;> cases decide (n ≤ m) <;> simp
set_option maxRecDepth 100000 in
set_option maxHeartbeats 1000000 in
theorem refPFirst_any (A : Option Addr) (n c : Nat) (l : List PR) (x : Nat) (z : Int) (w : World) (h : LstAt 5 prR w A n c l) (hx : PfxOk x z) :
    Calls Tryd.prog 25 #[.slice A n c, .agg #[.int .u32 (x : Int), .int .i64 z]] w fun e w' => e = .returned (.int .i64 (idxP (phitP x z) l)) ∧ Below w.heap.size w w' := by
  have hal : Below w.heap.size w (w.alloc (.cells #[.int .u32 (x : Int), .int .i64 z] 36)) := (Below.refl w.heap.size w).alloc (Nat.le_refl _) _
  have HK := hide (Blk.new w 36 #[.int .u32 (x : Int), .int .i64 z])
  have HB := hide hal
  have hm := h.2.2.1
  have hnc := h.2.1
  unfold maxLen at hm
  have HU := hide (h.below prMono hal)
  have HX := hide hx
  clear h hal hx
  obtain ⟨W, hW⟩ : ∃ W, w.alloc (.cells #[.int .u32 (x : Int), .int .i64 z] 36) = W := ⟨_, rfl⟩
  go_enter Tryd.func25, Tryd.ntmps25
  go_wp2
  rw [hW] at HK HB HU
  clear hW
  go_loopw [5] (fun i wr => ∃ k : Nat, k ≤ n ∧ i = .int .i64 k ∧ (∀ y ∈ l.take k, phitP x z y = false) ∧ Below W.heap.size W wr) (fun i _ => n - (intOf i).toNat)
  case atStart => exact ⟨0, Nat.zero_le _, rfl, by simp, Below.refl _ _⟩
  case round =>
    obtain ⟨k, hk, rfl, hno, hb⟩ := hrel
    have HNo := hide hno
    have HA := hide (HU.out.below prMono hb)
    have HB0 := hide hb
    have HB1 := hide (HB.out.trans (hb.mono HB.out.size))
    have hk1 := HK.out.below hb HK.out.lt
    have hsz := hb.size
    clear hno hb
    by_cases hlt : k < n
    · obtain ⟨g, o, b, a, m, ge, le, rfl, hg, hy, hok, c0, c1, c2, c3, c4⟩ := PRat HA.out hlt
      have HO := hide (fun W => refCovers_any a m x z hok.a HX.out.a W)
      have HY := hide hy
      clear hy hok
      have f0 := fun y => cell?_far y (blk_read hk1 (i := 0) rfl)
      have f1 := fun y => cell?_far y (blk_read hk1 (i := 1) rfl)
      have g1 := fun y => cell?_far y c1
      have g2 := fun y => cell?_far y c2
      have g3 := fun y => cell?_far y c3
      have g4 := fun y => cell?_far y c4
      have HE := hide (fun y => HB0.out.trans ((below_far wr y).mono hsz))
      have hHit : Hid (phitP x z ⟨b, a, m, ge, le⟩ = (covB a m x z && (decide (ge ≤ z) && decide (z ≤ le)))) := hide rfl
      obtain ⟨q, hq⟩ : ∃ q, covB a m x z = q := ⟨_, rfl⟩
      obtain ⟨q1, hd1⟩ : ∃ q, decide (ge ≤ z) = q := ⟨_, rfl⟩
      obtain ⟨q2, hd2⟩ : ∃ q, decide (z ≤ le) = q := ⟨_, rfl⟩
      rw [covRefB, hq] at HO
      rw [hq, hd1, hd2] at hHit
      have hi0 : (0 : Int) ≤ (k : Int) := by omega
      have hi1 : (k : Int) < (n : Int) := by omega
      clear hq hk1 c0 c1 c2 c3 c4
      cases q <;> cases q1 <;> cases q2
      all_goals
        go_wp2
        refine wp_region_far (by kernel_rfl) (by kernel_rfl) ?_
        iterate 27 (go_big_quiet_step ((first | (go_at_call 12; exact far_call (HO.out _)))))
        refine wpQuiet_nil ?_
        rintro _ ⟨nq, rfl⟩
        have HE2 := hide (HE.out nq)
        first
        | (have hn2 := hide (show ∀ y ∈ l.take (k + 1), phitP x z y = false by
             intro y hy
             rw [List.take_add_one, HY.out, List.mem_append] at hy
             rcases hy with hy | hy
             · exact HNo.out y hy
             · simp at hy; subst hy; exact hHit.out)
           go_wp2
           go_roundw
           case rel => exact ⟨k + 1, by omega, by go_num, hn2.out, HE2.out⟩
           case measure => simp [intOf]; omega)
        | (have hin := hide (idxP_at (phitP x z) l k _ HNo.out HY.out hHit.out)
           have HE3 := hide (HB.out.trans (HE2.out.mono HB.out.size))
           go_wp2
           go_ret
           exact ⟨ret_i64 hin.out.symm, HE3.out⟩)
    · obtain rfl : k = n := by omega
      have hf := hide (idxP_none (phitP x z) l (fun y hy => HNo.out y (by rw [List.take_of_length_le (by rw [HU.out.1]; exact Nat.le_refl _)]; exact hy)))
      clear hk1
      go_wp2
      go_ret
      exact ⟨ret_i64 hf.out.symm, HB1.out⟩
theorem refPPermits_any (s : ByteArray) (A : Option Addr) (k c : Nat) (l : List PR) (x : Nat) (n : Int) (w : World) (h : LstAt 5 prR w A k c l) (hx : PfxOk x n) :
    Calls Tryd.prog 14 #[.agg #[.string s, .slice A k c], .agg #[.int .u32 (x : Int), .int .i64 n]] w (GoodP (prPerm (phitP x n) l) w) := by
  have hal : Below w.heap.size w ((w.alloc (.cells #[.string s, .slice A k c] 33)).alloc (.cells #[.int .u32 (x : Int), .int .i64 n] 36)) := ((Below.refl w.heap.size w).alloc (Nat.le_refl _) _).alloc (by simp) _
  have HI := hide (refPFirst_any A k c l x n _ (h.below prMono hal) hx)
  have HB := hide hal
  have HK := hide ((Blk.new w 33 #[.string s, .slice A k c]).alloc (.cells #[.int .u32 (x : Int), .int .i64 n] 36))
  have hm := h.2.2.1
  have hnc := h.2.1
  unfold maxLen at hm
  have HU := hide (h.below prMono hal)
  rcases idxP_find (phitP x n) l with ⟨hi, hf, _⟩ | ⟨j, r, hi, hj, hr, hf, _⟩
  · have HR : Hid (prPerm (phitP x n) l = false) := hide (by unfold prPerm; rw [hf])
    rw [hi] at HI
    clear h hx hal hi hf
    go_enter Tryd.func14, Tryd.ntmps14
    go_wp2_with fail
    refine HI.out.mono ?_
    rintro e w1 ⟨rfl, hb⟩
    have HB1 := hide (below2 HB.out hb)
    clear hb
    go_wp2
    go_ret
    exact ⟨ret_bool HR.out.symm, HB1.out⟩
  · have HR : Hid (prPerm (phitP x n) l = r.b) := hide (by unfold prPerm; rw [hf])
    rw [hi] at HI
    have hjk : j < k := by rw [← h.1]; exact hj
    have HX := hide hr
    clear h hx hal hi hf hr hj
    go_enter Tryd.func14, Tryd.ntmps14
    go_wp2_with fail
    refine HI.out.mono ?_
    rintro e w1 ⟨rfl, hb⟩
    have hk1 := HK.out.below hb (by simp; omega)
    have x1 := hk1.cell 1
    obtain ⟨g, o, b, a, m, ge, le, rfl, hg, hy, hok, c0, c1, c2, c3, c4⟩ := PRat (HU.out.below prMono hb) hjk
    have HY : Hid (r.b = b) := hide (by rw [HX.out] at hy; injection hy with hy; rw [hy])
    have HB1 := hide (below2 HB.out hb)
    clear hb hk1 hy hok
    go_wp2
    go_ret
    exact ⟨ret_bool (HR.out.trans HY.out).symm, HB1.out⟩
theorem prInfo : (Tryd.prog.info? 41).map (fun i => (i.zero, i.size, i.bytes)) = some (some (.agg #[.bool false, .int .u32 0, .int .i64 0, .int .i64 0, .int .i64 0]), 5, 40) := by kernel_rfl
theorem pfew_end {w X w1 : World} {c0 c1 v : Value} {n : Nat} {xs : List Value} (hb0 : Below w.heap.size w X) (hg : X.grownBy w1 (some (w.heap.size + 2))) (hk : Blk w1 (w.heap.size + 1) 33 #[c0, c1]) (ho : w1.ownsRow w.heap.size 41 5 v n xs) (b v' : Value) :
    Blk ((w1.setCell ⟨w.heap.size + 1, 0, none⟩ b).setCell ⟨w.heap.size + 1, 1, none⟩ v') (w.heap.size + 1) 33 #[b, v'] ∧
    ((w1.setCell ⟨w.heap.size + 1, 0, none⟩ b).setCell ⟨w.heap.size + 1, 1, none⟩ v').ownsRow w.heap.size 41 5 v n xs ∧
    Below w.heap.size w ((w1.setCell ⟨w.heap.size + 1, 0, none⟩ b).setCell ⟨w.heap.size + 1, 1, none⟩ v') := by
  have hne := own_blk_ne ho hk (by decide)
  refine ⟨(hk.set_ 0 b).set_ 1 v', own_set (own_set ho hne b) hne v', ?_⟩
  have hb : Below w.heap.size w w1 := hb0.grown hg hb0.size (fun k hk => by cases hk; omega)
  exact (hb.setCell (p := ⟨w.heap.size + 1, 0, none⟩) (by show w.heap.size ≤ w.heap.size + 1; omega) b).setCell (p := ⟨w.heap.size + 1, 1, none⟩) (by show w.heap.size ≤ w.heap.size + 1; omega) v'
/-- What is made lies behind what was there. -/
def AboveA (B : Nat) (A : Option Addr) : Prop := ∀ ad, A = some ad → B ≤ ad.block
theorem own_above {w : World} {base n c size : Nat} {e : TypeId} {A : Option Addr} {xs : List Value} (h : w.ownsRow base e size (.slice A n c) n xs) : AboveA base A := by
  intro ad hA
  rcases h.2 with ⟨hv, h0⟩ | ⟨g, cap, cur, hv, hb, _⟩
  · injection hv with e1 _ _
    rw [hA] at e1; cases e1
  · injection hv with e1 _ _
    rw [hA] at e1; cases e1
    exact hb
theorem LstAt.keepW {α : Type} {sz : Nat} {R : World → List Value → α → Prop} {w w' : World} {A : Option Addr} {n c : Nat} {l : List α} (h : LstAt sz R w A n c l) (hR : ∀ vs x, R w vs x → R w' vs x) (hs : w.heap.size ≤ w'.heap.size)
    (hc : ∀ (ad : Addr) (i : Nat), A = some ad → w'.cell? ⟨ad.block, i, none⟩ = w.cell? ⟨ad.block, i, none⟩) : LstAt sz R w' A n c l := by
  refine ⟨h.1, h.2.1, h.2.2.1, fun hn => ?_⟩
  obtain ⟨g, o, hA, hg, hcc⟩ := h.2.2.2 hn
  refine ⟨g, o, hA, Nat.lt_of_lt_of_le hg hs, fun k x hk => ?_⟩
  obtain ⟨vs, h1, h2, h3⟩ := hcc k x hk
  exact ⟨vs, h1, hR _ _ h2, fun j v hv => (hc _ _ hA).trans (h3 j v hv)⟩
def PFewP (s : ByteArray) (l : List PR) (w : World) (e : Ending) (w' : World) : Prop := ∃ A n c, e = .returned (.agg #[.string s, .slice A n c]) ∧ LstAt 5 prR w' A n c l ∧ AboveA w.heap.size A ∧ Below w.heap.size w w'
set_option maxRecDepth 100000 in
set_option maxHeartbeats 2000000 in
theorem pFew_any (s : ByteArray) (A : Option Addr) (n c : Nat) (ts : List PR) (w : World) (h : LstAt 5 prR w A n c ts) :
    Calls Tryd.prog 10 #[.agg #[.string s, .slice A n c]] w (PFewP s (ts.take 110) w) := by
  obtain ⟨i0, hi, hz0, hz1, hz2⟩ := info_parts prInfo
  have hn := h.2.2.1
  have hnc := h.2.1
  unfold maxLen at hn
  obtain ⟨m, hm, hmn, hm32, hml⟩ : ∃ m, (ts.take 110).length = m ∧ m ≤ n ∧ m ≤ 110 ∧ ((110 < n ∧ m = 110) ∨ (n ≤ 110 ∧ m = n)) := ⟨_, rfl, by rw [List.length_take, h.1]; omega, by rw [List.length_take]; omega, by rw [List.length_take, h.1]; omega⟩
  obtain ⟨xs, hrd, hch⟩ : ∃ xs, Reads w w.heap.size 5 A m xs ∧ Chunks 5 prR w xs (ts.take 110) := by
    have h1 := h.take_ hmn
    have e : ts.take m = ts.take 110 := by
      rcases hml with ⟨_, h2⟩ | ⟨h2, h3⟩
      · rw [h2]
      · rw [List.take_of_length_le (by rw [h.1]; omega), List.take_of_length_le (by rw [h.1]; omega)]
    rw [e] at h1
    exact h1.reads (by decide)
  have HR := hide hrd
  have HCh := hide hch
  have HOn := hide (hch.ones prOne (by decide))
  have HX0 : Hid ((((w.alloc (.cells #[.string s, .slice A n c] 33)).alloc (.cells #[.string ⟨#[]⟩, .slice none 0 0] 33)).alloc (.cells #[] 41)).ownsRow w.heap.size 41 5 (.slice (some ⟨w.heap.size + 2, 0, none⟩) 0 0) 0 []) := hide (by
    have := World.ownsRow_made (base := w.heap.size) (e := 41) (size := 5) ((w.alloc (.cells #[.string s, .slice A n c] 33)).alloc (.cells #[.string ⟨#[]⟩, .slice none 0 0] 33)) #[] 0 (by simp; omega) (by simp [maxLen]) (by simp)
    simpa using this)
  have HB0 : Hid (Below w.heap.size w (((w.alloc (.cells #[.string s, .slice A n c] 33)).alloc (.cells #[.string ⟨#[]⟩, .slice none 0 0] 33)).alloc (.cells #[] 41))) := hide ((((Below.refl _ w).alloc (Nat.le_refl _) _).alloc (by simp) _).alloc (by simp; omega) _)
  have HK : Hid (Blk (((w.alloc (.cells #[.string s, .slice A n c] 33)).alloc (.cells #[.string ⟨#[]⟩, .slice none 0 0] 33)).alloc (.cells #[] 41)) (w.heap.size + 1) 33 #[.string ⟨#[]⟩, .slice none 0 0]) := hide ((blk_new' 33 #[.string ⟨#[]⟩, .slice none 0 0] (by simp)).alloc _)
  have HK0 : Hid (Blk (((w.alloc (.cells #[.string s, .slice A n c] 33)).alloc (.cells #[.string ⟨#[]⟩, .slice none 0 0] 33)).alloc (.cells #[] 41)) w.heap.size 33 #[.string s, .slice A n c]) := hide (((Blk.new w 33 #[.string s, .slice A n c]).alloc _).alloc _)
  clear h hrd hch hm
  have hmc : (m : Int) ≤ (c : Int) := by omega
  have hm0 : (0 : Int) ≤ (m : Int) := by omega
  rcases hml with ⟨h32, hme⟩ | ⟨h32, hme⟩
  · subst hme
    have hd : decide ((110 : Int) < (n : Int)) = true := by simp; omega
    have hc32 : (110 : Int) ≤ (c : Int) := by omega
    clear h32
    go_enter Tryd.func10, Tryd.ntmps10
    go_wp2
    go_region_law (first
      | (refine step_append_any _ (by rfl) (.tmp 11) (.tmp 15) 31 (by rfl) w.heap.size 41 i0 _ 5 40 Tryd.underlying31 hi hz0 hz1 hz2 rfl (by decide) (.slice (some ⟨w.heap.size + 2, 0, none⟩) 0 0) 0 [] (by rfl) ?_ w.heap.size _ _ _ xs (by rfl) ?_ HOn.out ?_ ?_ ?_ ?_
         · first | exact HX0.out | exact HX0.out.drew
         · exact HR.out.keepB (by first | exact HB0.out | exact HB0.out.drew)
         · unfold maxLen; omega
         · omega
         · simp; omega
         intro v1 w1 hown1 hgrow1 _; rw [Nat.zero_add, List.nil_append] at hown1; have hk1 : Blk w1 (w.heap.size + 1) 33 #[.string ⟨#[]⟩, .slice none 0 0] := (by refine Blk.grown (by first | exact HK.out | exact HK.out.drew) hgrow1 (by simp [Value.ownBlock])); have hk0 : Blk w1 w.heap.size 33 #[.string s, .slice A n c] := (by refine Blk.grown (by first | exact HK0.out | exact HK0.out.drew) hgrow1 (by simp [Value.ownBlock])); have x0 := hk0.cell 0; have x1 := hk0.cell 1; have z0 := hk1.cell 0; have z1 := hk1.cell 1; have y0 := hk1.frozen 0; have y1 := hk1.frozen 1; have zl := hk1.lt; have HO1 := hide hown1; have HG1 := hide hgrow1; have HK1 := hide hk1; obtain ⟨A1, c1, rfl⟩ := own_slice hown1; clear hown1 hgrow1 hk1 hk0)
      | fail)
    all_goals
      have HE := hide (pfew_end (by first | exact HB0.out | exact HB0.out.drew) HG1.out HK1.out HO1.out (.string s) (.slice A1 110 c1))
      go_wp2
      have y0 := HE.out.1.cell 0
      have y1 := HE.out.1.cell 1
      refine bodyPost_ret (v := .agg #[.string s, .slice A1 110 c1]) (by simp [results, Tryd.results10, go_sem, y0, y1]) rfl ⟨_, _, _, rfl, LstAt.of_own (by decide) HE.out.2.1 (HCh.out.mono_ prMono HE.out.2.2), own_above HE.out.2.1, HE.out.2.2⟩
  · subst hme
    have hd : decide ((110 : Int) < (m : Int)) = false := by simp; omega
    clear h32
    go_enter Tryd.func10, Tryd.ntmps10
    go_wp2
    go_region_law (first
      | (refine step_append_any _ (by rfl) (.tmp 11) (.tmp 15) 31 (by rfl) w.heap.size 41 i0 _ 5 40 Tryd.underlying31 hi hz0 hz1 hz2 rfl (by decide) (.slice (some ⟨w.heap.size + 2, 0, none⟩) 0 0) 0 [] (by rfl) ?_ w.heap.size _ _ _ xs (by rfl) ?_ HOn.out ?_ ?_ ?_ ?_
         · first | exact HX0.out | exact HX0.out.drew
         · exact HR.out.keepB (by first | exact HB0.out | exact HB0.out.drew)
         · unfold maxLen; omega
         · omega
         · simp; omega
         intro v1 w1 hown1 hgrow1 _; rw [Nat.zero_add, List.nil_append] at hown1; have hk1 : Blk w1 (w.heap.size + 1) 33 #[.string ⟨#[]⟩, .slice none 0 0] := (by refine Blk.grown (by first | exact HK.out | exact HK.out.drew) hgrow1 (by simp [Value.ownBlock])); have hk0 : Blk w1 w.heap.size 33 #[.string s, .slice A m c] := (by refine Blk.grown (by first | exact HK0.out | exact HK0.out.drew) hgrow1 (by simp [Value.ownBlock])); have x0 := hk0.cell 0; have x1 := hk0.cell 1; have z0 := hk1.cell 0; have z1 := hk1.cell 1; have y0 := hk1.frozen 0; have y1 := hk1.frozen 1; have zl := hk1.lt; have HO1 := hide hown1; have HG1 := hide hgrow1; have HK1 := hide hk1; obtain ⟨A1, c1, rfl⟩ := own_slice hown1; clear hown1 hgrow1 hk1 hk0)
      | fail)
    all_goals
      have HE := hide (pfew_end (by first | exact HB0.out | exact HB0.out.drew) HG1.out HK1.out HO1.out (.string s) (.slice A1 m c1))
      go_wp2
      have y0 := HE.out.1.cell 0
      have y1 := HE.out.1.cell 1
      refine bodyPost_ret (v := .agg #[.string s, .slice A1 m c1]) (by simp [results, Tryd.results10, go_sem, y0, y1]) rfl ⟨_, _, _, rfl, LstAt.of_own (by decide) HE.out.2.1 (HCh.out.mono_ prMono HE.out.2.2), own_above HE.out.2.1, HE.out.2.2⟩
end Go.Proofs.YtebccdinglohpaaDoor
set_option linter.unusedSimpArgs false
set_option linter.unusedVariables false
namespace Go.Proofs.YtebccdinglohpaaDoor
open Go.RowKit Go.WideShapes Go.ChangeShapes
attribute [local go_sem] Oper.semAt_some
def pfxT : List UInt8 := textL 167772160 8
def geT : List UInt8 := [103, 101]
def liveW : List (List UInt8) := [permitT, pfxT, geT, Lib.decDigits 16]
theorem dec16 : Lib.decDigits 16 = [49, 54] := by decide +kernel
theorem pfxT_at : pfxT = [49, 48, 46, 48, 46, 48, 46, 48, 47, 56] := str_inj (lives_text.trans rfl)
theorem own_row {w : World} {g : Nat} {t : TypeId} {cs : Array Value} {xs : List Value} {base size n : Nat} (h : Blk w g t cs) (hx : cs.toList = xs) (hb : base ≤ g) (hs : xs.length = n * size) (hm : n ≤ maxLen) : w.ownsRow base t size (.slice (some ⟨g, 0, none⟩) n n) n xs :=
  ⟨hs, .inr ⟨g, n, cs, rfl, hb, h, Nat.le_refl _, hm, by rw [← Array.length_toList, hx, hs], by rw [hx, List.take_of_length_le (by omega)]⟩⟩
theorem own_low_block {w : World} {base n size : Nat} {e : TypeId} {v : Value} {xs : List Value} (h : w.ownsRow base e size v n xs) : ∀ k, v.ownBlock = some k → base ≤ k := by
  intro k hk
  rcases h.2 with ⟨rfl, _⟩ | ⟨g, cap, cur, rfl, hb, _⟩
  · simp [Value.ownBlock] at hk
  · have : g = k := by simpa [Value.ownBlock] using hk
    rw [← this]; exact hb
theorem own_baseLe {w : World} {b b' n size : Nat} {e : TypeId} {v : Value} {xs : List Value} (h : w.ownsRow b e size v n xs) (hb : b' ≤ b) : w.ownsRow b' e size v n xs := by
  refine ⟨h.1, ?_⟩
  rcases h.2 with h2 | ⟨g, cap, cur, h1, h2, h3⟩
  · exact .inl h2
  · exact .inr ⟨g, cap, cur, h1, Nat.le_trans hb h2, h3⟩
theorem pbounds_lives (g : Nat) (w : World) (he : Env w) (h0 : w.cell? ⟨g, 2, none⟩ = some (.string (str geT))) (h1 : w.cell? ⟨g, 3, none⟩ = some (.string (str (Lib.decDigits 16)))) :
    Calls Tryd.prog 42 #[.agg #[.bool true, .int .u32 167772160, .int .i64 8, .int .i64 0, .int .i64 0], .slice (some ⟨g, 2, none⟩) 2 2] w fun e w' => e = .returned (.agg #[.bool true, .int .u32 167772160, .int .i64 8, .int .i64 16, .int .i64 32]) ∧ Below w.heap.size w w' := by
  have hg : g < w.heap.size := World.block_lt_of_cell? w _ h0
  have hN := fun (W : World) (hE : Env W) => lexNumber_any (Lib.decDigits 16) (by rw [dec16]; decide) 32 W hE
  rw [numRes_yes (by decide) (by decide)] at hN
  have HN := hide hN
  have hal : Below w.heap.size w ((w.alloc (.cells #[.bool true, .int .u32 167772160, .int .i64 8, .int .i64 8, .int .i64 8] 41)).alloc (.cells #[.bool false, .int .u32 0, .int .i64 0, .int .i64 0, .int .i64 0] 41)) := ((Below.refl w.heap.size w).alloc (Nat.le_refl _) _).alloc (by simp) _
  have HK := hide ((Blk.new w 41 #[.bool true, .int .u32 167772160, .int .i64 8, .int .i64 8, .int .i64 8]).alloc (.cells #[.bool false, .int .u32 0, .int .i64 0, .int .i64 0, .int .i64 0] 41))
  have HK2 : Hid (Blk ((w.alloc (.cells #[.bool true, .int .u32 167772160, .int .i64 8, .int .i64 8, .int .i64 8] 41)).alloc (.cells #[.bool false, .int .u32 0, .int .i64 0, .int .i64 0, .int .i64 0] 41)) (w.heap.size + 1) 41 #[.bool false, .int .u32 0, .int .i64 0, .int .i64 0, .int .i64 0]) := hide (blk_new' _ _ (by simp))
  have HE := hide (he.below hal)
  have HB := hide hal
  have hg1 : ¬ g = w.heap.size := by omega
  have hg2 : ¬ g = w.heap.size + 1 := by omega
  have hge : ((str geT).toList == [103, 101]) = true := by decide +kernel
  have hle : ((str geT).toList == [108, 101]) = false := by decide +kernel
  clear hN he hal
  go_enter Tryd.func42, Tryd.ntmps42
  go_wp2_with fail
  refine (HN.out _ HE.out).mono ?_
  rintro e w1 ⟨rfl, hb⟩
  have hk1 := HK.out.below hb (by simp; omega)
  have hl1 := HK2.out.below hb (by simp)
  have x0 := hk1.cell 0
  have x1 := hk1.cell 1
  have x2 := hk1.cell 2
  have x3 := hk1.cell 3
  have x4 := hk1.cell 4
  have y3 := hk1.frozen 3
  have y4 := hk1.frozen 4
  have z0 := hl1.cell 0
  have z1 := hl1.cell 1
  have z2 := hl1.cell 2
  have z3 := hl1.cell 3
  have z4 := hl1.cell 4
  have f0 := hl1.frozen 0
  have f1 := hl1.frozen 1
  have f2 := hl1.frozen 2
  have f3 := hl1.frozen 3
  have f4 := hl1.frozen 4
  have HB1 := hide (HB.out.trans (hb.mono HB.out.size))
  clear hb hk1 hl1
  go_wp2
  refine bodyPost_ret (v := .agg #[.bool true, .int .u32 167772160, .int .i64 8, .int .i64 16, .int .i64 32]) (by simp [results, Tryd.results42, go_sem, x0, x1, x2, x3, x4, z0, z1, z2, z3, z4]) rfl ⟨rfl, ?_⟩
  exact ((((((HB1.out.setCell (p := ⟨w.heap.size, 3, none⟩) (Nat.le_refl _) _).setCell (p := ⟨w.heap.size, 4, none⟩) (Nat.le_refl _) _).setCell (p := ⟨w.heap.size + 1, 0, none⟩) (Nat.le_succ _) _).setCell (p := ⟨w.heap.size + 1, 1, none⟩) (Nat.le_succ _) _).setCell (p := ⟨w.heap.size + 1, 2, none⟩) (Nat.le_succ _) _).setCell (p := ⟨w.heap.size + 1, 3, none⟩) (Nat.le_succ _) _).setCell (p := ⟨w.heap.size + 1, 4, none⟩) (Nat.le_succ _) _
theorem reads_blk {w : World} {g B n : Nat} {t : TypeId} {cs : Array Value} {xs : List Value} (h : Blk w g t cs) (hB : g < B) (hx : cs.toList = xs) (hn : xs.length = n := by rfl) : Reads w B 1 (some ⟨g, 0, none⟩) n xs :=
  ⟨by rw [hn, Nat.mul_one], fun _ => ⟨_, rfl, hB, fun j u hu => by
    have e : (⟨g, 0, none⟩ : Addr).add j = ⟨g, j, none⟩ := by unfold Addr.add; split <;> simp_all
    rw [e, h.cell j, ← hu, ← hx]; simp⟩⟩
set_option maxHeartbeats 1000000 in
theorem pwords_lives (w : World) (ht : Tab w) :
    Calls Tryd.prog 44 #[.agg #[.bool true, .int .u32 167772160, .int .i64 8, .int .i64 16, .int .i64 32]] w fun e w' => ∃ A c, e = .returned (.slice A 4 c) ∧ StrsAt w' A 4 c (liveW.map str) ∧ Below w.heap.size w w' := by
  obtain ⟨i0, hi, hz0, hz1, hz2⟩ := info_parts infoStr
  have hal : Below w.heap.size w (w.alloc (.cells #[.bool true, .int .u32 167772160, .int .i64 8, .int .i64 16, .int .i64 32] 41)) := (Below.refl w.heap.size w).alloc (Nat.le_refl _) _
  have HT := hide (PText_any 167772160 8 (by decide) (by decide) (by decide) _ (ht.below hal))
  have HI := hide (fun (W : World) (h : Tab W) => itoa_any 16 (by decide) W h)
  have HK := hide (Blk.new w 41 #[.bool true, .int .u32 167772160, .int .i64 8, .int .i64 16, .int .i64 32])
  have HB := hide hal
  have HTb := hide ht
  clear hal ht
  go_enter Tryd.func44, Tryd.ntmps44
  go_wp2_with fail
  refine HT.out.mono ?_
  rintro e w1 ⟨rfl, hb⟩
  have hk1 := HK.out.below hb (by simp)
  have x0 := hk1.cell 0
  have x1 := hk1.cell 1
  have x2 := hk1.cell 2
  have x3 := hk1.cell 3
  have x4 := hk1.cell 4
  have HK1 := hide hk1
  have HB1 := hide (HB.out.trans (hb.mono HB.out.size))
  have hsz := HB1.out.size
  have hlt := HK1.out.lt
  have hne : ¬ w.heap.size = w1.heap.size := by omega
  have hal1 : Below w1.heap.size w1 (w1.alloc (.cells #[.string ⟨#[112, 101, 114, 109, 105, 116]⟩, .string (str (textL 167772160 8))] 9)) := (Below.refl _ _).alloc (Nat.le_refl _) _
  have HT1 := hide (HTb.out.below (HB1.out.trans (hal1.mono hsz)))
  have HA1 := hide hal1
  have HG1 := hide (Blk.new w1 9 #[.string ⟨#[112, 101, 114, 109, 105, 116]⟩, .string (str (textL 167772160 8))])
  clear hb hk1 hal1
  go_wp2_with fail
  refine (HI.out _ HT1.out).mono ?_
  rintro e w2 ⟨rfl, hb2⟩
  have hk2 := (HK1.out.alloc (.cells #[.string ⟨#[112, 101, 114, 109, 105, 116]⟩, .string (str (textL 167772160 8))] 9)).below hb2 (by simp; omega)
  have x0 := hk2.cell 0
  have x1 := hk2.cell 1
  have x2 := hk2.cell 2
  have x3 := hk2.cell 3
  have x4 := hk2.cell 4
  have HG2 := hide (HG1.out.below hb2 (by simp))
  have HK2 := hide hk2
  have HB2 := hide (HB1.out.trans ((below2 HA1.out hb2).mono hsz))
  have hs2 := (below2 HA1.out hb2).size
  have hlt2 : w1.heap.size < w2.heap.size := HG2.out.lt
  have hne2 : ¬ w.heap.size = w2.heap.size := by omega
  clear hb2 hk2
  go_wp2_with (at_builtin; refine wpList_append_any _ rfl (.tmp 25) (.tmp 29) 60 rfl w.heap.size 9 i0 _ 1 16 Tryd.underlying60 hi hz0 hz1 hz2 rfl (by decide) (.slice (some ⟨w1.heap.size, 0, none⟩) 2 2) 2 [.string ⟨#[112, 101, 114, 109, 105, 116]⟩, .string (str (textL 167772160 8))] rfl (own_row (HG2.out.alloc _) rfl hsz rfl (by simp [maxLen])) (w2.heap.size + 1) (some ⟨w2.heap.size, 0, none⟩) 2 2 [.string ⟨#[103, 101]⟩, .string (str (Lib.decDigits 16))] rfl (reads_blk (Blk.new w2 _ _) (Nat.lt_succ_self _) rfl) (by simp [Value.oneCell']) (by simp [maxLen]) (by simp) (by simp; omega) ?_; intro v3 w3 hown3 hg3 hor3; have hk3 : Blk w3 w.heap.size 41 #[.bool true, .int .u32 167772160, .int .i64 8, .int .i64 16, .int .i64 32] := (HK2.out.alloc _).grown hg3 (by simp [Value.ownBlock]; omega); have x0 := hk3.cell 0; have x1 := hk3.cell 1; have x2 := hk3.cell 2; have x3 := hk3.cell 3; have x4 := hk3.cell 4; have HO3 := hide hown3; have HG3 := hide hg3; obtain ⟨A3, c3, rfl⟩ := own_slice hown3; clear hown3 hg3 hor3 hk3)
  go_ret
  refine ⟨A3, c3, rfl, StrsAt.of_own (l := liveW) HO3.out ?_, (HB2.out.alloc HB2.out.size _).grown HG3.out (by simp; omega) (fun k hk => by simp [Value.ownBlock] at hk; omega)⟩
  intro x hx
  have : x.length ≤ 40 := by
    simp [liveW] at hx
    rcases hx with rfl | rfl | rfl | rfl
    · decide
    · exact textL_len _ _
    · decide
    · rw [dec16]; decide
  exact Nat.le_trans this (by simp [maxLen])
set_option maxRecDepth 100000 in
set_option maxHeartbeats 2000000 in
theorem pParse_lives (G : Nat) (w : World) (he : Env w) (hl : StrsAt w (some ⟨G, 0, none⟩) 4 4 (liveW.map str)) :
    Calls Tryd.prog 26 #[.slice (some ⟨G, 0, none⟩) 4 4] w fun e w' => e = .returned (.tuple #[.agg #[.bool true, .int .u32 167772160, .int .i64 8, .int .i64 16, .int .i64 32], .int .i64 0]) ∧ Below w.heap.size w w' := by
  have hcell : ∀ (W : World), StrsAt W (some ⟨G, 0, none⟩) 4 4 (liveW.map str) → G < W.heap.size ∧ W.cell? ⟨G, 0, none⟩ = some (.string (str permitT)) ∧ W.cell? ⟨G, 1, none⟩ = some (.string (str pfxT)) ∧ W.cell? ⟨G, 2, none⟩ = some (.string (str geT)) ∧ W.cell? ⟨G, 3, none⟩ = some (.string (str (Lib.decDigits 16))) := by
    intro W h
    obtain ⟨g, o, hA, hg, hc⟩ := h.2.2.2.2 (by decide)
    injection hA with hA
    injection hA with e1 e2
    subst e1 e2
    exact ⟨hg, by have := hc 0 _ rfl; simpa using this, by have := hc 1 _ rfl; simpa using this, by have := hc 2 _ rfl; simpa using this, by have := hc 3 _ rfl; simpa using this⟩
  have HC := hide hcell
  have HP := fun (W : World) (h : Env W) => pparse_own 167772160 8 (by decide) W h
  rw [if_pos (show goodB 167772160 8 = true by decide +kernel)] at HP
  unfold pfx at HP
  have HP1 := hide HP
  have hal : Below w.heap.size w (w.alloc (.cells #[.bool false, .int .u32 0, .int .i64 0, .int .i64 0, .int .i64 0] 41)) := (Below.refl w.heap.size w).alloc (Nat.le_refl _) _
  have HK := hide (Blk.new w 41 #[.bool false, .int .u32 0, .int .i64 0, .int .i64 0, .int .i64 0])
  obtain ⟨hG, c0, c1, c2, c3⟩ := hcell w hl
  have HL := hide hl
  have HE := hide he
  have HB := hide hal
  have hG1 : ¬ G = w.heap.size := by omega
  clear hcell hl he hal HP
  go_enter Tryd.func26, Tryd.ntmps26
  go_wp2_with fail
  refine (HP1.out _ (HE.out.below HB.out)).mono ?_
  rintro e w1 ⟨rfl, hb⟩
  have hk1 := HK.out.below hb (by simp)
  have HK1 := hide hk1
  have HB1 := hide (HB.out.trans (hb.mono HB.out.size))
  have HL1 := hide (HL.out.below rfl HB1.out)
  have HE1 := hide (HE.out.below HB1.out)
  have hs1 := HK1.out.lt
  clear hb hk1 c0 c1 c2 c3
  obtain ⟨hG3, c0, c1, c2, c3⟩ := HC.out w1 HL1.out
  have hG2 : ¬ G = w1.heap.size := by omega
  have hal2 : Below w.heap.size w (w1.alloc (.cells #[.int .u32 167772160, .int .i64 8] 36)) := HB1.out.alloc HB1.out.size _
  have HB2 := hide hal2
  have HG2 : Hid (Blk (w1.alloc (.cells #[.int .u32 167772160, .int .i64 8] 36)) w1.heap.size 36 #[.int .u32 167772160, .int .i64 8]) := hide (Blk.new w1 _ _)
  have p0 : (w1.alloc (.cells #[.int .u32 167772160, .int .i64 8] 36)).cell? ⟨w1.heap.size, 0, none⟩ = some (.int .u32 167772160) := HG2.out.cell 0
  have p1 : (w1.alloc (.cells #[.int .u32 167772160, .int .i64 8] 36)).cell? ⟨w1.heap.size, 1, none⟩ = some (.int .i64 8) := HG2.out.cell 1
  obtain ⟨_, q0, _, _, _⟩ := HC.out _ (HL.out.below rfl hal2)
  have HBd := hide (fun (W : World) (hb : Below w.heap.size w W) => pbounds_lives G W (HE.out.below hb) (HC.out W (HL.out.below rfl hb)).2.2.2.1 (HC.out W (HL.out.below rfl hb)).2.2.2.2)
  have hpe : ((str permitT).toList == [112, 101, 114, 109, 105, 116]) = true := by decide +kernel
  have P0 := hide p0
  have P1 := hide p1
  have Q0 := hide q0
  obtain ⟨W0, hW0⟩ : ∃ W0, w1.alloc (.cells #[.int .u32 167772160, .int .i64 8] 36) = W0 := ⟨_, rfl⟩
  clear hal2 c0 c1 c2 c3 p0 p1 q0
  go_wp2
  have HK2w := hide (HK1.out.alloc (.cells #[.int .u32 167772160, .int .i64 8] 36))
  have HW0s : Hid (w1.heap.size ≤ (w1.alloc (.cells #[.int .u32 167772160, .int .i64 8] 36)).heap.size) := hide (by simp)
  rw [hW0] at HB2 HG2 P0 P1 Q0 HK2w HW0s
  clear hW0
  refine wp_region_relT 10 [(fun v _ => v = .slice (some ⟨G, 0, none⟩) 4 4), (fun v _ => v = .pointer (some ⟨G, 0, none⟩)), (fun v _ => v = .string (str permitT)), (fun v _ => v = .bool true), (fun v _ => v = .agg #[.int .u32 167772160, .int .i64 8]), (fun v _ => v = .agg #[.bool true, .int .u32 167772160, .int .i64 8, .int .i64 0, .int .i64 0]), (fun v _ => v = .slice (some ⟨G, 0, none⟩) 4 4), (fun v _ => v = .slice (some ⟨G, 2, none⟩) 2 2), (fun v _ => v = .agg #[.bool true, .int .u32 167772160, .int .i64 8, .int .i64 16, .int .i64 32]), (fun v w => ∃ R, v = .pointer (some ⟨R, 0, none⟩) ∧ Blk w R 41 #[.bool false, .int .u32 0, .int .i64 0, .int .i64 0, .int .i64 0] ∧ W0.heap.size ≤ R)] (by kernel_rfl) (by kernel_rfl) (by kernel_rfl) (by kernel_rfl) (by kernel_rfl) (relMono _ ⟨fun _ _ _ _ h => h, fun _ _ _ _ h => h, fun _ _ _ _ h => h, fun _ _ _ _ h => h, fun _ _ _ _ h => h, fun _ _ _ _ h => h, fun _ _ _ _ h => h, fun _ _ _ _ h => h, fun _ _ _ _ h => h, fun v w w2 hb ⟨R, e, h, h2⟩ => ⟨R, e, h.below hb h.lt, h2⟩, trivial⟩) ⟨?_, ?_, ?_, ?_, ?_, ?_, ?_, ?_, ?_, ?_, trivial⟩ ?_
  · refine relStep_plain rfl ?_
    intro A w5 hp
    have hb := hp.bel
    have a0 : A.eval (.tmp 0) = .slice (some ⟨G, 0, none⟩) 4 4 := hp.out 0 (by rfl)
    have hc := evalC A; have hf := evalF A; have hgl := evalG A
    obtain ⟨ρ, hρ⟩ : ∃ ρ, A.eval = ρ := ⟨_, rfl⟩
    rw [hρ] at a0 hc hf hgl
    exact relPure hρ (.slice (some ⟨G, 0, none⟩) 4 4) (by simp [go_sem, hc, hf, hgl, ↓IntWalk.iteOmega, a0, *]) rfl
  · refine relStep_plain rfl ?_
    intro A w5 hp
    have hb := hp.bel
    have a18 : A.eval (.tmp 18) = .slice (some ⟨G, 0, none⟩) 4 4 := hp.dep 0 (by kernel_rfl)
    have hc := evalC A; have hf := evalF A; have hgl := evalG A
    obtain ⟨ρ, hρ⟩ : ∃ ρ, A.eval = ρ := ⟨_, rfl⟩
    rw [hρ] at a18 hc hf hgl
    exact relPure hρ (.pointer (some ⟨G, 0, none⟩)) (by simp [go_sem, hc, hf, hgl, ↓IntWalk.iteOmega, a18, *]) rfl
  · refine relStep_plain rfl ?_
    intro A w5 hp
    have hb := hp.bel
    have a19 : A.eval (.tmp 19) = .pointer (some ⟨G, 0, none⟩) := hp.dep 1 (by kernel_rfl)
    have p0 := (hb.cell (p := ⟨w1.heap.size, 0, none⟩) (HG2.out.lt)).trans P0.out
    have p1 := (hb.cell (p := ⟨w1.heap.size, 1, none⟩) (HG2.out.lt)).trans P1.out
    have q0 := (hb.cell (p := ⟨G, 0, none⟩) (Nat.lt_trans hG3 HG2.out.lt)).trans Q0.out
    have hc := evalC A; have hf := evalF A; have hgl := evalG A
    obtain ⟨ρ, hρ⟩ : ∃ ρ, A.eval = ρ := ⟨_, rfl⟩
    rw [hρ] at a19 hc hf hgl
    exact relPure hρ (.string (str permitT)) (by simp [go_sem, hc, hf, hgl, ↓IntWalk.iteOmega, a19, *]) rfl
  · refine relStep_plain rfl ?_
    intro A w5 hp
    have hb := hp.bel
    have a20 : A.eval (.tmp 20) = .string (str permitT) := hp.dep 2 (by kernel_rfl)
    have hc := evalC A; have hf := evalF A; have hgl := evalG A
    obtain ⟨ρ, hρ⟩ : ∃ ρ, A.eval = ρ := ⟨_, rfl⟩
    rw [hρ] at a20 hc hf hgl
    exact relPure hρ (.bool true) (by simp [go_sem, hc, hf, hgl, ↓IntWalk.iteOmega, a20, *]) rfl
  · refine relStep_plain rfl ?_
    intro A w5 hp
    have hb := hp.bel
    have a4 : A.eval (.tmp 4) = .pointer (some ⟨w1.heap.size, 0, none⟩) := hp.out 4 (by rfl)
    have p0 := (hb.cell (p := ⟨w1.heap.size, 0, none⟩) (HG2.out.lt)).trans P0.out
    have p1 := (hb.cell (p := ⟨w1.heap.size, 1, none⟩) (HG2.out.lt)).trans P1.out
    have q0 := (hb.cell (p := ⟨G, 0, none⟩) (Nat.lt_trans hG3 HG2.out.lt)).trans Q0.out
    have hc := evalC A; have hf := evalF A; have hgl := evalG A
    obtain ⟨ρ, hρ⟩ : ∃ ρ, A.eval = ρ := ⟨_, rfl⟩
    rw [hρ] at a4 hc hf hgl
    exact relPure hρ (.agg #[.int .u32 167772160, .int .i64 8]) (by simp [go_sem, hc, hf, hgl, ↓IntWalk.iteOmega, a4, *]) rfl
  · refine relStep_plain rfl ?_
    intro A w5 hp
    have hb := hp.bel
    have a21 : A.eval (.tmp 21) = .bool true := hp.dep 3 (by kernel_rfl)
    have a22 : A.eval (.tmp 22) = .agg #[.int .u32 167772160, .int .i64 8] := hp.dep 4 (by kernel_rfl)
    have hc := evalC A; have hf := evalF A; have hgl := evalG A
    obtain ⟨ρ, hρ⟩ : ∃ ρ, A.eval = ρ := ⟨_, rfl⟩
    rw [hρ] at a21 a22 hc hf hgl
    exact relPure hρ (.agg #[.bool true, .int .u32 167772160, .int .i64 8, .int .i64 0, .int .i64 0]) (by simp [go_sem, hc, hf, hgl, ↓IntWalk.iteOmega, a21, a22, *]) rfl
  · refine relStep_plain rfl ?_
    intro A w5 hp
    have hb := hp.bel
    have a0 : A.eval (.tmp 0) = .slice (some ⟨G, 0, none⟩) 4 4 := hp.out 0 (by rfl)
    have hc := evalC A; have hf := evalF A; have hgl := evalG A
    obtain ⟨ρ, hρ⟩ : ∃ ρ, A.eval = ρ := ⟨_, rfl⟩
    rw [hρ] at a0 hc hf hgl
    exact relPure hρ (.slice (some ⟨G, 0, none⟩) 4 4) (by simp [go_sem, hc, hf, hgl, ↓IntWalk.iteOmega, a0, *]) rfl
  · refine relStep_plain rfl ?_
    intro A w5 hp
    have hb := hp.bel
    have a24 : A.eval (.tmp 24) = .slice (some ⟨G, 0, none⟩) 4 4 := hp.dep 6 (by kernel_rfl)
    have hc := evalC A; have hf := evalF A; have hgl := evalG A
    obtain ⟨ρ, hρ⟩ : ∃ ρ, A.eval = ρ := ⟨_, rfl⟩
    rw [hρ] at a24 hc hf hgl
    exact relPure hρ (.slice (some ⟨G, 2, none⟩) 2 2) (by simp [go_sem, hc, hf, hgl, ↓IntWalk.iteOmega, a24, *]) rfl
  · refine relStep_plain rfl ?_
    intro A w5 hp
    have hb := hp.bel
    have a23 : A.eval (.tmp 23) = .agg #[.bool true, .int .u32 167772160, .int .i64 8, .int .i64 0, .int .i64 0] := hp.dep 5 (by kernel_rfl)
    have a25 : A.eval (.tmp 25) = .slice (some ⟨G, 2, none⟩) 2 2 := hp.dep 7 (by kernel_rfl)
    have hc := evalC A; have hf := evalF A; have hgl := evalG A
    obtain ⟨ρ, hρ⟩ : ∃ ρ, A.eval = ρ := ⟨_, rfl⟩
    rw [hρ] at a23 a25 hc hf hgl
    refine relCall hρ 42 #[.agg #[.bool true, .int .u32 167772160, .int .i64 8, .int .i64 0, .int .i64 0], .slice (some ⟨G, 2, none⟩) 2 2] (by simp [go_sem, hc, hf, hgl, ↓IntWalk.iteOmega, a23, a25, *]) ?_
    refine (HBd.out _ (HB2.out.trans (hb.mono HB2.out.size))).mono ?_
    rintro e w6 ⟨rfl, hb6⟩
    exact ⟨_, rfl, rfl, hb6⟩
  · refine relStep_plain rfl ?_
    intro A w5 hp
    have hb := hp.bel
    have hc := evalC A; have hf := evalF A; have hgl := evalG A
    obtain ⟨ρ, hρ⟩ : ∃ ρ, A.eval = ρ := ⟨_, rfl⟩
    rw [hρ] at hc hf hgl
    exact relVal hρ (.pointer (some ⟨w5.heap.size, 0, none⟩)) (w5.alloc (.cells #[.bool false, .int .u32 0, .int .i64 0, .int .i64 0, .int .i64 0] 41)) (by simp [go_sem, hc, hf, hgl, ↓IntWalk.iteOmega, *]) ⟨_, rfl, Blk.new w5 _ _, hb.size⟩ ((Below.refl _ _).alloc (Nat.le_refl _) _)
  intro u w7 hb7 hall
  have e26 : u 8 = .agg #[.bool true, .int .u32 167772160, .int .i64 8, .int .i64 16, .int .i64 32] := relAll_at hall (i := 8) (by decide +kernel)
  obtain ⟨R7, e6, hR7, hRb7⟩ := relAll_at hall (i := 9) (by decide +kernel)
  change u 9 = _ at e6
  clear hall
  simp only [List.drop_succ_cons, List.drop_zero, List.take_succ_cons, List.take_zero, putAll, Act.put, List.setIfInBounds_toArray, List.set_cons_zero, List.set_cons_succ, Nat.zero_add, Nat.reduceAdd, e26, e6]
  --END4
  have z0 := hR7.cell 0
  have z1 := hR7.cell 1
  have z2 := hR7.cell 2
  have z3 := hR7.cell 3
  have z4 := hR7.cell 4
  have y0 := hR7.frozen 0
  have y1 := hR7.frozen 1
  have y2 := hR7.frozen 2
  have y3 := hR7.frozen 3
  have y4 := hR7.frozen 4
  have hRw : w.heap.size ≤ R7 := Nat.le_trans HB2.out.size hRb7
  have hRG : ¬ R7 = G := by have := HG2.out.lt; omega
  have hRK : ¬ R7 = w.heap.size := by have := HG2.out.lt; omega
  have HK8 := hide (((((hR7.set_ 0 (.bool true)).set_ 1 (.int .u32 167772160)).set_ 2 (.int .i64 8)).set_ 3 (.int .i64 16)).set_ 4 (.int .i64 32))
  have HB8 := hide ((((((HB2.out.trans (hb7.mono HB2.out.size)).setCell (p := ⟨R7, 0, none⟩) hRw (.bool true)).setCell (p := ⟨R7, 1, none⟩) hRw (.int .u32 167772160)).setCell (p := ⟨R7, 2, none⟩) hRw (.int .i64 8)).setCell (p := ⟨R7, 3, none⟩) hRw (.int .i64 16)).setCell (p := ⟨R7, 4, none⟩) hRw (.int .i64 32))
  have HQ7 := hide (HK2w.out.below hb7 (Nat.lt_of_lt_of_le hs1 HW0s.out))
  have HQ8 := hide (((((HQ7.out.far (p := ⟨R7, 0, none⟩) (Ne.symm hRK) (.bool true)).far (p := ⟨R7, 1, none⟩) (Ne.symm hRK) (.int .u32 167772160)).far (p := ⟨R7, 2, none⟩) (Ne.symm hRK) (.int .i64 8)).far (p := ⟨R7, 3, none⟩) (Ne.symm hRK) (.int .i64 16)).far (p := ⟨R7, 4, none⟩) (Ne.symm hRK) (.int .i64 32))
  have HGd := hide (fun W => pgood_any true 167772160 8 16 32 W ⟨by decide, by decide, by decide⟩)
  rw [show pgoodP ⟨true, 167772160, 8, 16, 32⟩ = true by decide +kernel] at HGd
  have HWd := hide (fun (W : World) (h : Below w.heap.size w W) => pwords_lives W (HE.out.below h).tab)
  clear hb7
  go_wp2_with fail
  refine (HGd.out _).mono ?_
  rintro e w9 ⟨rfl, hb9⟩
  have hk9 := HK8.out.below hb9 HK8.out.lt
  have HK9 := hide hk9
  have HQ9 := hide (HQ8.out.below hb9 HQ8.out.lt)
  have HB9 := hide (HB8.out.trans (hb9.mono HB8.out.size))
  have z0 := hk9.cell 0
  have z1 := hk9.cell 1
  have z2 := hk9.cell 2
  have z3 := hk9.cell 3
  have z4 := hk9.cell 4
  clear hb9 hk9
  simp at z0 z1 z2 z3 z4
  go_wp2_with fail
  refine (HWd.out _ HB9.out).mono ?_
  rintro e w10 ⟨A10, c10, rfl, hst, hb10⟩
  have HB10 := hide (HB9.out.trans (hb10.mono HB9.out.size))
  have HK10 := hide (HK9.out.below hb10 HK9.out.lt)
  have HQ10 := hide (HQ9.out.below hb10 HQ9.out.lt)
  have HEq := strEq_any A10 (some ⟨G, 0, none⟩) 4 c10 4 4 _ _ w10 hst (HL.out.below rfl HB10.out)
  rw [decide_eq_true rfl] at HEq
  have HEQ := hide HEq
  clear hb10 hst HEq
  go_wp2_with fail
  refine HEQ.out.mono ?_
  rintro e w11 ⟨rfl, hb11⟩
  have hk11 := HK10.out.below hb11 HK10.out.lt
  have hq11 := HQ10.out.below hb11 HQ10.out.lt
  have HB11 := hide (HB10.out.trans (hb11.mono HB10.out.size))
  have z0 := hk11.cell 0
  have z1 := hk11.cell 1
  have z2 := hk11.cell 2
  have z3 := hk11.cell 3
  have z4 := hk11.cell 4
  have y0 := hq11.cell 0
  have y1 := hq11.cell 1
  have y2 := hq11.cell 2
  have y3 := hq11.cell 3
  have y4 := hq11.cell 4
  have f0 := hq11.frozen 0
  have f1 := hq11.frozen 1
  have f2 := hq11.frozen 2
  have f3 := hq11.frozen 3
  have f4 := hq11.frozen 4
  clear hb11 hk11 hq11
  simp at z0 z1 z2 z3 z4
  go_wp2
  refine bodyPost_ret (v := .tuple #[.agg #[.bool true, .int .u32 167772160, .int .i64 8, .int .i64 16, .int .i64 32], .int .i64 0]) (by simp [results, Tryd.results26, go_sem, y0, y1, y2, y3, y4]) rfl ⟨rfl, ?_⟩
  exact ((((HB11.out.setCell (p := ⟨w.heap.size, 0, none⟩) (Nat.le_refl _) _).setCell (p := ⟨w.heap.size, 1, none⟩) (Nat.le_refl _) _).setCell (p := ⟨w.heap.size, 2, none⟩) (Nat.le_refl _) _).setCell (p := ⟨w.heap.size, 3, none⟩) (Nat.le_refl _) _).setCell (p := ⟨w.heap.size, 4, none⟩) (Nat.le_refl _) _
theorem liveV : strv liveW = [.string ⟨#[112, 101, 114, 109, 105, 116]⟩, .string ⟨#[49, 48, 46, 48, 46, 48, 46, 48, 47, 56]⟩, .string ⟨#[103, 101]⟩, .string ⟨#[49, 54]⟩] := by
  unfold liveW
  rw [pfxT_at, dec16]
  rfl
theorem plives17_any (w : World) (he : Env w) : Calls Tryd.prog 15 #[] w (GoodP true w) := by
  have hal : Below w.heap.size w (w.alloc (.cells #[.string ⟨#[112, 101, 114, 109, 105, 116]⟩, .string ⟨#[49, 48, 46, 48, 46, 48, 46, 48, 47, 56]⟩, .string ⟨#[103, 101]⟩, .string ⟨#[49, 54]⟩] 9)) := (Below.refl w.heap.size w).alloc (Nat.le_refl _) _
  have hst : StrsAt (w.alloc (.cells #[.string ⟨#[112, 101, 114, 109, 105, 116]⟩, .string ⟨#[49, 48, 46, 48, 46, 48, 46, 48, 47, 56]⟩, .string ⟨#[103, 101]⟩, .string ⟨#[49, 54]⟩] 9)) (some ⟨w.heap.size, 0, none⟩) 4 4 (liveW.map str) := by
    refine StrsAt.of_own (l := liveW) (base := 0) (own_row (Blk.new w _ _) liveV.symm (Nat.zero_le _) rfl (by simp [maxLen])) ?_
    intro x hx
    have : x.length ≤ 40 := by
      simp [liveW] at hx
      rcases hx with rfl | rfl | rfl | rfl
      · decide
      · exact textL_len _ _
      · decide
      · rw [dec16]; decide
    exact Nat.le_trans this (by simp [maxLen])
  have HP := hide (pParse_lives w.heap.size _ (he.below hal) hst)
  have HB := hide hal
  have HH := hide (fun W => pHits_any true 167772160 8 16 32 167837696 16 W ⟨by decide, by decide, by decide⟩ ⟨by decide, by decide, by decide⟩)
  rw [show phitP 167837696 16 ⟨true, 167772160, 8, 16, 32⟩ = true by decide +kernel] at HH
  clear hal hst he
  go_enter Tryd.func15, Tryd.ntmps15
  go_wp2_with fail
  refine HP.out.mono ?_
  rintro e w1 ⟨rfl, hb⟩
  have HB1 := hide (HB.out.trans (hb.mono HB.out.size))
  clear hb
  have HB2 := hide (HB1.out.alloc HB1.out.size (.cells #[.bool true, .int .u32 167772160, .int .i64 8, .int .i64 16, .int .i64 32] 41))
  go_wp2_with fail
  refine (HH.out _).mono ?_
  rintro e w2 ⟨rfl, hb⟩
  have HB3 := hide (HB2.out.trans (hb.mono HB2.out.size))
  clear hb
  go_wp2
  go_ret
  exact ⟨rfl, HB3.out⟩
end Go.Proofs.YtebccdinglohpaaDoor
set_option linter.unusedSimpArgs false
set_option linter.unusedVariables false
namespace Go.Proofs.YtebccdinglohpaaDoor
open Go.RowKit Go.WideShapes Go.ChangeShapes
attribute [local go_sem] Oper.semAt_some
def withinP (r o : PR) : Bool := covB o.a o.n r.a r.n && (decide (o.ge ≤ r.ge) && decide (r.le ≤ o.le))
theorem pwithin_any (b : Bool) (a : Nat) (m ge le : Int) (b' : Bool) (a' : Nat) (m' ge' le' : Int) (w : World) (hr : PR.Ok ⟨b, a, m, ge, le⟩) (ho : PR.Ok ⟨b', a', m', ge', le'⟩) :
    Calls Tryd.prog 21 #[.agg #[.bool b, .int .u32 (a : Int), .int .i64 m, .int .i64 ge, .int .i64 le], .agg #[.bool b', .int .u32 (a' : Int), .int .i64 m', .int .i64 ge', .int .i64 le']] w (GoodP (withinP ⟨b, a, m, ge, le⟩ ⟨b', a', m', ge', le'⟩) w) := by
  have HG := hide (fun W => Covers_any a' m' a m ho.a hr.a ho.l ho.h hr.l hr.h W)
  have HK := hide ((Blk.new w 41 #[.bool b, .int .u32 (a : Int), .int .i64 m, .int .i64 ge, .int .i64 le]).alloc (.cells #[.bool b', .int .u32 (a' : Int), .int .i64 m', .int .i64 ge', .int .i64 le'] 41))
  have HL := hide (Blk.new (w.alloc (.cells #[.bool b, .int .u32 (a : Int), .int .i64 m, .int .i64 ge, .int .i64 le] 41)) 41 #[.bool b', .int .u32 (a' : Int), .int .i64 m', .int .i64 ge', .int .i64 le'])
  have HB := hide (((Below.refl w.heap.size w).alloc (Nat.le_refl _) (.cells #[.bool b, .int .u32 (a : Int), .int .i64 m, .int .i64 ge, .int .i64 le] 41)).alloc (by simp) (.cells #[.bool b', .int .u32 (a' : Int), .int .i64 m', .int .i64 ge', .int .i64 le'] 41))
  have HR : Hid (withinP ⟨b, a, m, ge, le⟩ ⟨b', a', m', ge', le'⟩ = (covB a' m' a m && (decide (ge' ≤ ge) && decide (le ≤ le')))) := hide rfl
  obtain ⟨q, hq⟩ : ∃ q, covB a' m' a m = q := ⟨_, rfl⟩
  obtain ⟨q1, hd1⟩ : ∃ q, decide (ge' ≤ ge) = q := ⟨_, rfl⟩
  obtain ⟨q2, hd2⟩ : ∃ q, decide (le ≤ le') = q := ⟨_, rfl⟩
  rw [hq] at HG
  rw [hq, hd1, hd2] at HR
  clear hq hr ho
  cases q <;> cases q1 <;> cases q2
  all_goals
    go_enter Tryd.func21, Tryd.ntmps21
    go_wp2_with fail
    refine (HG.out _).mono ?_
    rintro e w1 ⟨rfl, hb⟩
    have hk1 := HK.out.below hb (by simp; omega)
    have hl1 := HL.out.below hb (by simp)
    have x3 := hk1.cell 3
    have x4 := hk1.cell 4
    have y3 := hl1.cell 3
    have y4 := hl1.cell 4
    simp at y3 y4
    have HB1 := hide (below2 HB.out hb)
    clear hb hk1 hl1
    go_wp2
    go_ret
    exact ⟨ret_bool HR.out.symm, HB1.out⟩
theorem pdead1_any (b : Bool) (a : Nat) (m ge le : Int) (H : Nat) (b' : Bool) (a' : Nat) (m' ge' le' : Int) (w : World) (hok : PR.Ok ⟨b, a, m, ge, le⟩) (hr : PR.Ok ⟨b', a', m', ge', le'⟩) (hc : Blk w H 41 #[.bool b', .int .u32 (a' : Int), .int .i64 m', .int .i64 ge', .int .i64 le']) :
    Calls Tryd.prog 20 #[.agg #[.bool b, .int .u32 (a : Int), .int .i64 m, .int .i64 ge, .int .i64 le], .pointer (some ⟨H, 0, none⟩)] w (GoodP (withinP ⟨b', a', m', ge', le'⟩ ⟨b, a, m, ge, le⟩) w) := by
  have HG := hide (fun W => pwithin_any b' a' m' ge' le' b a m ge le W hr hok)
  have HB := hide ((Below.refl w.heap.size w).alloc (Nat.le_refl _) (.cells #[.bool b, .int .u32 (a : Int), .int .i64 m, .int .i64 ge, .int .i64 le] 41))
  have hH := hc.lt
  have c0 := hc.cell 0
  have c1 := hc.cell 1
  have c2 := hc.cell 2
  have c3 := hc.cell 3
  have c4 := hc.cell 4
  obtain ⟨q, hq⟩ : ∃ q, withinP ⟨b', a', m', ge', le'⟩ ⟨b, a, m, ge, le⟩ = q := ⟨_, rfl⟩
  rw [hq] at HG ⊢
  clear hq hok hr hc
  go_enter Tryd.func20, Tryd.ntmps20
  go_wp2_with fail
  refine (HG.out _).mono ?_
  rintro e w1 ⟨rfl, hb⟩
  have HB1 := hide (below2 HB.out hb)
  clear hb
  go_wp2
  go_ret
  exact ⟨rfl, HB1.out⟩
theorem callDead1 (args : Array Value) (W : World) : (callFunc 20 args).run Tryd.prog W = .ok (.enter 20 args) W := by
  simp [callFunc, go_sem, Tryd.func20]
  rfl
/-- Is the i-th one dead? The numbers of those that are. -/
def isDead (l : List PR) (i : Nat) : Bool := match l[i]? with
  | some r => (l.take i).any (withinP r)
  | none => false
def deadL (l : List PR) (k : Nat) : List Nat := (List.range k).filter (isDead l)
theorem deadL_succ (l : List PR) (k : Nat) : deadL l (k + 1) = deadL l k ++ if isDead l k then [k] else [] := by
  unfold deadL
  rw [List.range_succ, List.filter_append]
  congr 1
  simp only [List.filter_cons, List.filter_nil]
def natv (l : List Nat) : List Value := l.map fun i : Nat => .int .i64 (i : Int)
theorem intInfo : (Tryd.prog.info? 3).map (fun i => (i.zero, i.size, i.bytes)) = some (some (.int .i64 0), 1, 8) := by kernel_rfl
theorem deadL_len (l : List PR) (k : Nat) : (deadL l k).length ≤ k := by
  unfold deadL
  exact Nat.le_trans (List.length_filter_le _ _) (by simp)
/-- The loop's state. -/
structure DdSt (B : Nat) (w W : World) (v : Value) (l : List PR) (k : Nat) : Prop where
  own : W.ownsRow B 3 1 v (deadL l k).length (natv (deadL l k))
  bel : Below w.heap.size w W
def DeadP (l : List PR) (w : World) (e : Ending) (w' : World) : Prop := ∃ A c, e = .returned (.slice A (deadL l l.length).length c) ∧ w'.ownsRow w.heap.size 3 1 (.slice A (deadL l l.length).length c) (deadL l l.length).length (natv (deadL l l.length)) ∧ Below w.heap.size w w'
set_option maxRecDepth 100000 in
set_option maxHeartbeats 2000000 in
theorem pDead_any (s : ByteArray) (A : Option Addr) (n c : Nat) (l : List PR) (w : World) (h : LstAt 5 prR w A n c l) (hn100 : n ≤ 1000) :
    Calls Tryd.prog 11 #[.agg #[.string s, .slice A n c]] w (DeadP l w) := by
  obtain ⟨i0, hi, hz0, hz1, hz2⟩ := info_parts intInfo
  have hal : Below w.heap.size w (w.alloc (.cells #[.string s, .slice A n c] 33)) := (Below.refl w.heap.size w).alloc (Nat.le_refl _) _
  have HK := hide (Blk.new w 33 #[.string s, .slice A n c])
  have hm := h.2.2.1
  have hnc := h.2.1
  unfold maxLen at hm
  have HU := hide (h.below prMono hal)
  have HB := hide hal
  clear h hal
  go_enter Tryd.func11, Tryd.ntmps11
  go_wp2
  obtain ⟨W, hW⟩ : ∃ W, w.alloc (.cells #[.string s, .slice A n c] 33) = W := ⟨_, rfl⟩
  rw [hW] at HK HB HU ⊢
  clear hW
  have HS0 : Hid (DdSt W.heap.size w W (.slice none 0 0) l 0) := hide ⟨⟨rfl, .inl ⟨rfl, rfl⟩⟩, HB.out⟩
  go_loopw [3, 9] (fun v i wr => ∃ k : Nat, k ≤ n ∧ i = .int .i64 k ∧ DdSt W.heap.size w wr v l k ∧ Below W.heap.size W wr) (fun _ i _ => n - (intOf i).toNat)
  case atStart => exact ⟨0, Nat.zero_le _, rfl, HS0.out, Below.refl _ _⟩
  case round =>
    obtain ⟨k, hk, rfl, hst, hb⟩ := hrel
    have HST := hide hst
    have HO := hide hst.own
    have hdl := deadL_len l k
    obtain ⟨A', c', hv⟩ := own_slice hst.own
    subst hv
    have HA := hide (HU.out.below prMono hb)
    have HB1 := hide hb
    have hk1 := HK.out.below hb HK.out.lt
    have HK1 := hide hk1
    have x0 := hk1.cell 0
    have x1 := hk1.cell 1
    have hsz := hb.size
    have hlw := hk1.lt
    clear hst hb hk1
    by_cases hlt : k < n
    · obtain ⟨g, o, b, a, m, ge, le, rfl, hg, hy, hok, c0, c1, c2, c3, c4⟩ := PRat HA.out hlt
      have hal1 : Below wr.heap.size wr (wr.alloc (.cells #[.bool b, .int .u32 (a : Int), .int .i64 m, .int .i64 ge, .int .i64 le] 41)) := (Below.refl _ _).alloc (Nat.le_refl _) _
      have HAl := hide hal1
      have hbk := Blk.new wr 41 #[.bool b, .int .u32 (a : Int), .int .i64 m, .int .i64 ge, .int .i64 le]
      have hkl : k ≤ l.length := by rw [HA.out.1]; omega
      have HC := hide (prContains1_any 20 (.pointer (some ⟨wr.heap.size, 0, none⟩)) (withinP ⟨b, a, m, ge, le⟩) (some ⟨g, o, none⟩) k c (l.take k) _ ((HA.out.take_ (by omega)).below prMono hal1) callDead1 (fun b' a' m' ge' le' W' hW' hok' => pdead1_any b' a' m' ge' le' wr.heap.size b a m ge le W' hok' hok (hbk.below hW' hbk.lt)))
      have HD : Hid (isDead l k = (l.take k).any (withinP ⟨b, a, m, ge, le⟩)) := hide (by unfold isDead; rw [hy])
      obtain ⟨q, hq⟩ : ∃ q, (l.take k).any (withinP ⟨b, a, m, ge, le⟩) = q := ⟨_, rfl⟩
      rw [hq] at HC HD
      have HDs := hide (deadL_succ l k)
      rw [HD.out] at HDs
      have hi0 : (0 : Int) ≤ (k : Int) := by omega
      have hi1 : (k : Int) < (n : Int) := by omega
      have hi2 : (k : Int) ≤ (c : Int) := by omega
      clear hq hok hy hal1 hbk HD
      obtain ⟨dl, hdl2⟩ : ∃ dl, (deadL l k).length = dl := ⟨_, rfl⟩
      rw [hdl2] at HST HO hdl
      have HDL := hide hdl2
      rw [hdl2]
      clear hdl2
      have HB2 := hide (HB1.out.trans (HAl.out.mono hsz))
      cases q
      · have HE : Hid (deadL l (k + 1) = deadL l k) := hide (by rw [HDs.out]; simp)
        go_wp2_with fail
        refine HC.out.mono ?_
        rintro e w1 ⟨rfl, hb1⟩
        have HS1 : Hid (DdSt W.heap.size w w1 (.slice A' dl c') l (k + 1)) := hide (by
          have hbb := below2 HAl.out hb1
          refine ⟨?_, HST.out.bel.trans (hbb.mono HST.out.bel.size)⟩
          rw [HE.out, HDL.out]; exact own_below HO.out hbb)
        have HB3 := hide (HB1.out.trans ((below2 HAl.out hb1).mono hsz))
        clear hb1
        go_wp2
        go_roundw
        case rel => exact ⟨k + 1, by omega, by go_num, HS1.out, HB3.out⟩
        case measure => simp [intOf]; omega
      · have HE : Hid (deadL l (k + 1) = deadL l k ++ [k]) := hide (by rw [HDs.out]; simp)
        go_wp2_with fail
        refine HC.out.mono ?_
        rintro e w1 ⟨rfl, hb1⟩
        have HO1 := hide (own_below HO.out (below2 HAl.out hb1))
        have HB3 := hide (below2 HAl.out hb1)
        have hs1 := HB3.out.size
        clear hb1
        go_wp2_with (at_builtin; refine wpList_append_any _ rfl (.tmp 20) (.tmp 22) 38 rfl W.heap.size 3 i0 _ 1 8 Tryd.underlying38 hi hz0 hz1 hz2 rfl (by decide) (.slice A' dl c') dl _ rfl (HO1.out.alloc _) (w1.heap.size + 1) (some ⟨w1.heap.size, 0, none⟩) 1 1 [.int .i64 (k : Int)] rfl (reads_blk (Blk.new w1 _ _) (Nat.lt_succ_self _) rfl) (by simp [Value.oneCell']) (by unfold maxLen; omega) (by omega) (by simp; omega) ?_; intro v3 w3 hown3 hg3 hor3; have HO3 := hide hown3; have HG3 := hide hg3; clear hown3 hg3 hor3)
        have HS1 : Hid (DdSt W.heap.size w w3 v3 l (k + 1)) := hide (by
          refine ⟨?_, ?_⟩
          · rw [HE.out, List.length_append, HDL.out]
            have := HO3.out
            simpa [natv] using this
          · exact ((HST.out.bel.trans (HB3.out.mono HST.out.bel.size)).alloc (Nat.le_trans HST.out.bel.size hs1) _).grown HG3.out (by simp; have := HST.out.bel.size; omega) (fun q hq => Nat.le_trans HB.out.size (own_low_block HO1.out q hq)))
        have HB5 : Hid (Below W.heap.size W w3) := hide (((HB1.out.trans (HB3.out.mono hsz)).alloc (Nat.le_trans hsz hs1) _).grown HG3.out (by simp; omega) (own_low_block HO1.out))
        go_wp2
        go_roundw
        case rel => exact ⟨k + 1, by omega, by go_num, HS1.out, HB5.out⟩
        case measure => simp [intOf]; omega
    · obtain rfl : k = n := by omega
      have hl : l.length = k := HA.out.1
      go_wp2
      go_ret
      refine ⟨A', c', ?_, ?_, HST.out.bel⟩
      · rw [hl]; rfl
      · rw [hl]; exact own_baseLe HO.out HB.out.size
end Go.Proofs.YtebccdinglohpaaDoor
set_option linter.unusedSimpArgs false
set_option linter.unusedVariables false
namespace Go.Proofs.YtebccdinglohpaaDoor
open Go.RowKit Go.WideShapes Go.ChangeShapes
attribute [local go_sem] Oper.semAt_some
/-- The law's state: its boxes, its own list. -/
structure PlSt (w W : World) (s : ByteArray) (A : Option Addr) (n c : Nat) (L : List PR) (x : Nat) (z : Int) : Prop where
  bl : Blk W w.heap.size 33 #[.string s, .slice A n c]
  bp : Blk W (w.heap.size + 1) 36 #[.int .u32 (x : Int), .int .i64 z]
  ls : LstAt 5 prR W A n c L
  env : Env W
  bel : Below w.heap.size w W
theorem PlSt.below {w W W' : World} {s : ByteArray} {A : Option Addr} {n c : Nat} {L : List PR} {x : Nat} {z : Int} (h : PlSt w W s A n c L x z) (hb : Below W.heap.size W W') : PlSt w W' s A n c L x z :=
  ⟨h.bl.below hb h.bl.lt, h.bp.below hb h.bp.lt, h.ls.below prMono hb, h.env.below hb, h.bel.trans (hb.mono h.bel.size)⟩
theorem PlSt.start {w w1 : World} {s : ByteArray} {A A' : Option Addr} {n c n' c' : Nat} {L : List PR} {x : Nat} {z : Int} (he : Env w)
    (hb : Below ((w.alloc (.cells #[.string s, .slice A n c] 33)).alloc (.cells #[.int .u32 (x : Int), .int .i64 z] 36)).heap.size ((w.alloc (.cells #[.string s, .slice A n c] 33)).alloc (.cells #[.int .u32 (x : Int), .int .i64 z] 36)) w1) (hl : LstAt 5 prR w1 A' n' c' L)
    (hab : AboveA ((w.alloc (.cells #[.string s, .slice A n c] 33)).alloc (.cells #[.int .u32 (x : Int), .int .i64 z] 36)).heap.size A') :
    PlSt w ((w1.setCell ⟨w.heap.size, 0, none⟩ (.string s)).setCell ⟨w.heap.size, 1, none⟩ (.slice A' n' c')) s A' n' c' L x z := by
  have hal : Below w.heap.size w ((w.alloc (.cells #[.string s, .slice A n c] 33)).alloc (.cells #[.int .u32 (x : Int), .int .i64 z] 36)) := ((Below.refl w.heap.size w).alloc (Nat.le_refl _) _).alloc (by simp) _
  have hbl : Blk ((w.alloc (.cells #[.string s, .slice A n c] 33)).alloc (.cells #[.int .u32 (x : Int), .int .i64 z] 36)) w.heap.size 33 #[.string s, .slice A n c] := (Blk.new w _ _).alloc _
  have hbp : Blk ((w.alloc (.cells #[.string s, .slice A n c] 33)).alloc (.cells #[.int .u32 (x : Int), .int .i64 z] 36)) (w.heap.size + 1) 36 #[.int .u32 (x : Int), .int .i64 z] := blk_new' _ _ (by simp)
  have hsz : ((w.alloc (.cells #[.string s, .slice A n c] 33)).alloc (.cells #[.int .u32 (x : Int), .int .i64 z] 36)).heap.size = w.heap.size + 2 := by simp
  have hb1 : Below w.heap.size w w1 := hal.trans (hb.mono hal.size)
  have k0 := hbl.below hb hbl.lt
  have k1 := hbp.below hb hbp.lt
  have hset : Below w.heap.size w ((w1.setCell ⟨w.heap.size, 0, none⟩ (.string s)).setCell ⟨w.heap.size, 1, none⟩ (.slice A' n' c')) := (hb1.setCell (p := ⟨w.heap.size, 0, none⟩) (Nat.le_refl _) _).setCell (p := ⟨w.heap.size, 1, none⟩) (Nat.le_refl _) _
  refine ⟨(k0.set_ 0 (.string s)).set_ 1 (.slice A' n' c'), (k1.far (p := ⟨w.heap.size, 0, none⟩) (by simp) _).far (p := ⟨w.heap.size, 1, none⟩) (by simp) _, hl.keepW (fun _ _ h => h) (by simp [World.setCell]) (fun ad i hA => ?_), he.below hset, hset⟩
  have := hab ad hA
  rw [hsz] at this
  rw [World.cell?_setCell_other _ _ _ _ (by rintro e; have := congrArg Addr.block e; simp at this; omega), World.cell?_setCell_other _ _ _ _ (by rintro e; have := congrArg Addr.block e; simp at this; omega)]
end Go.Proofs.YtebccdinglohpaaDoor
