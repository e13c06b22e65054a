import Derived.Test.YtpgffbomlmmncaaGreatDoorCp1
import Derived.Test.YtpgffbomlmmncaaGreatDoorCpSh
import Derived.Shelf.Strings.Builder1
import Derived.Shelf.Strings.Builder2
import Derived.Shelf.Strings.OnBuilder
import Derived.Shelf.LaysM
import Derived.WalkKit
import Derived.ProofKit
import Derived.OpenShut
import Derived.Below
import Derived.Laws.OwnMore
import Derived.Laws.Rows
import Derived.Laws.MakeOwn
import Derived.Deep.AppendLies
import Derived.Deep.Draws
import Derived.Deep.OwnRows
import Derived.Deep.QuietTactic
import Derived.Maps.AppendAt
import Derived.RegionTactic
import Derived.OwnWalk
import Derived.ChangeSame
import Derived.Outline
import Derived.BigQuiet
import Derived.WalkMore
import Derived.ScopeJumps
import Derived.WalkLawsBesides
import Derived.WalkSpells
import Derived.WideKeyArgs
import Derived.Deep.DeepHandedRow
import Derived.Deep.DeepWitnessRowRef
import Derived.Lib.LaidTab
import Derived.Lib.AppendIntMem
import Derived.LaidMore
import Derived.MakeChecks
import Derived.Lib.Itoa
import Derived.Lib.ItoaMem
import Derived.Laws.BitsLemmas
import Derived.Laws.BitsAllLaws
import Derived.Deep.Quiet
import Derived.Deep.RegionLaw
import Derived.Lib.PathFns
import Derived.Lib.IndexBytes
import Derived.RangeFuncWrites
import Derived.RangeFuncNested
import Derived.RangeFuncBound
import Derived.RangeFuncCalls
import Derived.RangeFuncLeaves
import Derived.RangeFuncBox
import Derived.Shelf.Abstract
import Derived.Shelf.RegionOpen
import Derived.OwnWalkIn
import Derived.TacticsInMore
import Derived.LoopNIn
import Derived.LoopIn
import Derived.Lib.SmallJoins
import Derived.Lib.ParseIntBCases
import Derived.Lib.IndexMore
import Derived.Shelf.Vars
import Derived.BigRegion
import Derived.Lib.AtoiAllCases
import Derived.SliceStrings
import Derived.Sort.LotA
import Derived.BigRegionIn
import Derived.Deep.RegionHeld3
import Derived.Deep.Slices
import Derived.StillTailTactics
import Derived.Orders
set_option linter.unusedSimpArgs false
set_option linter.unusedVariables false
namespace Go.Proofs.YtpgffbomlmmncaaGreatDoor
open Go.RowKit
theorem or_add (a n : Nat) (h : n < 65536) : a * 65536 ||| n = a * 65536 + n := by
  have := Nat.shiftLeft_add_eq_or_of_lt (b := n) (i := 16) h a
  rw [Nat.shiftLeft_eq] at this
  exact this.symm
theorem wrap_u16 (x : Int) (h : 0 ≤ x) : IntKind.u16.wrap x = x % 65536 := by
  simp [IntKind.wrap, IntKind.bits, IntKind.signed]
theorem itoa_any (n : Nat) (h : n ≤ 9223372036854775807) (w : World) (ht : Tab w) :
    Calls Tryz.prog 88 #[.int .i64 n] w fun e w' => e = .returned (.string (str (Lib.decDigits n))) ∧ Below w.heap.size w w' := by
  refine (Tryz.strconv_Itoa n (by omega) (by omega) w ht).mono ?_
  rintro e w' ⟨rfl, k, os, rfl⟩
  refine ⟨?_, Lib.below_grow _ _ (Nat.le_refl _) _ _⟩
  rw [Lib.itoa_nonneg]; rfl
set_option maxHeartbeats 400000 in
theorem name_c (c : Nat) (w : World) : Calls Tryz.prog 68 #[.int .u32 c] w fun e w' => e = .returned (.string (str (commName c))) ∧ w = w' := by
  by_cases h1 : c = 4294967041
  · subst h1
    go_enter Tryz.func68, Tryz.ntmps68
    go_wp2
    go_ret
    exact ⟨rfl, rfl⟩
  have e1 : ((c : Int) == 4294967041) = false := by simp; omega
  by_cases h2 : c = 4294967042
  · subst h2
    go_enter Tryz.func68, Tryz.ntmps68
    go_wp2
    go_ret
    exact ⟨rfl, rfl⟩
  have e2 : ((c : Int) == 4294967042) = false := by simp; omega
  by_cases h3 : c = 4294967043
  · subst h3
    go_enter Tryz.func68, Tryz.ntmps68
    go_wp2
    go_ret
    exact ⟨rfl, rfl⟩
  have e3 : ((c : Int) == 4294967043) = false := by simp; omega
  have hf := hide ((commName_nil c).2 ⟨h1, h2, h3⟩)
  clear h1 h2 h3
  go_enter Tryz.func68, Tryz.ntmps68
  go_wp2
  go_ret
  rw [hf.out]
  exact ⟨rfl, rfl⟩
set_option maxHeartbeats 400000 in
theorem halves_any (c : Nat) (h : c < 4294967296) (w : World) : Calls Tryz.prog 97 #[.int .u32 c] w fun e w' => e = .returned (.tuple #[.int .u16 ((c / 65536 : Nat) : Int), .int .u16 ((c % 65536 : Nat) : Int)]) ∧ w = w' := by
  go_enter Tryz.func97, Tryz.ntmps97
  go_wp2
  go_ret2
  refine ⟨?_, rfl⟩
  show Ending.returned (.tuple #[.int .u16 ((c : Int) / 65536), .int .u16 (IntKind.u16.wrap (c : Int))]) = _
  rw [wrap_u16 _ (by omega), show ((c / 65536 : Nat) : Int) = (c : Int) / 65536 by omega, show ((c % 65536 : Nat) : Int) = (c : Int) % 65536 by omega]
set_option maxHeartbeats 400000 in
theorem text_any (c : Nat) (h : c < 4294967296) (w : World) (ht : Tab w) : Calls Tryz.prog 72 #[.int .u32 c] w fun e w' => e = .returned (.string (str (commT c))) ∧ Below w.heap.size w w' := by
  by_cases hn : commName c = []
  · have hT := hide (show commT c = Lib.decDigits (c / 65536) ++ 58 :: Lib.decDigits (c % 65536) by unfold commT; rw [if_pos hn])
    have HN := hide hn
    clear hn
    go_enter Tryz.func72, Tryz.ntmps72
    go_wp2_with fail
    refine (name_c c _).mono ?_
    rintro e w1 ⟨rfl, rfl⟩
    rw [HN.out, show str [] = (⟨#[]⟩ : ByteArray) from rfl]
    go_wp2_with fail
    refine (halves_any c h _).mono ?_
    rintro e w1 ⟨rfl, rfl⟩
    go_wp2_with fail
    refine (itoa_any (c / 65536) (by omega) _ ht).mono ?_
    rintro e w1 ⟨rfl, hb1⟩
    have s1 : (str (Lib.decDigits (c / 65536))).size ≤ 10 := dec_len _ 9 (by omega)
    have s2 : (str (Lib.decDigits (c % 65536))).size ≤ 10 := dec_len _ 9 (by omega)
    go_wp2_with fail
    refine (itoa_any (c % 65536) (by omega) _ (ht.below hb1)).mono ?_
    rintro e w2 ⟨rfl, hb2⟩
    go_wp2
    go_ret
    refine ⟨?_, hb1.trans (hb2.mono hb1.size)⟩
    rw [hT.out]
    show Ending.returned (.string (str (Lib.decDigits (c / 65536)) ++ ⟨#[58]⟩ ++ str (Lib.decDigits (c % 65536)))) = _
    rw [show (⟨#[58]⟩ : ByteArray) = str [58] from rfl, cat_str, cat_str]
    simp
  · have hT := hide (show commT c = commName c by unfold commT; rw [if_neg hn])
    have hne := hide (str_ne hn)
    clear hn
    go_enter Tryz.func72, Tryz.ntmps72
    go_wp2_with fail
    refine (name_c c _).mono ?_
    rintro e w1 ⟨rfl, rfl⟩
    obtain ⟨s, hs⟩ : ∃ s, s = str (commName c) := ⟨_, rfl⟩
    have hse : s.toList.isEmpty = false := by rw [hs]; exact hne.out
    have hse2 : (!s.toList.isEmpty) = true := by rw [hse]; rfl
    rw [← hs]
    have HS := hide hs
    clear hs
    go_wp2
    go_ret
    refine ⟨?_, Below.refl _ _⟩
    rw [hT.out, ← HS.out]; rfl
set_option maxHeartbeats 400000 in
theorem make_any (a n : Nat) (ha : a < 65536) (hn : n < 65536) (w : World) : Calls Tryz.prog 71 #[.int .u16 a, .int .u16 n] w fun e w' => e = .returned (.int .u32 ((a * 65536 + n : Nat) : Int)) ∧ w = w' := by
  go_enter Tryz.func71, Tryz.ntmps71
  go_wp2
  go_ret
  refine ⟨?_, rfl⟩
  show Ending.returned (.int .u32 (bits .or .u32 ((a : Int) * 65536) (n : Int))) = _
  rw [show ((a : Int) * 65536) = ((a * 65536 : Nat) : Int) by omega, u32_or_nat _ _ (by omega) (by omega), or_add a n hn]
end Go.Proofs.YtpgffbomlmmncaaGreatDoor
set_option linter.unusedSimpArgs false
set_option linter.unusedVariables false
namespace Go.Proofs.YtpgffbomlmmncaaGreatDoor
open Go.RowKit
def Rise (l : List Nat) : Prop := l.Pairwise (· < ·)
/-- A number laid into a set. -/
def putN (l : List Nat) (n : Nat) : List Nat := if l.contains n then l else l.takeWhile (· < n) ++ n :: l.dropWhile (· < n)
def setOf (l : List Nat) : List Nat := l.foldl putN []
theorem contains_iff (l : List Nat) (n : Nat) : l.contains n = true ↔ n ∈ l := by simp
theorem putN_mem (l : List Nat) (n x : Nat) : x ∈ putN l n ↔ x = n ∨ x ∈ l := by
  unfold putN
  by_cases h : l.contains n = true
  · rw [if_pos h]
    constructor
    · exact .inr
    · rintro (rfl | h1)
      · exact (contains_iff _ _).1 h
      · exact h1
  · rw [if_neg h, List.mem_append, List.mem_cons]
    have e := List.takeWhile_append_dropWhile (p := fun y => decide (y < n)) (l := l)
    have hm : x ∈ l ↔ x ∈ l.takeWhile (· < n) ∨ x ∈ l.dropWhile (· < n) := by rw [← List.mem_append, e]
    rw [hm]
    constructor
    · rintro (h1 | h1 | h1)
      · exact .inr (.inl h1)
      · exact .inl h1
      · exact .inr (.inr h1)
    · rintro (h1 | h1 | h1)
      · exact .inr (.inl h1)
      · exact .inl h1
      · exact .inr (.inr h1)
theorem drop_ge {n : Nat} : ∀ {l : List Nat}, Rise l → ∀ x ∈ l.dropWhile (· < n), n ≤ x
  | [], _, x, hx => by simp at hx
  | y :: l, h, x, hx => by
    obtain ⟨h1, h2⟩ := List.pairwise_cons.1 h
    by_cases hy : y < n
    · rw [List.dropWhile_cons_of_pos (by simpa using hy)] at hx
      exact drop_ge h2 x hx
    · rw [List.dropWhile_cons_of_neg (by simpa using hy)] at hx
      rcases List.mem_cons.1 hx with rfl | hx
      · omega
      · have := h1 x hx; omega
theorem take_lt {n : Nat} : ∀ {l : List Nat}, ∀ x ∈ l.takeWhile (· < n), x < n
  | [], x, hx => by simp at hx
  | y :: l, x, hx => by
    by_cases hy : y < n
    · rw [List.takeWhile_cons_of_pos (by simpa using hy)] at hx
      rcases List.mem_cons.1 hx with rfl | hx
      · exact hy
      · exact take_lt x hx
    · rw [List.takeWhile_cons_of_neg (by simpa using hy)] at hx
      simp at hx
theorem putN_rise {l : List Nat} (h : Rise l) (n : Nat) : Rise (putN l n) := by
  unfold putN
  by_cases hc : l.contains n = true
  · rw [if_pos hc]; exact h
  · rw [if_neg hc]
    have e := List.takeWhile_append_dropWhile (p := fun y => decide (y < n)) (l := l)
    have hn : n ∉ l := fun hm => hc ((contains_iff _ _).2 hm)
    have h0 := h
    unfold Rise at h ⊢
    rw [← e] at h
    obtain ⟨p1, p2, p3⟩ := List.pairwise_append.1 h
    refine List.pairwise_append.2 ⟨p1, List.pairwise_cons.2 ⟨fun x hx => ?_, p2⟩, fun x hx y hy => ?_⟩
    · have h1 := drop_ge h0 x hx
      have : x ≠ n := fun he => hn (he ▸ (List.dropWhile_sublist _).subset hx)
      omega
    · have h1 := take_lt x hx
      rcases List.mem_cons.1 hy with rfl | hy
      · exact h1
      · exact p3 x hx y hy
theorem setOf_aux : ∀ (l acc : List Nat), Rise acc → Rise (l.foldl putN acc) ∧ ∀ x, x ∈ l.foldl putN acc ↔ x ∈ acc ∨ x ∈ l
  | [], acc, h => ⟨h, fun x => by simp⟩
  | y :: l, acc, h => by
    obtain ⟨h1, h2⟩ := setOf_aux l (putN acc y) (putN_rise h y)
    refine ⟨h1, fun x => ?_⟩
    rw [List.foldl_cons, h2 x, putN_mem, List.mem_cons]
    constructor
    · rintro ((h | h) | h)
      · exact .inr (.inl h)
      · exact .inl h
      · exact .inr (.inr h)
    · rintro (h | h | h)
      · exact .inl (.inr h)
      · exact .inl (.inl h)
      · exact .inr h
theorem setOf_rise (l : List Nat) : Rise (setOf l) := (setOf_aux l [] List.Pairwise.nil).1
theorem putN_len (l : List Nat) (n : Nat) : (putN l n).length ≤ l.length + 1 := by
  unfold putN
  by_cases h : l.contains n = true
  · rw [if_pos h]; omega
  · rw [if_neg h]
    have e := congrArg List.length (List.takeWhile_append_dropWhile (p := fun y => decide (y < n)) (l := l))
    rw [List.length_append] at e ⊢
    rw [List.length_cons]; omega
theorem setOf_len_aux : ∀ (l acc : List Nat), (l.foldl putN acc).length ≤ acc.length + l.length
  | [], acc => by simp
  | y :: l, acc => by
    have h1 := setOf_len_aux l (putN acc y)
    have h2 := putN_len acc y
    rw [List.foldl_cons, List.length_cons]; omega
theorem setOf_len (l : List Nat) : (setOf l).length ≤ l.length := by simpa [setOf] using setOf_len_aux l []
theorem take_snoc_eq {l : List Nat} {k x : Nat} (h : l[k]? = some x) : l.take (k + 1) = l.take k ++ [x] := by rw [List.take_add_one, h]; rfl
set_option maxHeartbeats 400000 in
theorem isNaN32 (x : Nat) (w : World) : Calls Tryz.prog 112 #[.int .u32 x] w fun e w' => e = .returned (.bool false) ∧ w = w' := by
  go_enter Tryz.func112, Tryz.ntmps112
  go_wp2
  go_ret
  exact ⟨ret_bool (by simp), rfl⟩
set_option maxHeartbeats 400000 in
theorem isNaNs32 (x : Nat) (w : World) : Calls Tryz.prog 92 #[.int .u32 x] w fun e w' => e = .returned (.bool false) ∧ w = w' := by
  go_enter Tryz.func92, Tryz.ntmps92
  go_wp2
  go_ret
  exact ⟨ret_bool (by simp), rfl⟩
set_option maxHeartbeats 400000 in
theorem less32 (x y : Nat) (w : World) : Calls Tryz.prog 91 #[.int .u32 x, .int .u32 y] w fun e w' => e = .returned (.bool (decide (x < y))) ∧ w = w' := by
  go_enter Tryz.func91, Tryz.ntmps91
  go_wp2_with fail
  refine (isNaN32 x _).mono ?_
  rintro e w1 ⟨rfl, rfl⟩
  go_wp2
  go_ret
  exact ⟨ret_bool (by simp), rfl⟩
def lowN (l : List Nat) (x : Nat) : Nat := (l.takeWhile (· < x)).length
theorem lowN_of : ∀ {l : List Nat} {x i : Nat}, i ≤ l.length → (∀ k y, k < i → l[k]? = some y → y < x) → (∀ k y, i ≤ k → l[k]? = some y → x ≤ y) → lowN l x = i
  | [], x, i, h, _, _ => by simp [lowN]; simp at h; omega
  | z :: l, x, 0, h, h1, h2 => by
    have := h2 0 z (by omega) rfl
    unfold lowN
    rw [List.takeWhile_cons_of_neg (by simp; omega)]; rfl
  | z :: l, x, i + 1, h, h1, h2 => by
    have := h1 0 z (by omega) rfl
    have ih := lowN_of (l := l) (x := x) (i := i) (by simp at h; omega) (fun k y hk hy => h1 (k + 1) y (by omega) (by simpa using hy)) (fun k y hk hy => h2 (k + 1) y (by omega) (by simpa using hy))
    unfold lowN at ih ⊢
    rw [List.takeWhile_cons_of_pos (by simpa using this), List.length_cons, ih]
theorem rise_lt {l : List Nat} (h : Rise l) {i j x y : Nat} (hij : i < j) (hx : l[i]? = some x) (hy : l[j]? = some y) : x < y := by
  obtain ⟨hi, rfl⟩ := List.getElem?_eq_some_iff.1 hx
  obtain ⟨hj, rfl⟩ := List.getElem?_eq_some_iff.1 hy
  exact List.pairwise_iff_getElem.1 h i j hi hj hij
theorem found_at {l : List Nat} (h : Rise l) {i x y : Nat} (hy : l[i]? = some y) (h1 : ∀ k y, k < i → l[k]? = some y → y < x) (h2 : ∀ k y, i ≤ k → l[k]? = some y → x ≤ y) : decide (x ∈ l) = decide (y = x) := by
  rw [decide_eq_decide]
  constructor
  · intro hm
    obtain ⟨k, hk⟩ := List.getElem?_of_mem hm
    rcases Nat.lt_trichotomy k i with hl | rfl | hg
    · exact absurd (h1 k x hl hk) (by omega)
    · exact Option.some.inj (hy.symm.trans hk)
    · have := rise_lt h hg hy hk
      have := h2 i y (Nat.le_refl _) hy
      omega
  · rintro rfl
    exact List.mem_of_getElem? hy
theorem found_no {l : List Nat} {x : Nat} (h1 : ∀ k y, k < l.length → l[k]? = some y → y < x) : decide (x ∈ l) = false := by
  rw [decide_eq_false_iff_not]
  intro hm
  obtain ⟨k, hk⟩ := List.getElem?_of_mem hm
  have := h1 k x (List.getElem?_eq_some_iff.1 hk).1 hk
  omega
def LowInv (l : List Nat) (x i j : Nat) : Prop := (∀ k y, k < i → l[k]? = some y → y < x) ∧ (∀ k y, j ≤ k → l[k]? = some y → x ≤ y)
set_option maxHeartbeats 1000000 in
theorem binSearch_any (A : Option Addr) (n c : Nat) (l : List Nat) (x : Nat) (w : World) (h : U32s w A n c l) (hr : Rise l) (hn : n ≤ 100000) :
    Calls Tryz.prog 66 #[.slice A n c, .int .u32 x] w fun e w' => e = .returned (.tuple #[.int .i64 (lowN l x : Nat), .bool (decide (x ∈ l))]) ∧ w = w' := by
  have hm := h.2.2.1
  have hnc := h.2.1
  unfold maxLen at hm
  have HU := hide h
  have HR := hide hr
  clear h hr
  go_enter Tryz.func66, Tryz.ntmps66
  go_wp2
  go_loop [7, 8] (fun a b => ∃ i j : Nat, i ≤ j ∧ j ≤ n ∧ a = .int .i64 i ∧ b = .int .i64 j ∧ LowInv l x i j) (fun a b => (intOf b).toNat - (intOf a).toNat)
  case atStart => exact ⟨0, n, Nat.zero_le _, Nat.le_refl _, rfl, rfl, fun k y hk => by omega, fun k y hk hy => by
    have := (List.getElem?_eq_some_iff.1 hy).1; have := HU.out.1; omega⟩
  case round =>
    obtain ⟨i, j, hij, hj, rfl, rfl, hinv⟩ := hrel
    have HI := hide hinv
    clear hinv
    by_cases hlt : i < j
    · obtain ⟨g, o, y, rfl, hg, hy, hy2, hc⟩ := HU.out.at_ (k := (i + j) / 2) (by omega)
      have HY := hide hy
      clear hy
      by_cases hyx : y < x
      · have hd : decide (y < x) = true := by simpa using hyx
        have HL := hide (fun w => less32 y x w)
        rw [hd] at HL
        have HI2 : Hid (LowInv l x ((i + j) / 2 + 1) j) := hide ⟨fun k z hk hz => by
          rcases Nat.lt_or_ge k ((i + j) / 2) with h | h
          · have := rise_lt HR.out h hz HY.out; omega
          · obtain rfl : k = (i + j) / 2 := by omega
            have := Option.some.inj (hz.symm.trans HY.out); omega, HI.out.2⟩
        clear hd
        go_wp2_with fail
        refine (HL.out _).mono ?_
        rintro e w1 ⟨rfl, rfl⟩
        go_wp2
        go_round
        case rel => exact ⟨(i + j) / 2 + 1, j, by omega, by omega, by go_num, rfl, HI2.out⟩
        case measure => simp [intOf]; omega
      · have hd : decide (y < x) = false := by simpa using hyx
        have HL := hide (fun w => less32 y x w)
        rw [hd] at HL
        have HI2 : Hid (LowInv l x i ((i + j) / 2)) := hide ⟨HI.out.1, fun k z hk hz => by
          rcases Nat.lt_or_ge ((i + j) / 2) k with h | h
          · have := rise_lt HR.out h HY.out hz; omega
          · obtain rfl : k = (i + j) / 2 := by omega
            have := Option.some.inj (hz.symm.trans HY.out); omega⟩
        clear hd
        go_wp2_with fail
        refine (HL.out _).mono ?_
        rintro e w1 ⟨rfl, rfl⟩
        go_wp2
        go_round
        case rel => exact ⟨i, (i + j) / 2, by omega, by omega, rfl, by go_num, HI2.out⟩
        case measure => simp [intOf]; omega
    · obtain rfl : i = j := by omega
      have hlow := hide (lowN_of (by rw [HU.out.1]; exact hj) HI.out.1 HI.out.2)
      by_cases hi : i < n
      · obtain ⟨g, o, y, rfl, hg, hy, hy2, hc⟩ := HU.out.at_ hi
        have hf := hide (found_at HR.out hy HI.out.1 HI.out.2)
        clear hy
        by_cases hyx : y = x
        · have he : ((y : Int) == (x : Int)) = true := by simp [hyx]
          have HF : Hid (decide (x ∈ l) = true) := hide (by rw [hf.out]; simp [hyx])
          clear hyx
          go_wp2
          go_ret2
          exact ⟨by rw [hlow.out, HF.out]; rfl, rfl⟩
        · have he : ((y : Int) == (x : Int)) = false := by simp; omega
          have HF : Hid (decide (x ∈ l) = false) := hide (by rw [hf.out]; simp [hyx])
          clear hyx
          go_wp2_with fail
          refine (isNaNs32 y _).mono ?_
          rintro e w1 ⟨rfl, rfl⟩
          go_wp2
          go_ret2
          exact ⟨by rw [hlow.out, HF.out]; rfl, rfl⟩
      · obtain rfl : i = n := by omega
        have HF := hide (found_no (l := l) (x := x) (by rw [HU.out.1]; exact HI.out.1))
        go_wp2
        go_ret2
        exact ⟨by rw [hlow.out, HF.out]; rfl, rfl⟩
set_option maxHeartbeats 400000 in
theorem ahas_any (A : Option Addr) (n c : Nat) (l : List Nat) (x : Nat) (w : World) (h : U32s w A n c l) (hr : Rise l) (hn : n ≤ 100000) :
    Calls Tryz.prog 53 #[.slice A n c, .int .u32 x] w fun e w' => e = .returned (.bool (decide (x ∈ l))) ∧ w = w' := by
  have HB := hide (fun w h => binSearch_any A n c l x w h hr hn)
  have HU := hide h
  clear h hr
  go_enter Tryz.func53, Tryz.ntmps53
  go_wp2_with fail
  refine (HB.out _ HU.out).mono ?_
  rintro e w1 ⟨rfl, rfl⟩
  go_wp2
  go_ret
  exact ⟨rfl, rfl⟩
/-- Whether all of one list lie in another. -/
def allIn (l r : List Nat) : Bool := l.all fun x => r.contains x
set_option maxHeartbeats 1000000 in
theorem within_any (A : Option Addr) (n c : Nat) (l : List Nat) (B : Option Addr) (m d : Nat) (r : List Nat) (w : World) (h : U32s w A n c l) (h' : U32s w B m d r) (hr : Rise r) (hm : m ≤ 100000) :
    Calls Tryz.prog 39 #[.slice A n c, .slice B m d] w fun e w' => e = .returned (.bool (allIn l r)) ∧ w = w' := by
  have hm1 := h.2.2.1
  have hn1 := h.2.1
  unfold maxLen at hm1
  have HB := hide (fun x w h => ahas_any B m d r x w h hr hm)
  have HU := hide h
  have HV := hide h'
  clear h h' hr
  go_enter Tryz.func39, Tryz.ntmps39
  go_wp2
  go_loop [9] (fun i => ∃ k : Nat, k ≤ n ∧ i = .int .i64 k ∧ allIn (l.take k) r = true) (fun i => n - (intOf i).toNat)
  case atStart => exact ⟨0, Nat.zero_le _, rfl, by simp [allIn]⟩
  case round =>
    obtain ⟨k, hk, rfl, hall⟩ := hrel
    have HN := hide hall
    clear hall
    by_cases hlt : k < n
    · obtain ⟨g, o, x, rfl, hg, hx, hx2, hc⟩ := HU.out.at_ hlt
      by_cases hxr : x ∈ r
      · have hd := hide (show decide (x ∈ r) = true by simpa using hxr)
        have hn3 := hide (show allIn (l.take (k + 1)) r = true by unfold allIn; rw [take_snoc_eq hx, List.all_append, show ((l.take k).all fun x => r.contains x) = true from HN.out]; simpa using hxr)
        clear hx hxr
        go_wp2_with fail
        refine (HB.out _ _ HV.out).mono ?_
        rintro e w1 ⟨rfl, rfl⟩
        rw [hd.out]
        go_wp2
        go_round
        case rel => exact ⟨k + 1, by omega, by go_num, hn3.out⟩
        case measure => simp [intOf]; omega
      · have hd := hide (show decide (x ∈ r) = false by simpa using hxr)
        have hn3 := hide (show allIn l r = false by
          unfold allIn; rw [List.all_eq_false]; exact ⟨x, List.mem_of_getElem? hx, by simpa using hxr⟩)
        clear hx hxr
        go_wp2_with fail
        refine (HB.out _ _ HV.out).mono ?_
        rintro e w1 ⟨rfl, rfl⟩
        rw [hd.out]
        go_wp2
        go_ret
        exact ⟨ret_bool hn3.out.symm, rfl⟩
    · obtain rfl : k = n := by omega
      have hf := hide (show allIn l r = true by
        have := HN.out
        rwa [List.take_of_length_le (by rw [HU.out.1]; exact Nat.le_refl _)] at this)
      go_wp2
      go_ret
      exact ⟨ret_bool hf.out.symm, rfl⟩
theorem reads_one {w : World} {g : Nat} {u : Value} (h : w.cell? ⟨g, 0, none⟩ = some u) : Reads w w.heap.size 1 (some ⟨g, 0, none⟩) 1 [u] :=
  ⟨rfl, fun _ => ⟨_, rfl, World.block_lt_of_cell? w _ h, fun j v hv => by
    cases j with
    | zero => cases hv; exact h
    | succ j => simp at hv⟩⟩
theorem reads_nil (w : World) (B size : Nat) (A : Option Addr) : Reads w B size A 0 [] := ⟨by simp, fun h => absurd h (by omega)⟩
theorem U32s.drop_ {w : World} {g o n c : Nat} {l : List Nat} (h : U32s w (some ⟨g, o, none⟩) n c l) {k : Nat} (hk : k < n) : Reads w w.heap.size 1 (some ⟨g, o + k, none⟩) (n - k) (u32c (l.drop k)) := by
  refine ⟨by simp [u32c, h.1], fun _ => ?_⟩
  obtain ⟨g', o', hA, hg, hc⟩ := h.2.2.2.2 (by omega)
  cases hA
  refine ⟨_, rfl, hg, fun j u hu => ?_⟩
  simp only [u32c, List.getElem?_map, Option.map_eq_some_iff, List.getElem?_drop] at hu
  obtain ⟨x, hx, rfl⟩ := hu
  have := hc (k + j) x hx
  rw [show (⟨g, o + k, none⟩ : Addr).add j = ⟨g, o + (k + j), none⟩ by unfold Addr.add; split <;> simp_all [Nat.add_assoc]]
  exact this
theorem Reads.keepB {w w' : World} {B size n : Nat} {A : Option Addr} {xs : List Value} (h : Reads w B size A n xs) (hb : Below B w w') : Reads w' B size A n xs := h.below hb
theorem putN_eq {l : List Nat} {x : Nat} (h : x ∉ l) : putN l x = l.take (lowN l x) ++ x :: l.drop (lowN l x) := by
  unfold putN lowN
  rw [if_neg (by simpa using h)]
  have e := List.takeWhile_append_dropWhile (p := fun y => decide (y < x)) (l := l)
  have h1 : l.take (l.takeWhile (fun y => decide (y < x))).length = l.takeWhile (fun y => decide (y < x)) := by
    have := congrArg (List.take (l.takeWhile (fun y => decide (y < x))).length) e
    rw [List.take_left' rfl] at this
    exact this.symm
  have h2 : l.drop (l.takeWhile (fun y => decide (y < x))).length = l.dropWhile (fun y => decide (y < x)) := by
    have := congrArg (List.drop (l.takeWhile (fun y => decide (y < x))).length) e
    rw [List.drop_left' rfl] at this
    exact this.symm
  rw [h1, h2]
theorem step_append_one {P : Program} {w : World} {ops : Array Oper} {o : Oper} {a : Act} {K : Act → World → Prop} {Q : Exit → Act → World → Prop} {E : Prop} (hgd : o.guard = none) (s x : Operand) (t : TypeId)
    (ho : o.op = .call { callee := .builtin .append, args := #[s, x], argTypes := #[t, t] })
    (base : Nat) (e : TypeId) (i : TypeInfo) (z : Value) (bytes : Nat) (ht : P.underlying t = some (.slice e)) (hi : P.info? e = some i) (hz : i.zero = some z)
    (hsize : i.size = 1) (hby : i.bytes = bytes) (hzs : z.cells.size = 1)
    (v : Value) (n : Nat) (xs : List Value) (hs : a.eval s = v) (hown : w.ownsRow base e 1 v n xs)
    (g c : Nat) (u : Value) (hx : a.eval x = .slice (some ⟨g, 0, none⟩) 1 c) (hc : w.cell? ⟨g, 0, none⟩ = some u) (h1 : u.oneCell' = true)
    (h63 : n + 1 ≤ maxLen) (hbytes : (n + 1) * bytes ≤ 140737488355328) (hbase : base ≤ w.heap.size)
    (h : ∀ v' w', w'.ownsRow base e 1 v' (n + 1) (xs ++ [u]) → w.grownBy w' v.ownBlock → (v'.ownBlock = v.ownBlock ∨ v'.ownBlock = some w.heap.size) → K (a.put o.dst v') w') :
    if Region.wanted o (yielded ops a.tmps) = true then Oper.wp P o a w K Q else E :=
  step_append_any w hgd s x t ho base e i z 1 bytes ht hi hz hsize hby hzs (by decide) v n xs hs hown w.heap.size (some ⟨g, 0, none⟩) 1 c [u] hx (reads_one hc) (by simpa using h1) h63 hbytes hbase h
theorem own_made0 (w : World) : (w.alloc (.cells #[] 46)).ownsRow w.heap.size 46 1 (.slice (some ⟨w.heap.size, 0, none⟩) 0 0) 0 [] := World.ownsRow_made _ _ _ (Nat.le_refl _) (by simp [maxLen]) (by simp)
theorem own_made1 (w : World) (o : Obj) : ((w.alloc o).alloc (.cells #[] 46)).ownsRow w.heap.size 46 1 (.slice (some ⟨w.heap.size + 1, 0, none⟩) 0 0) 0 [] := by
  have := World.ownsRow_made (base := w.heap.size) (e := 46) (size := 1) (w.alloc o) #[] 0 (by simp) (by simp [maxLen]) (by simp)
  simpa using this
theorem lowN_first : ∀ {l : List Nat} {x i : Nat}, i ≤ l.length → (∀ k y, k < i → l[k]? = some y → y < x) → (∀ y, l[i]? = some y → ¬ y < x) → lowN l x = i
  | [], x, i, h, _, _ => by simp [lowN]; simp at h; omega
  | z :: l, x, 0, h, h1, h2 => by
    have := h2 z rfl
    unfold lowN
    rw [List.takeWhile_cons_of_neg (by simpa using this)]; rfl
  | z :: l, x, i + 1, h, h1, h2 => by
    have := h1 0 z (by omega) rfl
    have ih := lowN_first (l := l) (x := x) (i := i) (by simp at h; omega) (fun k y hk hy => h1 (k + 1) y (by omega) (by simpa using hy)) (fun y hy => h2 y (by simpa using hy))
    unfold lowN at ih ⊢
    rw [List.takeWhile_cons_of_pos (by simpa using this), List.length_cons, ih]
theorem put_end {w3 : World} {base k m x : Nat} {v3 : Value} {l : List Nat} (hx : x < 4294967296) (hl : ∀ y ∈ l, y < 4294967296) (hp : putN l x = l.take (lowN l x) ++ x :: l.drop (lowN l x)) (hk : lowN l x = k) (hm : 0 < m)
    (h : w3.ownsRow base 46 1 v3 m ([] ++ u32c (l.take k) ++ [.int .u32 (x : Int)] ++ u32c (l.drop k))) : ∃ g3 c3, v3 = .slice (some ⟨g3, 0, none⟩) m c3 ∧ U32s w3 (some ⟨g3, 0, none⟩) m c3 (putN l x) := by
  obtain ⟨A, c3, rfl⟩ := own_slice h
  obtain ⟨g3, cap, hv, _, _⟩ := h.form hm
  cases hv
  have e : [] ++ u32c (l.take k) ++ [.int .u32 (x : Int)] ++ u32c (l.drop k) = u32c (putN l x) := by rw [hp, hk]; simp [u32c]
  rw [e] at h
  refine ⟨g3, _, rfl, U32s.of_own h fun y hy => ?_⟩
  rcases (putN_mem l x y).1 hy with rfl | hy
  · exact hx
  · exact hl y hy
set_option maxRecDepth 100000 in
set_option maxHeartbeats 4000000 in
theorem refPut_any (g o n c : Nat) (l : List Nat) (x : Nat) (hx : x < 4294967296) (w : World) (h : U32s w (some ⟨g, o, none⟩) n c l) (hn : n ≤ 100000) :
    Calls Tryz.prog 23 #[.slice (some ⟨g, o, none⟩) n c, .int .u32 x] w fun e w' => ∃ g' o' n' c', e = .returned (.slice (some ⟨g', o', none⟩) n' c') ∧ U32s w' (some ⟨g', o', none⟩) n' c' (putN l x) ∧ Below w.heap.size w w' := by
  have hm := h.2.2.1
  have hnc := h.2.1
  unfold maxLen at hm
  have HU := hide h
  by_cases hin : x ∈ l
  · have hd := hide (show decide (x ∈ l) = true by simpa using hin)
    have hp := hide (show putN l x = l by unfold putN; rw [if_pos (by simpa using hin)])
    clear h hin
    go_enter Tryz.func23, Tryz.ntmps23
    go_wp2_with fail
    refine (refHas_any _ _ _ _ x _ HU.out).mono ?_
    rintro e w1 ⟨rfl, rfl⟩
    rw [hd.out]
    go_wp2
    go_ret
    exact ⟨_, _, _, _, rfl, by rw [hp.out]; exact HU.out, Below.refl _ _⟩
  · have hd := hide (show decide (x ∈ l) = false by simpa using hin)
    have hp := hide (putN_eq hin)
    obtain ⟨i0, hi, hz0, hz1, hz2⟩ := info_parts info32
    clear h hin
    go_enter Tryz.func23, Tryz.ntmps23
    go_wp2_with fail
    refine (refHas_any _ _ _ _ x _ HU.out).mono ?_
    rintro e w1 ⟨rfl, rfl⟩
    rw [hd.out]
    go_wp2
    go_loop [5] (fun i => ∃ k : Nat, k ≤ n ∧ i = .int .i64 k ∧ ∀ j y, j < k → l[j]? = some y → y < x) (fun i => n - (intOf i).toNat)
    case atStart => exact ⟨0, Nat.zero_le _, rfl, by omega⟩
    case round =>
      obtain ⟨k, hk, rfl, hlow⟩ := hrel
      have HN := hide hlow
      clear hlow
      have hTK := (HU.out.take_ hk).reads
      have HTK := hide hTK
      have HBW := hide (Below.refl w.heap.size w)
      clear hTK
      by_cases hlt : k < n
      · obtain ⟨g', o', y, hA, hg, hy, hy2, hc⟩ := HU.out.at_ hlt
        cases hA
        have HY := hide hy
        clear hy
        have HDK := hide (HU.out.drop_ hlt)
        by_cases hyx : y < x
        · go_wp2
          go_round
          case rel => exact ⟨k + 1, by omega, by go_num, fun j z hj hz => by
            rcases Nat.lt_or_ge j k with h | h
            · exact HN.out j z h hz
            · obtain rfl : j = k := by omega
              have := Option.some.inj (hz.symm.trans HY.out); omega⟩
          case measure => simp [intOf]; omega
        · go_wp2
          have hi0 : (0 : Int) ≤ (k : Int) := by omega
          have hi1 : (k : Int) ≤ (n : Int) := by omega
          have hi2 : (k : Int) ≤ (c : Int) := by omega
          have hi3 : (k : Int) < (c : Int) := by omega
          have hi4 : ¬ c = k := by omega
          have HK : Hid (lowN l x = k) := hide (lowN_first (by rw [HU.out.1]; omega) HN.out (fun z hz => by have := Option.some.inj (hz.symm.trans HY.out); omega))
          have hi5 : (n : Int) ≤ (c : Int) := by omega
          go_region_law (first
            | (refine step_append_any _ (by rfl) (.tmp 24) (.tmp 27) 25 (by rfl) w.heap.size 46 i0 _ 1 4 Tryz.underlying25 hi hz0 hz1 hz2 rfl (by decide) _ 0 [] (by rfl) ?_ w.heap.size _ _ _ (u32c (l.take k)) (by rfl) ?_ (u32c_one _) ?_ ?_ ?_ ?_
               · first | exact (own_made0 w).drew | exact ((own_made0 w).alloc _).drew | exact (own_made1 w _).drew
               · exact HTK.out.keepB (by repeat (first | exact Below.refl _ _ | exact HBW.out | refine Below.drew ?_ | refine Below.alloc ?_ (by first | exact Nat.le_refl _ | (simp; done) | (simp; omega) | omega) _))
               · unfold maxLen; omega
               · omega
               · refine Below.size (?_ : Below w.heap.size w _); repeat (first | exact Below.refl _ _ | exact HBW.out | refine Below.drew ?_ | refine Below.alloc ?_ (by first | exact Nat.le_refl _ | (simp; done) | (simp; omega) | omega) _)
               intro v1 w1 hown1 hgrow1 _; have hbw1 : Below w.heap.size w w1 := (by refine Below.grown ?_ hgrow1 ?_ ?_; (repeat (first | exact Below.refl _ _ | exact HBW.out | refine Below.drew ?_ | refine Below.alloc ?_ (by first | exact Nat.le_refl _ | (simp; done) | (simp; omega) | omega) _)); (refine Below.size (?_ : Below w.heap.size w _); repeat (first | exact Below.refl _ _ | exact HBW.out | refine Below.drew ?_ | refine Below.alloc ?_ (by first | exact Nat.le_refl _ | (simp; done) | (simp; omega) | omega) _)); (intro k hk; cases hk; first | exact Nat.le_refl _ | exact Nat.le_succ _)); have HBW := hide hbw1; have HG1 := hide hgrow1; have HO1 := hide hown1; have hlw := hbw1.size; have hgs := hgrow1.size; clear hown1 hgrow1 hbw1)
            | (refine step_append_one (by rfl) (.tmp 28) (.tmp 30) 25 (by rfl) w.heap.size 46 i0 _ 4 Tryz.underlying25 hi hz0 hz1 hz2 rfl _ (0 + k) ([] ++ u32c (l.take k)) (by rfl) ?_ _ _ (.int .u32 (x : Int)) (by rfl) ?_ (by rfl) ?_ ?_ ?_ ?_
               · first | exact HO1.out | exact HO1.out.alloc _ | exact HO1.out.drew | exact (HO1.out.alloc _).drew
               · first | (simp; done) | (rw [HG1.out.cell_far _ (by show _ < (World.alloc _ _).heap.size; first | (simp; done) | (simp; omega)) (show some (w.heap.size + 1) ≠ some w.heap.size by simp)]; simp; done) | (rw [HG1.out.cell_far _ (by show _ < (World.alloc _ _).heap.size; first | (simp; done) | (simp; omega)) (show some w.heap.size ≠ some (w.heap.size + 1) by simp)]; simp; done)
               · unfold maxLen; omega
               · omega
               · refine Below.size (?_ : Below w.heap.size w _); repeat (first | exact Below.refl _ _ | exact HBW.out | refine Below.drew ?_ | refine Below.alloc ?_ (by first | exact Nat.le_refl _ | (simp; done) | (simp; omega) | omega) _)
               intro v2 w2 hown2 hgrow2 _; have hbw2 : Below w.heap.size w w2 := (by refine Below.grown ?_ hgrow2 ?_ ?_; (repeat (first | exact Below.refl _ _ | exact HBW.out | refine Below.drew ?_ | refine Below.alloc ?_ (by first | exact Nat.le_refl _ | (simp; done) | (simp; omega) | omega) _)); (refine Below.size (?_ : Below w.heap.size w _); repeat (first | exact Below.refl _ _ | exact HBW.out | refine Below.drew ?_ | refine Below.alloc ?_ (by first | exact Nat.le_refl _ | (simp; done) | (simp; omega) | omega) _)); (intro k hk; have := HO1.out.lt k hk; omega)); have HBW := hide hbw2; have HO2 := hide hown2; have hlw2 := hbw2.size; clear hown2 hgrow2 hbw2)
            | (refine step_append_any _ (by rfl) (.tmp 31) (.tmp 34) 25 (by rfl) w.heap.size 46 i0 _ 1 4 Tryz.underlying25 hi hz0 hz1 hz2 rfl (by decide) _ (0 + k + 1) ([] ++ u32c (l.take k) ++ [.int .u32 (x : Int)]) (by rfl) ?_ w.heap.size _ _ _ (u32c (l.drop k)) (by rfl) ?_ (u32c_one _) ?_ ?_ ?_ ?_
               · exact HO2.out
               · exact HDK.out.keepB (by repeat (first | exact Below.refl _ _ | exact HBW.out | refine Below.drew ?_ | refine Below.alloc ?_ (by first | exact Nat.le_refl _ | (simp; done) | (simp; omega) | omega) _))
               · unfold maxLen; omega
               · omega
               · refine Below.size (?_ : Below w.heap.size w _); repeat (first | exact Below.refl _ _ | exact HBW.out | refine Below.drew ?_ | refine Below.alloc ?_ (by first | exact Nat.le_refl _ | (simp; done) | (simp; omega) | omega) _)
               intro v3 w3 hown3 hgrow3 _; have hbw3 : Below w.heap.size w w3 := (by refine Below.grown ?_ hgrow3 ?_ ?_; (repeat (first | exact Below.refl _ _ | exact HBW.out | refine Below.drew ?_ | refine Below.alloc ?_ (by first | exact Nat.le_refl _ | (simp; done) | (simp; omega) | omega) _)); (refine Below.size (?_ : Below w.heap.size w _); repeat (first | exact Below.refl _ _ | exact HBW.out | refine Below.drew ?_ | refine Below.alloc ?_ (by first | exact Nat.le_refl _ | (simp; done) | (simp; omega) | omega) _)); (intro k hk; have := HO2.out.lt k hk; omega)); have HBW := hide hbw3; have HO3 := hide hown3; clear hown3 hgrow3 hbw3)
            | fail)
          all_goals
            obtain ⟨g3, c3, rfl, hu3⟩ := put_end hx HU.out.2.2.2.1 hp.out HK.out (by omega) HO3.out
            have HU3 := hide hu3
            clear hu3
            go_wp2
            go_ret
            exact ⟨g3, 0, _, c3, rfl, by simpa using HU3.out, HBW.out⟩
      · obtain rfl : k = n := by omega
        have HDK : Hid (∀ A, Reads w w.heap.size 1 A 0 (u32c (l.drop k))) := hide (fun A => by
          rw [List.drop_of_length_le (by rw [HU.out.1]; exact Nat.le_refl _)]; exact reads_nil _ _ _ _)
        have HK : Hid (lowN l x = k) := hide (lowN_first (by rw [HU.out.1]; exact Nat.le_refl _) HN.out (fun y hy => by
          have := (List.getElem?_eq_some_iff.1 hy).1; have := HU.out.1; omega))
        go_wp2
        have hi0 : (0 : Int) ≤ (k : Int) := by omega
        have hi2 : (k : Int) ≤ (c : Int) := by omega
        go_region_law (first
          | (refine step_append_any _ (by rfl) (.tmp 24) (.tmp 27) 25 (by rfl) w.heap.size 46 i0 _ 1 4 Tryz.underlying25 hi hz0 hz1 hz2 rfl (by decide) _ 0 [] (by rfl) ?_ w.heap.size _ _ _ (u32c (l.take k)) (by rfl) ?_ (u32c_one _) ?_ ?_ ?_ ?_
             · first | exact (own_made0 w).drew | exact ((own_made0 w).alloc _).drew | exact (own_made1 w _).drew
             · exact HTK.out.keepB (by repeat (first | exact Below.refl _ _ | exact HBW.out | refine Below.drew ?_ | refine Below.alloc ?_ (by first | exact Nat.le_refl _ | (simp; done) | (simp; omega) | omega) _))
             · unfold maxLen; omega
             · omega
             · refine Below.size (?_ : Below w.heap.size w _); repeat (first | exact Below.refl _ _ | exact HBW.out | refine Below.drew ?_ | refine Below.alloc ?_ (by first | exact Nat.le_refl _ | (simp; done) | (simp; omega) | omega) _)
             intro v1 w1 hown1 hgrow1 _; have hbw1 : Below w.heap.size w w1 := (by refine Below.grown ?_ hgrow1 ?_ ?_; (repeat (first | exact Below.refl _ _ | exact HBW.out | refine Below.drew ?_ | refine Below.alloc ?_ (by first | exact Nat.le_refl _ | (simp; done) | (simp; omega) | omega) _)); (refine Below.size (?_ : Below w.heap.size w _); repeat (first | exact Below.refl _ _ | exact HBW.out | refine Below.drew ?_ | refine Below.alloc ?_ (by first | exact Nat.le_refl _ | (simp; done) | (simp; omega) | omega) _)); (intro k hk; cases hk; first | exact Nat.le_refl _ | exact Nat.le_succ _)); have HBW := hide hbw1; have HG1 := hide hgrow1; have HO1 := hide hown1; have hlw := hbw1.size; have hgs := hgrow1.size; clear hown1 hgrow1 hbw1)
          | (refine step_append_one (by rfl) (.tmp 28) (.tmp 30) 25 (by rfl) w.heap.size 46 i0 _ 4 Tryz.underlying25 hi hz0 hz1 hz2 rfl _ (0 + k) ([] ++ u32c (l.take k)) (by rfl) ?_ _ _ (.int .u32 (x : Int)) (by rfl) ?_ (by rfl) ?_ ?_ ?_ ?_
             · first | exact HO1.out | exact HO1.out.alloc _ | exact HO1.out.drew | exact (HO1.out.alloc _).drew
             · first | (simp; done) | (rw [HG1.out.cell_far _ (by show _ < (World.alloc _ _).heap.size; first | (simp; done) | (simp; omega)) (show some (w.heap.size + 1) ≠ some w.heap.size by simp)]; simp; done) | (rw [HG1.out.cell_far _ (by show _ < (World.alloc _ _).heap.size; first | (simp; done) | (simp; omega)) (show some w.heap.size ≠ some (w.heap.size + 1) by simp)]; simp; done)
             · unfold maxLen; omega
             · omega
             · refine Below.size (?_ : Below w.heap.size w _); repeat (first | exact Below.refl _ _ | exact HBW.out | refine Below.drew ?_ | refine Below.alloc ?_ (by first | exact Nat.le_refl _ | (simp; done) | (simp; omega) | omega) _)
             intro v2 w2 hown2 hgrow2 _; have hbw2 : Below w.heap.size w w2 := (by refine Below.grown ?_ hgrow2 ?_ ?_; (repeat (first | exact Below.refl _ _ | exact HBW.out | refine Below.drew ?_ | refine Below.alloc ?_ (by first | exact Nat.le_refl _ | (simp; done) | (simp; omega) | omega) _)); (refine Below.size (?_ : Below w.heap.size w _); repeat (first | exact Below.refl _ _ | exact HBW.out | refine Below.drew ?_ | refine Below.alloc ?_ (by first | exact Nat.le_refl _ | (simp; done) | (simp; omega) | omega) _)); (intro k hk; have := HO1.out.lt k hk; omega)); have HBW := hide hbw2; have HO2 := hide hown2; have hlw2 := hbw2.size; clear hown2 hgrow2 hbw2)
          | (refine step_append_any _ (by rfl) (.tmp 31) (.tmp 34) 25 (by rfl) w.heap.size 46 i0 _ 1 4 Tryz.underlying25 hi hz0 hz1 hz2 rfl (by decide) _ (0 + k + 1) ([] ++ u32c (l.take k) ++ [.int .u32 (x : Int)]) (by rfl) ?_ w.heap.size _ _ _ (u32c (l.drop k)) (by rfl) ?_ (u32c_one _) ?_ ?_ ?_ ?_
             · exact HO2.out
             · exact (HDK.out _).keepB (by repeat (first | exact Below.refl _ _ | exact HBW.out | refine Below.drew ?_ | refine Below.alloc ?_ (by first | exact Nat.le_refl _ | (simp; done) | (simp; omega) | omega) _))
             · unfold maxLen; omega
             · omega
             · refine Below.size (?_ : Below w.heap.size w _); repeat (first | exact Below.refl _ _ | exact HBW.out | refine Below.drew ?_ | refine Below.alloc ?_ (by first | exact Nat.le_refl _ | (simp; done) | (simp; omega) | omega) _)
             intro v3 w3 hown3 hgrow3 _; have hbw3 : Below w.heap.size w w3 := (by refine Below.grown ?_ hgrow3 ?_ ?_; (repeat (first | exact Below.refl _ _ | exact HBW.out | refine Below.drew ?_ | refine Below.alloc ?_ (by first | exact Nat.le_refl _ | (simp; done) | (simp; omega) | omega) _)); (refine Below.size (?_ : Below w.heap.size w _); repeat (first | exact Below.refl _ _ | exact HBW.out | refine Below.drew ?_ | refine Below.alloc ?_ (by first | exact Nat.le_refl _ | (simp; done) | (simp; omega) | omega) _)); (intro k hk; have := HO2.out.lt k hk; omega)); have HBW := hide hbw3; have HO3 := hide hown3; clear hown3 hgrow3 hbw3)
          | fail)
        all_goals
          obtain ⟨g3, c3, rfl, hu3⟩ := put_end hx HU.out.2.2.2.1 hp.out HK.out (by omega) HO3.out
          have HU3 := hide hu3
          clear hu3
          go_wp2
          all_goals
            go_ret
            exact ⟨g3, 0, _, c3, rfl, by simpa using HU3.out, HBW.out⟩
end Go.Proofs.YtpgffbomlmmncaaGreatDoor
set_option linter.unusedSimpArgs false
set_option linter.unusedVariables false
namespace Go.Proofs.YtpgffbomlmmncaaGreatDoor
open Go.RowKit
theorem u32c_snoc (l : List Nat) (x : Nat) : u32c (l ++ [x]) = u32c l ++ [.int .u32 (x : Int)] := by simp [u32c]
theorem own_set {w : World} {base e size n g i : Nat} {v : Value} {xs : List Value} (h : w.ownsRow base e size v n xs) (hne : v.ownBlock ≠ some g) (u : Value) : (w.setCell ⟨g, i, none⟩ u).ownsRow base e size v n xs :=
  h.kept (only_setCell (World.grownBy.refl w (some g)) (p := ⟨g, i, none⟩) (.inl rfl) u) (.inr hne)
/-- A slice of numbers below a block. -/
def U32lo (B : Nat) (w : World) (A : Option Addr) (n c : Nat) (l : List Nat) : Prop := U32s w A n c l ∧ (0 < n → ∃ g o, A = some ⟨g, o, none⟩ ∧ g < B)
theorem U32lo.start {w : World} {A : Option Addr} {n c : Nat} {l : List Nat} (h : U32s w A n c l) : U32lo w.heap.size w A n c l :=
  ⟨h, fun hn => by obtain ⟨g, o, hA, hg, _⟩ := h.2.2.2.2 hn; exact ⟨g, o, hA, hg⟩⟩
theorem U32lo.keep {B : Nat} {w w' : World} {A : Option Addr} {n c : Nat} {l : List Nat} (h : U32lo B w A n c l) (hb : Below B w w') : U32lo B w' A n c l := by
  refine ⟨⟨h.1.1, h.1.2.1, h.1.2.2.1, h.1.2.2.2.1, fun hn => ?_⟩, h.2⟩
  obtain ⟨g, o, hA, hg, hc⟩ := h.1.2.2.2.2 hn
  obtain ⟨g', o', hA', hg'⟩ := h.2 hn
  rw [hA] at hA'
  cases hA'
  exact ⟨g, o, hA, Nat.lt_of_lt_of_le hg hb.size, fun k x hk => (hb.cell (by exact hg')).trans (hc k x hk)⟩
theorem U32lo.tail {B : Nat} {w : World} {g o n c x : Nat} {l : List Nat} (h : U32lo B w (some ⟨g, o, none⟩) n c (x :: l)) (A' : Option Addr) (hA : 1 < n → A' = some ⟨g, o + 1, none⟩) : U32lo B w A' (n - 1) (c - 1) l := by
  have hl := h.1.1
  simp at hl
  have hc := h.1.2.1
  have hm := h.1.2.2.1
  unfold maxLen at hm
  refine ⟨⟨by omega, by omega, by unfold maxLen; omega, fun y hy => h.1.2.2.2.1 y (by simp [hy]), fun hn => ?_⟩, fun hn => ?_⟩
  · obtain ⟨g', o', hA', hg, hcell⟩ := h.1.2.2.2.2 (by omega)
    cases hA'
    exact ⟨g, o + 1, hA (by omega), hg, fun k y hk => by rw [Nat.add_assoc]; exact hcell (1 + k) y (by rw [Nat.add_comm]; simpa using hk)⟩
  · obtain ⟨g', o', hA', hg⟩ := h.2 (by omega)
    cases hA'
    exact ⟨g, o + 1, hA (by omega), hg⟩
theorem U32lo.head {B : Nat} {w : World} {A : Option Addr} {n c x : Nat} {l : List Nat} (h : U32lo B w A n c (x :: l)) : ∃ g o, A = some ⟨g, o, none⟩ ∧ g < B ∧ x < 4294967296 ∧ w.cell? ⟨g, o, none⟩ = some (.int .u32 (x : Int)) ∧ 1 ≤ n := by
  have hl := h.1.1
  simp at hl
  obtain ⟨g, o, hA, hg, hcell⟩ := h.1.2.2.2.2 (by omega)
  obtain ⟨g', o', hA', hg'⟩ := h.2 (by omega)
  rw [hA] at hA'
  cases hA'
  exact ⟨g, o, hA, hg', h.1.2.2.2.1 x (by simp), by simpa using hcell 0 x rfl, by omega⟩
end Go.Proofs.YtpgffbomlmmncaaGreatDoor
set_option linter.unusedSimpArgs false
set_option linter.unusedVariables false
namespace Go.Proofs.YtpgffbomlmmncaaGreatDoor
open Go.RowKit
theorem setOf_snoc (l : List Nat) (x : Nat) : setOf (l ++ [x]) = putN (setOf l) x := by simp [setOf, List.foldl_append]
set_option maxRecDepth 100000 in
set_option maxHeartbeats 2000000 in
theorem refSet_any (A : Option Addr) (n c : Nat) (l : List Nat) (w : World) (h : U32s w A n c l) (hn : n ≤ 10000) :
    Calls Tryz.prog 6 #[.slice A n c] w fun e w' => ∃ g' o' n' c', e = .returned (.slice (some ⟨g', o', none⟩) n' c') ∧ U32s w' (some ⟨g', o', none⟩) n' c' (setOf l) ∧ Below w.heap.size w w' := by
  have HA := hide (U32lo.start h)
  have hm := h.2.2.1
  have hnc := h.2.1
  unfold maxLen at hm
  have HS : Hid (U32s (w.alloc (.cells #[] 46)) (some ⟨w.heap.size, 0, none⟩) 0 0 (setOf [])) := hide ⟨rfl, by omega, by simp [maxLen], by simp [setOf], fun h => by omega⟩
  clear h
  go_enter Tryz.func6, Tryz.ntmps6
  go_wp2
  go_loopw [3, 4] (fun v i wr => ∃ k g' o' n' c', k ≤ n ∧ i = .int .i64 (k : Nat) ∧ v = .slice (some ⟨g', o', none⟩) n' c' ∧ U32s wr (some ⟨g', o', none⟩) n' c' (setOf (l.take k)) ∧ Below w.heap.size w wr) (fun _ i _ => n - (intOf i).toNat)
  case atStart => exact ⟨0, w.heap.size, 0, 0, 0, by omega, rfl, rfl, by simpa using HS.out, (Below.refl _ _).alloc (Nat.le_refl _) _⟩
  case round =>
    obtain ⟨k, g', o', n', c', hk, rfl, rfl, hu, hb⟩ := hrel
    have HU := hide hu
    have HB := hide hb
    have HA2 := hide (HA.out.keep hb)
    clear hu hb
    by_cases hlt : k < n
    · obtain ⟨g, o, x, rfl, hg, hx, hx2, hc⟩ := HA2.out.1.at_ hlt
      have hsn := hide (show setOf (l.take (k + 1)) = putN (setOf (l.take k)) x by rw [take_snoc_eq hx, setOf_snoc])
      have hlen : n' ≤ 100000 := by
        have h1 := HU.out.1
        have h2 := setOf_len (l.take k)
        have h3 : (l.take k).length ≤ k := List.length_take_le _ _
        omega
      have HP := hide (refPut_any g' o' n' c' (setOf (l.take k)) x hx2 wr HU.out hlen)
      clear hx
      go_wp2_with fail
      refine HP.out.mono ?_
      rintro e w2 ⟨g2, o2, n2, c2, rfl, hu2, hb2⟩
      rw [← hsn.out] at hu2
      have HU2 := hide hu2
      have HB2 := hide (HB.out.trans (hb2.mono HB.out.size))
      clear hu2 hb2
      go_wp2
      go_roundw
      case rel => exact ⟨k + 1, g2, o2, n2, c2, by omega, by go_num, rfl, HU2.out, HB2.out⟩
      case measure => simp [intOf]; omega
    · obtain rfl : k = n := by omega
      have HF : Hid (U32s wr (some ⟨g', o', none⟩) n' c' (setOf l)) := hide (by
        have := HU.out
        rwa [List.take_of_length_le (by rw [HA2.out.1.1]; exact Nat.le_refl _)] at this)
      go_wp2
      go_ret
      exact ⟨g', o', n', c', rfl, HF.out, HB.out⟩
end Go.Proofs.YtpgffbomlmmncaaGreatDoor
set_option linter.unusedSimpArgs false
set_option linter.unusedVariables false
namespace Go.Proofs.YtpgffbomlmmncaaGreatDoor
open Go.RowKit
/-- Across a round the captured blocks lie as they lay. -/
structure KpR (b0 b1 : Nat) (A B : World) : Prop where
  size : A.heap.size ≤ B.heap.size
  same : ∀ k, b0 ≤ k → k < b1 → B.heap[k]? = A.heap[k]?
theorem KpR.refl (b0 b1 : Nat) (A : World) : KpR b0 b1 A A := ⟨Nat.le_refl _, fun _ _ _ => rfl⟩
theorem KpR.trans {b0 b1 : Nat} {A B C : World} (h : KpR b0 b1 A B) (k : KpR b0 b1 B C) : KpR b0 b1 A C :=
  ⟨Nat.le_trans h.size k.size, fun i h0 h1 => (k.same i h0 h1).trans (h.same i h0 h1)⟩
theorem KpR.put {b0 b1 : Nat} (A : World) {l : Nat} (o : Obj) (hl : b1 ≤ l) : KpR b0 b1 A (A.putObj l o) :=
  ⟨by simp, fun k _ h1 => World.putObj_heap_other (by omega)⟩
theorem KpR.alloc {b0 b1 : Nat} (A : World) (o : Obj) (hl : b1 ≤ A.heap.size) : KpR b0 b1 A (A.alloc o) :=
  ⟨by simp, fun k _ h1 => Below.heap_alloc A o k (by omega)⟩
theorem KpR.of_below {b0 b1 n0 : Nat} {A B : World} (h : Below n0 A B) (hs : A.heap.size ≤ B.heap.size) (hl : b1 ≤ n0) : KpR b0 b1 A B :=
  ⟨hs, fun k _ h1 => h.block k (by omega)⟩
/-- An invariant that the iterator's own steps leave: new blocks, and stores into its own block. -/
def AbB {β : Type} (b0 : Nat) (J : β → World → Prop) : Prop :=
  ∀ s A B, J s A → A.grownBy B (some b0) → J s B
/-- An invariant that the loop's own steps leave too: its record and the block of deferred calls, which lie from 'lo' on. -/
def AbO {β : Type} (lo b0 : Nat) (I : β → World → Prop) : Prop :=
  ∀ s A B row, I s A → A.grownBy B row → (∀ r, row = some r → r = b0 ∨ (lo ≤ r ∧ ∃ o : Obj, A.heap[r]? = some o ∧ o.isCells = false)) → I s B
theorem AbO.put {β : Type} {lo b0 : Nat} {I : β → World → Prop} (h : AbO lo b0 I) {s : β} {A : World} {l : Nat} {o : Obj} (o' : Obj) (hs : I s A) (hlo : lo ≤ l) (hl : A.heap[l]? = some o) (ho : o.isCells = false) : I s (A.putObj l o') :=
  h s A _ (some l) hs (grownBy_putObj' A l o') (fun r e => by cases e; exact .inr ⟨hlo, o, hl, ho⟩)
/-- What the iterator promises, of the elements 'xs' in order. -/
def SeqCell {α : Type} (F : Fence) (n : Nat) (P : Program) (g : Nat) (lb : Array Value) (encs : α → Array Value) (b0 b1 : Nat) (xs : List α) (l : Nat) (W : World) : Prop :=
  ∀ (J Jx : List α → World → Prop), AbB b0 J → AbB b0 Jx →
    (∀ pre x post W1, pre ++ x :: post = xs → J pre W1 → YieldAt F (n - 1) P l (encs x) W1 fun e W' =>
      (e = .returned (.bool true) ∧ J (pre ++ [x]) W' ∧ KpR b0 b1 W1 W') ∨ (e = .returned (.bool false) ∧ Jx (pre ++ [x]) W')) →
    J [] W →
    CallsIn F n P g (#[.func (.yield l) #[] #[]] ++ lb) W fun e W' => (∃ v, e = .returned v) ∧ (J xs W' ∨ ∃ pre x post, pre ++ x :: post = xs ∧ Jx (pre ++ [x]) W')
/-- How a round's body is left. -/
def cellPost {α : Type} (lo b0 b1 : Nat) (I : List α → World → Prop) (Ix : Code → List α → World → Prop) (xs : List α) (W : World) : Exit → Act → World → Prop
  | .normal, _, W' => KeepsFrom lo W W' ∧ KpR b0 b1 W W' ∧ I xs W'
  | .ret, _, W' => KeepsFrom lo W W' ∧ Ix .ret xs W'
  | .exit id, _, W' => KeepsFrom lo W W' ∧ Ix (.exit id) xs W'
  | .goto t, _, W' => KeepsFrom lo W W' ∧ Ix (.goto t) xs W'
  | .panic _, _, _ => False
  | .outgrown, _, _ => False
theorem wpIn_rangeFunc_cell {F : Fence} {n : Nat} {P : Program} {α : Type} {g : Operand} {ps : Array Tmp} {assign body : Code} {Q : Exit → Act → World → Prop} {a : Act} {w : World}
    (hro : F.round = none) (h1 : 1 ≤ n) {gf : Nat} {lb : Array Value} (hg : a.eval g = .func (.func gf) #[] lb) (hFg : F.fn gf) (eg : ∀ args w, (callFunc gf args).run P w = .ok (.enter gf args) w)
    {encs : α → Array Value} {b0 b1 : Nat} (hb01 : b0 < b1) (hb1 : b1 ≤ w.heap.size) {xs : List α} (hseq : ∀ l W, KpR b0 b1 w W → SeqCell F (n - 1) P gf lb encs b0 b1 xs l W) (hps : ∀ x, (encs x).size = ps.size)
    (I : List α → World → Prop) (Ix : Code → List α → World → Prop) (hI : AbO w.heap.size b0 I) (hIx : ∀ c, AbO w.heap.size b0 (Ix c)) (h0 : I [] w) (a1 : α → Act)
    (hassign : ∀ (l : Nat) (x : α) (W : World) (K : Act → World → Prop), K (a1 x) W →
      assign.wpIn (F.inRound l) (n - 1 - 1) P (Exit.then K (fun _ _ _ => False)) { tmps := (ps.zip (encs x)).foldl (fun t (p, v) => t.setIfInBounds p v) a.tmps, defers := [] } W)
    (hbody : ∀ (l : Nat) (pre : List α) (x : α) (post : List α) (W : World), pre ++ x :: post = xs → I pre W → body.wpIn (F.inRound l) (n - 1 - 1) P (cellPost w.heap.size b0 b1 I Ix (pre ++ [x]) W) (a1 x) W)
    (hdone : ∀ (D : Nat) (W : World), w.heap.size ≤ D → I xs W → W.heap[D]? = some (.deferred (some [])) → Q .normal { a with defers := { target := .collected D, args := #[] } :: a.defers } W)
    (hstop : ∀ (D : Nat) (c : Code) (pre : List α) (x : α) (post : List α) (W : World), w.heap.size ≤ D → pre ++ x :: post = xs → Ix c (pre ++ [x]) W → W.heap[D]? = some (.deferred (some [])) → c.wpIn F n P Q { a with defers := { target := .collected D, args := #[] } :: a.defers } W) :
    (Code.rangeFunc g ps assign body).wpIn F n P Q a w := by
  apply wpIn_rangeFunc
  intro fn hfn
  rw [hro]
  -- the record, in each of its states; the two blocks that the statement lays
  let R : LoopState → Option Code → Obj := fun st pe => .loop { state := st, pending := pe, fn, tmps := a.tmps, params := ps, assign, body, defers := w.heap.size }
  let dl := w.heap.size
  let rl := w.heap.size + 1
  have hlaid : ∃ W1, (w.alloc (.deferred (some []))).alloc (R .ready none) = W1 ∧ W1.heap[rl]? = some (R .ready none) ∧ W1.heap[dl]? = some (.deferred (some [])) ∧ I [] W1 ∧ KpR b0 b1 w W1 := by
    refine ⟨_, rfl, ?_, ?_, ?_, ?_⟩
    · have := World.alloc_heap_new (w.alloc (.deferred (some []))) (R .ready none)
      rwa [World.size_alloc] at this
    · exact (Below.heap_alloc _ _ _ (by simp [dl])).trans (World.alloc_heap_new w _)
    · exact hI _ _ _ none (hI _ _ _ none h0 (World.grownBy_alloc w _ none) (by simp)) (World.grownBy_alloc _ _ none) (by simp)
    · exact (KpR.alloc w _ hb1).trans (KpR.alloc _ _ (by simp; omega))
  obtain ⟨W1, hW1, hr1, hd1, hi1, hk1⟩ := hlaid
  refine ⟨rl, [{ target := .collected dl, args := #[] }], W1, { target := .fn (.func gf) lb, args := #[.func (.yield rl) #[] #[]] }, W1, gf,
    #[.func (.yield rl) #[] #[]] ++ lb, W1, ?_, ?_, ?_, ?_, fun _ => h1, ?_⟩
  · rw [← hW1]; exact run_enterLoop_outer _ _ _ _ _
  · simp only [resolve, hg]
    simp [go_sem]
  · intro f' hf'; simp [Target.leads] at hf'; subst hf'; exact hFg
  · simp [invoke, go_sem, eg]
  -- a block of the loop's own, through a store into the iterator's block
  have hold : ∀ {A B : World} {k : Nat} {o : Obj}, w.heap.size ≤ k → A.grownBy B (some b0) → A.heap[k]? = some o → B.heap[k]? = some o := by
    intro A B k o hk hgr ho
    exact (hgr.block k (Array.getElem?_eq_some_iff.1 ho).1 (by simp; omega)).trans ho
  have hab : ∀ {I : List α → World → Prop}, AbO w.heap.size b0 I → ∀ s A B, I s A → A.grownBy B (some b0) → I s B := fun h s A B hs hgr => h s A B _ hs hgr (fun r e => .inl (by cases e; rfl))
  refine (hseq rl W1 hk1
    (fun pre W => I pre W ∧ W.heap[rl]? = some (R .ready none) ∧ W.heap[dl]? = some (.deferred (some [])))
    (fun pre W => ∃ c, Ix c pre W ∧ W.heap[rl]? = some (R .done (some c)) ∧ W.heap[dl]? = some (.deferred (some [])))
    (fun s A B hs hgr => ⟨hab hI s A B hs.1 hgr, hold (by simp [rl]) hgr hs.2.1, hold (by simp [dl]) hgr hs.2.2⟩)
    (fun s A B hs hgr => by
      obtain ⟨c, hc, hl, hd⟩ := hs
      exact ⟨c, hab (hIx c) s A B hc hgr, hold (by simp [rl]) hgr hl, hold (by simp [dl]) hgr hd⟩)
    ?_ ⟨hi1, hr1, hd1⟩).mono ?_
  · -- one round
    rintro pre x post W hx ⟨hi, hl, hd⟩
    have hlt : rl < W.heap.size := (Array.getElem?_eq_some_iff.1 hl).1
    refine ⟨fn, _, assign, body, run_yield (P := P) (args := encs x) hl (hps x), roundIn_of_wpIn hfn (hassign _ x W _ ⟨_, run_beginRound hl rfl, ?_⟩)⟩
    have hlb : (W.putObj rl (R .busy none)).heap[rl]? = some (R .busy none) := World.putObj_heap_same hlt
    have hdb : (W.putObj rl (R .busy none)).heap[dl]? = some (.deferred (some [])) := (World.putObj_heap_other (by simp [rl, dl])).trans hd
    refine wpIn_mono (hbody rl pre x post _ hx (hI.put _ hi (by simp [rl]) hl rfl)) ?_
    have fin : ∀ (jump : Option Code) (W3 : World), KeepsFrom w.heap.size (W.putObj rl (R .busy none)) W3 →
        (Instr.endRound rl jump).run P W3 = .ok (.bool jump.isNone) (W3.putObj rl (R (if jump.isNone then .ready else .done) jump)) ∧
        W3.heap[rl]? = some (R .busy none) ∧
        (W3.putObj rl (R (if jump.isNone then .ready else .done) jump)).heap[rl]? = some (R (if jump.isNone then .ready else .done) jump) ∧
        (W3.putObj rl (R (if jump.isNone then .ready else .done) jump)).heap[dl]? = some (.deferred (some [])) := by
      intro jump W3 hk3
      have hl3 := hk3.same _ _ (by simp [rl]) hlb rfl
      exact ⟨run_endRound (P := P) jump hl3, hl3, World.putObj_heap_same (Array.getElem?_eq_some_iff.1 hl3).1, (World.putObj_heap_other (by simp [rl, dl])).trans (hk3.same _ _ (by simp [dl]) hdb rfl)⟩
    rintro e a3 W3 hp
    cases e with
    | normal =>
      obtain ⟨hk3, hkp3, hi3⟩ := hp
      obtain ⟨hr, hl3, hl4, hd4⟩ := fin none W3 hk3
      exact ⟨_, _, hr, .inl ⟨rfl, ⟨hI.put _ hi3 (by simp [rl]) hl3 rfl, hl4, hd4⟩, ((KpR.put W _ (by simp [rl]; omega)).trans hkp3).trans (KpR.put _ _ (by simp [rl]; omega))⟩⟩
    | ret =>
      obtain ⟨hk3, hi3⟩ := hp
      obtain ⟨hr, hl3, hl4, hd4⟩ := fin (some .ret) W3 hk3
      exact ⟨_, _, hr, .inr ⟨rfl, .ret, (hIx _).put _ hi3 (by simp [rl]) hl3 rfl, hl4, hd4⟩⟩
    | exit id =>
      obtain ⟨hk3, hi3⟩ := hp
      obtain ⟨hr, hl3, hl4, hd4⟩ := fin (some (.exit id)) W3 hk3
      exact ⟨_, _, hr, .inr ⟨rfl, .exit id, (hIx _).put _ hi3 (by simp [rl]) hl3 rfl, hl4, hd4⟩⟩
    | goto t =>
      obtain ⟨hk3, hi3⟩ := hp
      obtain ⟨hr, hl3, hl4, hd4⟩ := fin (some (.goto t)) W3 hk3
      exact ⟨_, _, hr, .inr ⟨rfl, .goto t, (hIx _).put _ hi3 (by simp [rl]) hl3 rfl, hl4, hd4⟩⟩
    | panic ch => exact hp.elim
    | outgrown => exact hp.elim
  · -- behind the iterator
    rintro e W2 ⟨⟨v, rfl⟩, (⟨hi, hl, hd⟩ | ⟨pre, x, post, hx, c, hi, hl, hd⟩)⟩
    · exact ⟨none, _, run_endLoop (P := P) hl (by simp), hdone _ _ (Nat.le_refl _) (hI.put _ hi (by simp [rl]) hl rfl) ((World.putObj_heap_other (by simp [rl, dl])).trans hd)⟩
    · exact ⟨some c, _, run_endLoop (P := P) hl (by simp), hstop _ c pre x post _ (Nat.le_refl _) hx ((hIx c).put _ hi (by simp [rl]) hl rfl) ((World.putObj_heap_other (by simp [rl, dl])).trans hd)⟩
/-- The pieces of a text that a byte parts. -/
def pieces (c : UInt8) : List UInt8 → List (List UInt8)
  | [] => [[]]
  | x :: l => if x = c then [] :: pieces c l else ((x :: (pieces c l).headD []) :: (pieces c l).tail)
theorem pieces_ne (c : UInt8) (l : List UInt8) : pieces c l ≠ [] := by
  cases l with
  | nil => simp [pieces]
  | cons x l => unfold pieces; split <;> simp
theorem pieces_step (c : UInt8) : ∀ l : List UInt8,
    (Lib.indexByte l c = -1 ∧ pieces c l = [l]) ∨
    ∃ i : Nat, Lib.indexByte l c = (i : Int) ∧ i < l.length ∧ pieces c l = l.take i :: pieces c (l.drop (i + 1))
  | [] => .inl ⟨rfl, rfl⟩
  | x :: l => by
    by_cases hx : x = c
    · refine .inr ⟨0, ?_, by simp, ?_⟩
      · simp [Lib.indexByte, hx]
      · simp [pieces, hx]
    · have hb : (x == c) = false := by simp [hx]
      rcases pieces_step c l with ⟨h, hp⟩ | ⟨i, h, hi, hp⟩
      · refine .inl ⟨?_, ?_⟩
        · unfold Lib.indexByte; rw [hb, h]; rfl
        · conv => lhs; unfold pieces
          rw [if_neg hx, hp]; rfl
      · refine .inr ⟨i + 1, ?_, by simp; omega, ?_⟩
        · have hn : ((i : Int) == -1) = false := by simp
          unfold Lib.indexByte; rw [hb, h, hn]; rfl
        · conv => lhs; unfold pieces
          rw [if_neg hx, hp]; rfl
theorem str_cut (l : List UInt8) (i : Nat) : (str l).extract 0 i = str (l.take i) := by
  rw [Lib.Pa.extract_upto, str_data]; rfl
theorem str_rest (l : List UInt8) (i : Nat) : (str l).extract i (str l).size = str (l.drop i) := by
  rw [Lib.Pa.extract_from, str_data]; rfl
/-- The size of the text in a cell, for a measure. -/
def cellStr (w : World) (p : Addr) : Nat := match w.cell? p with | some (.string s) => s.size + 1 | _ => 0
theorem cellStr_of {w : World} {p : Addr} {s : ByteArray} (h : w.cell? p = some (.string s)) : cellStr w p = s.size + 1 := by simp [cellStr, h]
theorem idx_one (l : List UInt8) (c : UInt8) (w : World) : Calls Tryz.prog 76 #[.string (str l), .string ⟨#[c]⟩] w fun e w' => e = .returned (.int .i64 (Lib.indexByte l c)) ∧ w' = w := by
  have h := Tryz.strings_Index_one (str l) c w
  rw [str_data] at h
  exact h
theorem KpR.blk {b0 b1 : Nat} {A B : World} (h : KpR b0 b1 A B) {g : Nat} {t : TypeId} {cs : Array Value} (h0 : b0 ≤ g) (h1 : g < b1) (hb : Blk A g t cs) : Blk B g t cs := (h.same g h0 h1).trans hb
theorem splitSeq1_in (n : Nat) (hn : 1 ≤ n) (l b0 : Nat) (c : UInt8) (s : List UInt8) (hs : s.length < 1000000) (xs : List (List UInt8)) (hxs : pieces c s = xs) (W : World)
    (h0 : Blk W b0 9 #[.string (str s)]) (h1 : Blk W (b0 + 1) 9 #[.string ⟨#[c]⟩]) (h2 : Blk W (b0 + 2) 3 #[.int .i64 0]) :
    SeqCell Fence.wide n Tryz.prog 93 #[.pointer (some ⟨b0 + 1, 0, none⟩), .pointer (some ⟨b0, 0, none⟩), .pointer (some ⟨b0 + 2, 0, none⟩)] (fun x : List UInt8 => #[.string (str x)]) b0 (b0 + 3) xs l W := by
  intro J Jx hJ hJx hY hJ0
  show CallsIn Fence.wide n Tryz.prog 93 #[.func (.yield l) #[] #[], .pointer (some ⟨b0 + 1, 0, none⟩), .pointer (some ⟨b0, 0, none⟩), .pointer (some ⟨b0 + 2, 0, none⟩)] W _
  refine callsIn_of_wp Tryz.func93 rfl trivial ?_ rfl
  simp only [Tryz.ntmps93, List.size_toArray, List.length_cons, List.length_nil, Nat.reduceAdd, Nat.reduceSub, Array.replicate_succ, Array.replicate_zero, List.push_toArray, List.append_toArray, List.nil_append, List.cons_append]
  have c1 := h1.cell 0
  gi_wp2
  gi_loopw [] (fun wr => ∃ (pre : List (List UInt8)) (r : List UInt8), pre ++ pieces c r = xs ∧ r.length < 1000000 ∧ J pre wr ∧ Blk wr b0 9 #[.string (str r)] ∧ Blk wr (b0 + 1) 9 #[.string ⟨#[c]⟩] ∧ Blk wr (b0 + 2) 3 #[.int .i64 0])
    (fun wr => cellStr wr ⟨b0, 0, none⟩)
  case atStart => exact ⟨[], s, hxs, hs, hJ0, h0, h1, h2⟩
  case round =>
    obtain ⟨pre, r, hx, hr, hj, k0, k1, k2⟩ := hrel
    have d0 := k0.cell 0
    have d1 := k1.cell 0
    have d2 := k2.cell 0
    have f0 := k0.frozen 0
    have hz := str_size r
    rcases pieces_step c r with ⟨hi, hp⟩ | ⟨i, hi, hil, hp⟩
    · rw [hp] at hx
      have hy := hY pre r [] wr hx hj
      obtain ⟨fn, tmps, assign, body, hy, hR⟩ := hy
      gi_wp2_with (refine ⟨trivial, ?_⟩; gi_at_call 76; refine (callsIn_wide.2 (idx_one r c _)).mono ?_; rintro e w1 ⟨rfl, rfl⟩; rw [hi])
      refine hR.mono ?_
      rintro e W3 (⟨rfl, hJ3, hk3⟩ | ⟨rfl, hJx3⟩)
      · gi_wp2
        go_end0
        exact ⟨⟨_, rfl⟩, .inl (by rw [← hx]; exact hJ3)⟩
      · gi_wp2
        go_end0
        exact ⟨⟨_, rfl⟩, .inr ⟨pre, r, [], hx, hJx3⟩⟩
    · rw [hp] at hx
      have hy := hY pre (r.take i) _ wr hx hj
      obtain ⟨fn, tmps, assign, body, hy, hR⟩ := hy
      rw [← str_cut r i] at hy
      have hi0 : decide ((i : Int) < 0) = false := by simp
      gi_wp2_with (refine ⟨trivial, ?_⟩; gi_at_call 76; refine (callsIn_wide.2 (idx_one r c _)).mono ?_; rintro e w1 ⟨rfl, rfl⟩; rw [hi])
      refine hR.mono ?_
      rintro e W3 (⟨rfl, hJ3, hk3⟩ | ⟨rfl, hJx3⟩)
      · have k03 := hk3.blk (Nat.le_refl _) (by omega) k0
        have k13 := hk3.blk (by omega) (by omega) k1
        have k23 := hk3.blk (by omega) (by omega) k2
        have d03 := k03.cell 0
        have d13 := k13.cell 0
        have f03 := k03.frozen 0
        gi_wp2
        have hv : (str r).extract (i + 1) r.length = str (r.drop (i + 1)) := by rw [← str_rest r (i + 1), str_size]
        have hgs := grownBy_setCell' W3 b0 (Value.string (str (r.drop (i + 1))))
        go_roundw
        case rel =>
          rw [hv]
          refine ⟨pre ++ [r.take i], r.drop (i + 1), by rw [← hx]; simp, by simp; omega, hJ _ _ _ hJ3 hgs, k03.set0 rfl, k13.far (by simp) _, k23.far (by simp) _⟩
        case measure =>
          rw [hv, cellStr_of ((k03.set0 rfl).cell 0), cellStr_of d0, str_size, str_size]
          simp; omega
      · gi_wp2
        refine bodyPost_ret (results_none rfl _ _ _) rfl ?_
        exact ⟨⟨_, rfl⟩, .inr ⟨pre, _, _, hx, hJx3⟩⟩
theorem splitSeq_any (s t : ByteArray) (w : World) : Calls Tryz.prog 67 #[.string s, .string t, .int .i64 0] w fun e w' =>
    e = .returned (.func (.func 93) #[] #[.pointer (some ⟨w.heap.size + 1, 0, none⟩), .pointer (some ⟨w.heap.size, 0, none⟩), .pointer (some ⟨w.heap.size + 2, 0, none⟩)]) ∧
    w' = ((w.alloc (.cells #[.string s] 9)).alloc (.cells #[.string t] 9)).alloc (.cells #[.int .i64 0] 3) := by
  go_enter Tryz.func67, Tryz.ntmps67
  go_wp2
  go_ret
  exact ⟨rfl, rfl⟩
theorem SplitSeq_any (s t : ByteArray) (w : World) : Calls Tryz.prog 54 #[.string s, .string t] w fun e w' =>
    e = .returned (.func (.func 93) #[] #[.pointer (some ⟨w.heap.size + 1, 0, none⟩), .pointer (some ⟨w.heap.size, 0, none⟩), .pointer (some ⟨w.heap.size + 2, 0, none⟩)]) ∧
    w' = ((w.alloc (.cells #[.string s] 9)).alloc (.cells #[.string t] 9)).alloc (.cells #[.int .i64 0] 3) := by
  go_enter Tryz.func54, Tryz.ntmps54
  go_wp2_with (go_at_call 67; refine (splitSeq_any _ _ _).mono ?_; rintro e w1 ⟨rfl, rfl⟩)
  go_ret
  exact ⟨rfl, rfl⟩
end Go.Proofs.YtpgffbomlmmncaaGreatDoor
set_option linter.unusedSimpArgs false
set_option linter.unusedVariables false
namespace Go.Proofs.YtpgffbomlmmncaaGreatDoor
open Go.RowKit
/-- What the library's own variables hold, as far as the calls here read them. -/
structure Env (w : World) : Prop where
  tab : Tab w
  most : ∃ m, w.cell? ⟨0, 0, none⟩ = some (.int .i64 m)
  syn : ∃ ev, w.cell? ⟨6, 0, none⟩ = some ev ∧ (ev = .nilIface ∨ ∃ te pe, ev = .iface te pe)
  rng : ∃ ev, w.cell? ⟨7, 0, none⟩ = some ev ∧ (ev = .nilIface ∨ ∃ te pe, ev = .iface te pe)
theorem Env.below {w w' : World} (h : Env w) (hb : Below w.heap.size w w') : Env w' :=
  ⟨h.tab.below hb, h.most.imp fun _ hm => (hb.cell (World.block_lt_of_cell? w _ hm)).trans hm, h.syn.imp fun _ hm => ⟨(hb.cell (World.block_lt_of_cell? w _ hm.1)).trans hm.1, hm.2⟩,
    h.rng.imp fun _ hm => ⟨(hb.cell (World.block_lt_of_cell? w _ hm.1)).trans hm.1, hm.2⟩⟩
theorem below_drewN0 (w : World) (n : Nat) : Below w.heap.size w (w.drewN n) := below_drewN (Below.refl _ w) n
/-- strconv.ParseUint at 16 bits: the number and nil, or a number and an error. -/
theorem pu16_any (s : ByteArray) (hs : s.size ≤ 1000) (w : World) (he : Env w) : Calls Tryz.prog 96 #[.string s, .int .i64 10, .int .i64 16] w fun e w' => Below w.heap.size w w' ∧
    ((∃ u, u < 65536 ∧ Lib.parseUintB 16 s.data.toList = .ok u ∧ e = .returned (.tuple #[.int .u64 (u : Int), .nilIface])) ∨
     (∃ (u : Nat) (te : TypeId) (pe : Value), u < 65536 ∧ (∀ x, Lib.parseUintB 16 s.data.toList ≠ .ok x) ∧ e = .returned (.tuple #[.int .u64 (u : Int), .iface te pe]))) := by
  rcases h : Lib.parseUintB 16 s.data.toList with u | _ | _
  · 
    have hu := Lib.parseUintB_le h
    refine (Tryz.strconv_ParseUint_10_at16_ok s (by omega) u h w).mono ?_
    rintro e w' ⟨rfl, hw⟩
    refine ⟨?_, Or.inl ⟨u, by omega, rfl, rfl⟩⟩
    rcases hw with rfl | rfl
    · exact Below.refl _ _
    · exact Go.Joins.below_bytesWorld _ _ _ _ (Nat.le_refl _)
  · 
    obtain ⟨ev, hv, hev⟩ := he.syn
    refine (Tryz.strconv_ParseUint_10_at16_syntax s (by omega) h ev w hv hev).mono ?_
    rintro e w' ⟨N, rfl, _, _, hb⟩
    exact ⟨hb, Or.inr ⟨0, _, _, by omega, by simp, rfl⟩⟩
  · 
    obtain ⟨ev, hv, hev⟩ := he.rng
    refine (Tryz.strconv_ParseUint_10_at16_range s (by omega) h ev w hv hev).mono ?_
    rintro e w' ⟨N, rfl, _, _, hb⟩
    exact ⟨hb, Or.inr ⟨65535, _, _, by omega, by simp, rfl⟩⟩
set_option maxHeartbeats 400000 in
theorem number_any (s : ByteArray) (hs : s.size ≤ 1000) (w : World) (he : Env w) : Calls Tryz.prog 70 #[.string s] w fun e w' => Below w.heap.size w w' ∧
    ∃ (u : Nat) (b : Bool), u < 65536 ∧ e = .returned (.tuple #[.int .u16 (u : Int), .bool b]) ∧ (∀ x, Lib.parseUintB 16 s.data.toList = .ok x → u = x ∧ b = true) := by
  have HP := hide (pu16_any s hs w he)
  go_enter Tryz.func70, Tryz.ntmps70
  go_wp2_with fail
  refine HP.out.mono ?_
  rintro e w1 ⟨hb1, ⟨u, hu, hp, rfl⟩ | ⟨u, te, pe, hu, hp, rfl⟩⟩
  · have HX := hide hp
    clear hp
    go_wp2_with fail
    go_region
    go_wp2
    go_ret2
    refine ⟨below_drewN hb1 1, u, true, hu, rfl, fun x hx => ?_⟩
    rw [HX.out] at hx
    cases hx
    exact ⟨rfl, rfl⟩
  · have HX := hide hp
    clear hp
    go_wp2_with fail
    go_region
    go_wp2
    go_ret2
    refine ⟨below_drewN hb1 1, u, false, hu, rfl, fun x hx => ?_⟩
    exact absurd hx (HX.out x)
theorem fold_ge (l : List UInt8) : ∀ acc : Nat, acc ≤ l.foldl (fun a c => 10 * a + (c.toNat - 48)) acc := by
  induction l with
  | nil => intro acc; exact Nat.le_refl _
  | cons c r ih => intro acc; exact Nat.le_trans (show acc ≤ 10 * acc + (c.toNat - 48) by omega) (ih _)
theorem parseM_fold (M : Nat) (hM : M < 1844674407370955162) (l : List UInt8) : ∀ acc : Nat, (∀ c ∈ l, 48 ≤ c.toNat ∧ c.toNat ≤ 57) → l.foldl (fun a c => 10 * a + (c.toNat - 48)) acc ≤ M →
    Lib.parseUintM M acc l = .ok (l.foldl (fun a c => 10 * a + (c.toNat - 48)) acc) := by
  induction l with
  | nil => intro acc _ _; rfl
  | cons c r ih =>
    intro acc hd hv
    have hc := hd c (by simp)
    simp only [List.foldl_cons] at hv ⊢
    have h2 := fold_ge r (10 * acc + (c.toNat - 48))
    unfold Lib.parseUintM
    rw [if_pos hc, if_neg (by omega), if_neg (by omega), show acc * 10 + (c.toNat - 48) = 10 * acc + (c.toNat - 48) by omega]
    exact ih _ (fun x hx => hd x (by simp [hx])) hv
theorem parse_dec (B u : Nat) (hB : 2 ^ B - 1 < 1844674407370955162) (hu : u ≤ 2 ^ B - 1) : Lib.parseUintB B (Lib.decDigits u) = .ok u := by
  unfold Lib.parseUintB
  rw [if_neg (dec_ne u)]
  have h1 := numOf_dec u
  unfold numOf at h1
  have := parseM_fold (2 ^ B - 1) hB (Lib.decDigits u) 0 (dec_dig u) (by rw [h1]; exact hu)
  rwa [h1] at this
theorem index_at (p : UInt8) (x y : List UInt8) (hx : ∀ c ∈ x, c ≠ p) : Lib.index (x ++ p :: y) [p] = (x.length : Int) := by
  induction x with
  | nil => simp [Lib.index]
  | cons c r ih =>
    have hc : c ≠ p := hx c (by simp)
    have := ih (fun d hd => hx d (by simp [hd]))
    rw [List.cons_append, Lib.index, this]
    have e : ([p] : List UInt8).isPrefixOf (c :: (r ++ p :: y)) = false := by first | (simp [List.isPrefixOf]; done) | simp [List.isPrefixOf, Ne.symm hc]
    rw [e]
    have e2 : ((r.length : Int) == -1) = false := by first | (simp; done) | (simp; omega)
    rw [e2]
    simp
theorem cut_at (p : UInt8) (x y : List UInt8) (hx : ∀ c ∈ x, c ≠ p) : Lib.cut (x ++ p :: y) [p] = (x, y, true) := by
  unfold Lib.cut
  rw [index_at p x y hx, if_pos (by omega)]
  simp
theorem commName_txt (c : Nat) (h : commName c ≠ []) : commT c = commName c := by unfold commT; rw [if_neg h]
theorem cut_len1 (l sep : List UInt8) : (Lib.cut l sep).1.length ≤ l.length := by
  unfold Lib.cut; split
  · simp only [List.length_take]; omega
  · exact Nat.le_refl _
theorem cut_len2 (l sep : List UInt8) : (Lib.cut l sep).2.1.length ≤ l.length := by
  unfold Lib.cut; split
  · simp only [List.length_drop]; omega
  · simp
theorem cut_any (p : UInt8) (l : List UInt8) (hl : l.length ≤ 1000) (w : World) (he : Env w) : Calls Tryz.prog 69 #[.string (str l), .string ⟨#[p]⟩] w fun e w' =>
    e = .returned (.tuple #[.string (str (Lib.cut l [p]).1), .string (str (Lib.cut l [p]).2.1), .bool (Lib.cut l [p]).2.2]) ∧ Below w.heap.size w w' := by
  obtain ⟨m, hm⟩ := he.most
  have h := Tryz.strings_Cut (str l) ⟨#[p]⟩ m w (by rw [str_size]; omega) hm
  rw [str_data] at h
  refine h.mono ?_
  rintro e w' ⟨rfl, n, rfl⟩
  exact ⟨rfl, below_drewN0 _ _⟩
theorem env_cells {w : World} (he : Env w) (o : Obj) : Env (w.alloc o) := he.below ((Below.refl _ w).alloc (Nat.le_refl _) _)
end Go.Proofs.YtpgffbomlmmncaaGreatDoor
set_option linter.unusedSimpArgs false
set_option linter.unusedVariables false
namespace Go.Proofs.YtpgffbomlmmncaaGreatDoor
open Go.RowKit
theorem trod_error {H : Type} {enc : TypeId × Value → H} {P : Program} {w : World} {base : Nat} {spare : Nat → Bool} {held : Bool} {fuel : Nat} {t : TypeId} {cs : List Value} {x : DataW H × List MemPlace} {ms : Array (String × TypeId)}
    (ht : P.underlying t = some (.interface ms)) (h : DataW.trod enc P w base spare held fuel t cs = some x) : ∃ ev, cs = [ev] ∧ (ev = .nilIface ∨ ∃ te pe, ev = .iface te pe) := by
  cases fuel with
  | zero => simp [DataW.trod] at h
  | succ n =>
    unfold DataW.trod at h
    rw [ht] at h
    match cs, h with
    | [], h => simp at h
    | [v], h =>
      cases v <;> first | exact ⟨_, rfl, Or.inl rfl⟩ | exact ⟨_, rfl, Or.inr ⟨_, _, rfl⟩⟩ | (simp at h)
    | v :: v' :: r, h => simp at h
theorem err_of_mem {P : Program} {W : World} {name : String} {d : DataW Unit} {laid : List (String × DataW Unit)} {g : Nat} {t : TypeId} {ms : Array (String × TypeId)}
    (hg : P.globalNamed name = some g) (hty : (P.globals[g]?).map (·.type) = some t) (ht : P.underlying t = some (.interface ms)) (h : laidMet P laid W) (hm : (name, d) ∈ laid) :
    ∃ ev, W.cell? ⟨g, 0, none⟩ = some ev ∧ (ev = .nilIface ∨ ∃ te pe, ev = .iface te pe) := by
  obtain ⟨ps, hl, _⟩ := h
  obtain ⟨g', t', cs, fuel, p, hg', ht', hvar, hd⟩ := laidVars_mem hl hm
  obtain rfl := Option.some.inj (hg.symm.trans hg')
  obtain rfl := Option.some.inj (hty.symm.trans ht')
  obtain ⟨ev, hev, hh⟩ := trod_error ht hd
  have h0 := World.var?_cell hg hvar 0
  obtain ⟨l⟩ := cs
  simp at hev
  subst hev
  exact ⟨ev, by simpa using h0, hh⟩
theorem gSyn : Tryz.prog.globalNamed "strconv.ErrSyntax" = some 6 := by kernel_rfl
theorem gSynT : (Tryz.prog.globals[6]?).map (·.type) = some 78 := by kernel_rfl
theorem gRng : Tryz.prog.globalNamed "strconv.ErrRange" = some 7 := by kernel_rfl
theorem gRngT : (Tryz.prog.globals[7]?).map (·.type) = some 78 := by kernel_rfl
set_option maxRecDepth 100000 in
theorem env_of {W : World} {laid : List (String × DataW Unit)} {d1 d2 : DataW Unit} (ht : Tab W) (hh : (laid.all fun x => x.2.handleName?.isNone) = true) (hL : laidMetH Tryz.prog laid W) (hsh : W.ShapedOpen Tryz.prog)
    (m1 : ("strconv.ErrSyntax", d1) ∈ laid) (m2 : ("strconv.ErrRange", d2) ∈ laid) : Env W := by
  rw [MakeChecks.laidMetH_plain _ _ _ hh] at hL
  exact ⟨ht, Go.Proofs.cell_of_shapedOpen_int (zero := #[.int .i64 0]) (t := 3) hsh (of_decide_eq_true (by kernel_rfl)) (by kernel_rfl) rfl (by kernel_rfl) (by kernel_rfl) Tryz.underlying3,
    err_of_mem gSyn gSynT Tryz.underlying78 hL m1, err_of_mem gRng gRngT Tryz.underlying78 hL m2⟩
end Go.Proofs.YtpgffbomlmmncaaGreatDoor
set_option linter.unusedSimpArgs false
set_option linter.unusedVariables false
namespace Go.Proofs.YtpgffbomlmmncaaGreatDoor
open Go.RowKit
/-- A slice of texts. -/
def StrsAt (w : World) (A : Option Addr) (n c : Nat) (l : List ByteArray) : Prop :=
  l.length = n ∧ n ≤ c ∧ c ≤ maxLen ∧ (∀ x ∈ l, x.size ≤ maxLen) ∧ (0 < n → ∃ g o, A = some ⟨g, o, none⟩ ∧ g < w.heap.size ∧ ∀ (k : Nat) (x : ByteArray), l[k]? = some x → w.cell? ⟨g, o + k, none⟩ = some (.string x))
theorem StrsAt.below {w w' : World} {A : Option Addr} {n c : Nat} {l : List ByteArray} {B : Nat} (h : StrsAt w A n c l) (hB : w.heap.size = B) (hb : Below B w w') : StrsAt w' A n c l := by
  subst hB
  refine ⟨h.1, h.2.1, h.2.2.1, h.2.2.2.1, fun hn => ?_⟩
  obtain ⟨g, o, hA, hg, hc⟩ := h.2.2.2.2 hn
  exact ⟨g, o, hA, Nat.lt_of_lt_of_le hg hb.size, fun k x hk => (hb.cell (by exact hg)).trans (hc k x hk)⟩
theorem StrsAt.at_ {w : World} {A : Option Addr} {n c : Nat} {l : List ByteArray} (h : StrsAt w A n c l) {k : Nat} (hk : k < n) :
    ∃ g o x, A = some ⟨g, o, none⟩ ∧ g < w.heap.size ∧ l[k]? = some x ∧ x.size ≤ maxLen ∧ w.cell? ⟨g, o + k, none⟩ = some (.string x) := by
  obtain ⟨g, o, hA, hg, hc⟩ := h.2.2.2.2 (by omega)
  have hx : l[k]? = some (l[k]'(by rw [h.1]; exact hk)) := List.getElem?_eq_getElem _
  exact ⟨g, o, _, hA, hg, hx, h.2.2.2.1 _ (List.getElem_mem _), hc k _ hx⟩
theorem infoStr : (Tryz.prog.info? 9).map (fun i => (i.zero, i.size, i.bytes)) = some (some (.string ⟨#[]⟩), 1, 16) := by kernel_rfl
def strv (l : List (List UInt8)) : List Value := l.map fun x => .string (str x)
theorem join_snoc (sep : List UInt8) (l : List (List UInt8)) (x : List UInt8) : Lib.join (l ++ [x]) sep = (if l = [] then [] else Lib.join l sep ++ sep) ++ x := by
  cases l with
  | nil => simp [Lib.join_one]
  | cons a r =>
    rw [List.cons_append, Lib.join_cons, Lib.join_cons, if_neg (by simp)]
    simp [Lib.joinTail]
def jw (l : List (List UInt8)) : List UInt8 := Lib.join l [32]
theorem jw_snoc (l : List (List UInt8)) (x : List UInt8) : jw (l ++ [x]) = (if l = [] then [] else jw l ++ [32]) ++ x := join_snoc [32] l x
theorem reads_oneS {w : World} {g : Nat} {u : Value} (h : w.cell? ⟨g, 0, none⟩ = some u) : Reads w w.heap.size 1 (some ⟨g, 0, none⟩) 1 [u] :=
  ⟨rfl, fun _ => ⟨_, rfl, World.block_lt_of_cell? w _ h, fun j v hv => by
    cases j with
    | zero => cases hv; exact h
    | succ j => simp at hv⟩⟩
end Go.Proofs.YtpgffbomlmmncaaGreatDoor
set_option linter.unusedSimpArgs false
set_option linter.unusedVariables false
namespace Go.Proofs.YtpgffbomlmmncaaGreatDoor
open Go.RowKit
set_option maxRecDepth 100000 in
set_option maxHeartbeats 2000000 in
theorem cparse4_any (l : List UInt8) (hl : l.length ≤ 400) (w : World) (he : Env w) : Calls Tryz.prog 55 #[.string (str l)] w fun e w' => Below w.heap.size w w' ∧
    ∃ (c : Nat) (b : Bool), c < 4294967296 ∧ e = .returned (.tuple #[.int .u32 (c : Int), .bool b]) ∧ (b = true → l = commT c) ∧ (∀ x, x < 4294967296 → l = commT x → b = true ∧ c = x) := by
  have HE := hide (env_cells he (.cells #[.int .u32 4294967041, .int .u32 4294967042, .int .u32 4294967043] 46))
  have HL := hide hl
  have hbw := hide ((Below.refl w.heap.size w).alloc (Nat.le_refl _) (.cells #[.int .u32 4294967041, .int .u32 4294967042, .int .u32 4294967043] 46))
  clear he hl
  have hn0 := hide (name_c 4294967041)
  have hn1 := hide (name_c 4294967042)
  have hn2 := hide (name_c 4294967043)
  go_enter Tryz.func55, Tryz.ntmps55
  go_wp2
  go_loop [16] (fun i => ∃ k : Nat, k ≤ 3 ∧ i = .int .i64 k ∧ ∀ j, j < k → l ≠ commName (4294967041 + j)) (fun i => 3 - (intOf i).toNat)
  case atStart => exact ⟨0, by omega, rfl, by omega⟩
  case round =>
    obtain ⟨k, hk, rfl, hne⟩ := hrel
    have HN := hide hne
    clear hne
    rcases (show k = 0 ∨ k = 1 ∨ k = 2 ∨ k = 3 by omega) with h | h | h | h
    · subst h
      by_cases hN : l = commName 4294967041
      · have HQ := hide hN
        have ht : ((str (commName 4294967041)).toList == (str l).toList) = true := by rw [str_beq, hN]; simp
        clear hN
        go_wp2_with fail
        refine (hn0.out _).mono ?_
        rintro e w1 ⟨rfl, rfl⟩
        go_wp2
        go_ret2
        have hCT : l = commT 4294967041 := by rw [HQ.out]; decide +kernel
        exact ⟨hbw.out, 4294967041, true, by omega, rfl, fun _ => hCT, fun x hx hlx => ⟨rfl, commT_inj (hCT.symm.trans hlx)⟩⟩
      · have HQ := hide hN
        have ht : ((str (commName 4294967041)).toList == (str l).toList) = false := by rw [str_beq]; simpa using fun h => hN h.symm
        clear hN
        go_wp2_with fail
        refine (hn0.out _).mono ?_
        rintro e w1 ⟨rfl, rfl⟩
        go_wp2
        go_round
        case rel => exact ⟨1, by omega, by go_num, fun j hj => by
          by_cases hjk : j < 0
          · exact HN.out j hjk
          · obtain rfl : j = 0 := by omega
            exact HQ.out⟩
        case measure => simp [intOf]
    · subst h
      by_cases hN : l = commName 4294967042
      · have HQ := hide hN
        have ht : ((str (commName 4294967042)).toList == (str l).toList) = true := by rw [str_beq, hN]; simp
        clear hN
        go_wp2_with fail
        refine (hn1.out _).mono ?_
        rintro e w1 ⟨rfl, rfl⟩
        go_wp2
        go_ret2
        have hCT : l = commT 4294967042 := by rw [HQ.out]; decide +kernel
        exact ⟨hbw.out, 4294967042, true, by omega, rfl, fun _ => hCT, fun x hx hlx => ⟨rfl, commT_inj (hCT.symm.trans hlx)⟩⟩
      · have HQ := hide hN
        have ht : ((str (commName 4294967042)).toList == (str l).toList) = false := by rw [str_beq]; simpa using fun h => hN h.symm
        clear hN
        go_wp2_with fail
        refine (hn1.out _).mono ?_
        rintro e w1 ⟨rfl, rfl⟩
        go_wp2
        go_round
        case rel => exact ⟨2, by omega, by go_num, fun j hj => by
          by_cases hjk : j < 1
          · exact HN.out j hjk
          · obtain rfl : j = 1 := by omega
            exact HQ.out⟩
        case measure => simp [intOf]
    · subst h
      by_cases hN : l = commName 4294967043
      · have HQ := hide hN
        have ht : ((str (commName 4294967043)).toList == (str l).toList) = true := by rw [str_beq, hN]; simp
        clear hN
        go_wp2_with fail
        refine (hn2.out _).mono ?_
        rintro e w1 ⟨rfl, rfl⟩
        go_wp2
        go_ret2
        have hCT : l = commT 4294967043 := by rw [HQ.out]; decide +kernel
        exact ⟨hbw.out, 4294967043, true, by omega, rfl, fun _ => hCT, fun x hx hlx => ⟨rfl, commT_inj (hCT.symm.trans hlx)⟩⟩
      · have HQ := hide hN
        have ht : ((str (commName 4294967043)).toList == (str l).toList) = false := by rw [str_beq]; simpa using fun h => hN h.symm
        clear hN
        go_wp2_with fail
        refine (hn2.out _).mono ?_
        rintro e w1 ⟨rfl, rfl⟩
        go_wp2
        go_round
        case rel => exact ⟨3, by omega, by go_num, fun j hj => by
          by_cases hjk : j < 2
          · exact HN.out j hjk
          · obtain rfl : j = 2 := by omega
            exact HQ.out⟩
        case measure => simp [intOf]
    · subst h
      have HC := hide (cut_any 58 l (by have := HL.out; omega) _ HE.out)
      have hx1 := cut_len1 l [58]
      have hx2 := cut_len2 l [58]
      have HCA := hide (cut_at 58)
      obtain ⟨x, hx⟩ : ∃ x, (Lib.cut l [58]).1 = x := ⟨_, rfl⟩
      obtain ⟨y, hy⟩ : ∃ y, (Lib.cut l [58]).2.1 = y := ⟨_, rfl⟩
      obtain ⟨z, hz⟩ : ∃ z, (Lib.cut l [58]).2.2 = z := ⟨_, rfl⟩
      rw [hx, hy, hz] at HC
      rw [hx] at hx1
      rw [hy] at hx2
      have HX := hide hx
      have HY := hide hy
      clear hx hy hz
      go_wp2_with fail
      refine HC.out.mono ?_
      rintro e w1 ⟨rfl, hb1⟩
      have he1 := hide (HE.out.below hb1)
      have hbw1 := hide (hbw.out.trans (hb1.mono hbw.out.size))
      clear hb1
      have HM1 := hide (number_any (str x) (by rw [str_size]; have := HL.out; omega) w1 he1.out)
      go_wp2_with fail
      refine HM1.out.mono ?_
      rintro e w2 ⟨hb2, u1, b1, hu1, rfl, hp1⟩
      have he2 := hide (he1.out.below hb2)
      have hbw2 := hide (hbw1.out.trans (hb2.mono hbw1.out.size))
      have HP1 := hide hp1
      clear hb2 hp1
      have HM2 := hide (number_any (str y) (by rw [str_size]; have := HL.out; omega) w2 he2.out)
      go_wp2_with fail
      refine HM2.out.mono ?_
      rintro e w3 ⟨hb3, u2, b2, hu2, rfl, hp2⟩
      have he3 := hide (he2.out.below hb3)
      have hbw3 := hide (hbw2.out.trans (hb3.mono hbw2.out.size))
      have HP2 := hide hp2
      clear hb3 hp2
      have HK := hide (make_any u1 u2 hu1 hu2 w3)
      go_wp2_with fail
      refine HK.out.mono ?_
      rintro e w4 ⟨rfl, rfl⟩
      obtain ⟨c, hc⟩ : ∃ c, u1 * 65536 + u2 = c := ⟨_, rfl⟩
      rw [hc]
      have hc32 : c < 4294967296 := by omega
      have key : ∀ t, t < 4294967296 → l = commT t → b1 = true ∧ b2 = true ∧ c = t := by
        intro t ht hlt
        by_cases hnt : commName t = []
        · have e1 : l = Lib.decDigits (t / 65536) ++ 58 :: Lib.decDigits (t % 65536) := by rw [hlt]; unfold commT; rw [if_pos hnt]
          have e2 := HCA.out (Lib.decDigits (t / 65536)) (Lib.decDigits (t % 65536)) (dec_no (by decide) _)
          rw [← e1] at e2
          have ex : x = Lib.decDigits (t / 65536) := by rw [← HX.out, e2]
          have ey : y = Lib.decDigits (t % 65536) := by rw [← HY.out, e2]
          have q1 := HP1.out (t / 65536) (by rw [str_data, ex]; exact parse_dec 16 _ (by decide) (by omega))
          have q2 := HP2.out (t % 65536) (by rw [str_data, ey]; exact parse_dec 16 _ (by decide) (by omega))
          exact ⟨q1.2, q2.2, by have h1 := q1.1; have h2 := q2.1; omega⟩
        · have e1 : l = commName t := by rw [hlt]; exact commName_txt t hnt
          have := (not_congr (commName_nil t)).1 hnt
          rcases (show t = 4294967041 ∨ t = 4294967042 ∨ t = 4294967043 by omega) with h | h | h
          · exact absurd (by rw [e1, h]) (HN.out 0 (by omega))
          · exact absurd (by rw [e1, h]) (HN.out 1 (by omega))
          · exact absurd (by rw [e1, h]) (HN.out 2 (by omega))
      have HKey := hide key
      clear key hc hu1 hu2
      cases b1
      · go_wp2
        go_ret2
        exact ⟨hbw3.out, c, false, hc32, rfl, fun h => by simp at h, fun t ht hlt => absurd (HKey.out t ht hlt).1 (by simp)⟩
      · cases b2
        · go_wp2
          go_ret2
          exact ⟨hbw3.out, c, false, hc32, rfl, fun h => by simp at h, fun t ht hlt => absurd (HKey.out t ht hlt).2.1 (by simp)⟩
        · have HTx := hide (text_any c hc32 w3 he3.out.tab)
          have hq := hide (str_beq (commT c) l)
          go_wp2_with fail
          refine HTx.out.mono ?_
          rintro e w5 ⟨rfl, hb5⟩
          go_wp2
          go_ret2
          refine ⟨hbw3.out.trans (hb5.mono hbw3.out.size), c, (commT c == l), hc32, by rw [← hq.out]; rfl, fun h => by simpa using (beq_iff_eq.1 h).symm, fun t ht hlt => ?_⟩
          have := (HKey.out t ht hlt).2.2
          subst this
          exact ⟨by simp [hlt], rfl⟩
theorem pieces_cons_no {c : UInt8} {p : List UInt8} (h : c ∉ p) (r : List UInt8) : pieces c (p ++ c :: r) = p :: pieces c r := by
  induction p with
  | nil => simp [pieces]
  | cons x p ih =>
    have hx : x ≠ c := fun e => h (by simp [e])
    have := ih (fun hm => h (by simp [hm]))
    rw [List.cons_append]
    conv => lhs; unfold pieces
    rw [if_neg hx, this]; rfl
theorem pieces_no {c : UInt8} {p : List UInt8} (h : c ∉ p) : pieces c p = [p] := by
  induction p with
  | nil => rfl
  | cons x p ih =>
    have hx : x ≠ c := fun e => h (by simp [e])
    unfold pieces
    rw [if_neg hx, ih (fun hm => h (by simp [hm]))]; rfl
theorem jw_cons2 (a b : List UInt8) (r : List (List UInt8)) : jw (a :: b :: r) = a ++ 32 :: jw (b :: r) := by
  unfold jw
  rw [Lib.join_cons, Lib.join_cons]
  simp [Lib.joinTail]
theorem jw_one (a : List UInt8) : jw [a] = a := by
  unfold jw; rw [Lib.join_cons]; simp [Lib.joinTail]
theorem pieces_jw : ∀ (ps : List (List UInt8)), ps ≠ [] → (∀ p ∈ ps, (32 : UInt8) ∉ p) → pieces 32 (jw ps) = ps
  | [], h, _ => absurd rfl h
  | [a], _, h => by rw [jw_one]; exact pieces_no (h a (by simp))
  | a :: b :: r, _, h => by
    rw [jw_cons2, pieces_cons_no (h a (by simp)), pieces_jw (b :: r) (by simp) (fun p hp => h p (by simp [hp]))]
theorem jw_pieces : ∀ (s : List UInt8), jw (pieces 32 s) = s
  | [] => by simp [pieces, jw_one]
  | x :: l => by
    have ih := jw_pieces l
    obtain ⟨p, ps, hp⟩ : ∃ p ps, pieces 32 l = p :: ps := by
      cases h : pieces 32 l with
      | nil => exact absurd h (pieces_ne 32 l)
      | cons p ps => exact ⟨p, ps, rfl⟩
    unfold pieces
    by_cases hx : x = 32
    · rw [if_pos hx, hp, jw_cons2, ← hp, ih, hx]; rfl
    · rw [if_neg hx, hp]
      rw [hp] at ih
      cases ps with
      | nil => rw [jw_one] at ih; show jw [x :: p] = _; rw [jw_one, ih]
      | cons q ps => rw [jw_cons2] at ih; show jw ((x :: p) :: q :: ps) = _; rw [jw_cons2, ← ih]; rfl
theorem commName_blank (c : Nat) : (32 : UInt8) ∉ commName c := by
  unfold commName
  split
  · decide
  · split
    · decide
    · split
      · decide
      · simp
theorem commT_blank (c : Nat) : (32 : UInt8) ∉ commT c := by
  unfold commT
  split
  · intro h
    rcases List.mem_append.1 h with h | h
    · have := dec_dig _ _ h; simp at this
    · rcases List.mem_cons.1 h with h | h
      · cases h
      · have := dec_dig _ _ h; simp at this
  · exact commName_blank c
theorem commT_dash (c : Nat) : commT c ≠ [45] := by
  unfold commT
  split
  · intro h
    have : (58 : UInt8) ∈ ([45] : List UInt8) := h ▸ (by simp)
    simp at this
  · unfold commName
    split
    · decide
    · split
      · decide
      · split
        · decide
        · simp
/-- The texts of several, with a blank between. -/
def ct (l : List Nat) : List UInt8 := jw (l.map commT)
def texP (l : List Nat) : List UInt8 := if l = [] then [45] else ct l
theorem ct_pieces {l : List Nat} (h : l ≠ []) : pieces 32 (ct l) = l.map commT :=
  pieces_jw _ (by simpa using h) (fun p hp => by
    obtain ⟨c, _, rfl⟩ := List.mem_map.1 hp
    exact commT_blank c)
theorem ct_dash {l : List Nat} (h : l ≠ []) : ct l ≠ [45] := by
  intro e
  have := ct_pieces h
  rw [e] at this
  cases l with
  | nil => exact h rfl
  | cons x r =>
    simp [pieces] at this
    exact commT_dash x this.1.symm
theorem map_commT_inj : ∀ {l r : List Nat}, l.map commT = r.map commT → l = r
  | [], [], _ => rfl
  | [], _ :: _, h => by simp at h
  | _ :: _, [], h => by simp at h
  | x :: l, y :: r, h => by
    simp only [List.map_cons, List.cons.injEq] at h
    rw [commT_inj h.1, map_commT_inj h.2]
theorem texP_inj {l r : List Nat} (h : texP l = texP r) : l = r := by
  unfold texP at h
  by_cases hl : l = [] <;> by_cases hr : r = []
  · rw [hl, hr]
  · rw [if_pos hl, if_neg hr] at h; exact absurd h.symm (ct_dash hr)
  · rw [if_neg hl, if_pos hr] at h; exact absurd h (ct_dash hl)
  · rw [if_neg hl, if_neg hr] at h
    exact map_commT_inj (by rw [← ct_pieces hl, ← ct_pieces hr, h])
theorem jw_len40 : ∀ (l : List (List UInt8)), (∀ x ∈ l, x.length ≤ 40) → (jw l).length ≤ 41 * l.length
  | [], _ => by simp [jw, Lib.join_nil]
  | [a], h => by have := h a (by simp); rw [jw_one]; simp; omega
  | a :: b :: r, h => by
    have := jw_len40 (b :: r) (fun x hx => h x (by simp [hx]))
    have := h a (by simp)
    rw [jw_cons2]
    simp at *
    omega
theorem ct_len (l : List Nat) (h : ∀ x ∈ l, x < 4294967296) : (ct l).length ≤ 41 * l.length := by
  have := jw_len40 (l.map commT) (fun p hp => by obtain ⟨c, hc, rfl⟩ := List.mem_map.1 hp; exact commT_len c (h c hc))
  simpa [ct] using this
theorem texP_len (l : List Nat) (h : ∀ x ∈ l, x < 4294967296) (hl : l.length ≤ 15) : (texP l).length ≤ 620 := by
  unfold texP
  split
  · simp
  · have := ct_len l h; omega
theorem piece_len (c : UInt8) : ∀ (s : List UInt8) (p : List UInt8), p ∈ pieces c s → p.length ≤ s.length
  | [], p, h => by simp [pieces] at h; simp [h]
  | x :: l, p, h => by
    unfold pieces at h
    split at h
    · rcases List.mem_cons.1 h with rfl | h
      · simp
      · have := piece_len c l p h; simp; omega
    · rcases List.mem_cons.1 h with rfl | h
      · cases hp : pieces c l with
        | nil => exact absurd hp (pieces_ne c l)
        | cons q qs =>
          have := piece_len c l q (by rw [hp]; simp)
          simp; omega
      · have := piece_len c l p (List.mem_of_mem_tail h); simp; omega
end Go.Proofs.YtpgffbomlmmncaaGreatDoor
set_option linter.unusedSimpArgs false
set_option linter.unusedVariables false
namespace Go.Proofs.YtpgffbomlmmncaaGreatDoor
open Go.RowKit
def riseB : List Nat → Bool
  | x :: y :: l => decide (x < y) && riseB (y :: l)
  | _ => true
theorem riseB_iff : ∀ (l : List Nat), riseB l = true ↔ ∀ (i x y : Nat), l[i]? = some x → l[i + 1]? = some y → x < y
  | [] => by simp [riseB]
  | [a] => by simp [riseB]
  | a :: b :: l => by
    rw [riseB, Bool.and_eq_true, riseB_iff (b :: l), decide_eq_true_eq]
    constructor
    · rintro ⟨h, hr⟩ i x y hx hy
      cases i with
      | zero => simp at hx hy; omega
      | succ i => exact hr i x y (by simpa using hx) (by simpa using hy)
    · intro h
      exact ⟨h 0 a b (by simp) (by simp), fun i x y hx hy => h (i + 1) x y (by simpa using hx) (by simpa using hy)⟩
set_option maxHeartbeats 1000000 in
theorem rising_any (A : Option Addr) (n c : Nat) (l : List Nat) (w : World) (h : U32s w A n c l) (hn : n ≤ 10000) :
    Calls Tryz.prog 43 #[.slice A n c] w fun e w' => e = .returned (.bool (riseB l)) ∧ Below w.heap.size w w' := by
  have hm1 := h.2.2.1
  have hn1 := h.2.1
  unfold maxLen at hm1
  have HU := hide h
  clear h
  go_enter Tryz.func43, Tryz.ntmps43
  go_wp2
  go_loopw [3] (fun i wr => ∃ k : Nat, k ≤ n ∧ i = .int .i64 k ∧ (∀ j x y : Nat, j < k → l[j]? = some x → l[j + 1]? = some y → x < y) ∧ ∃ q, wr = w.drewN q) (fun i _ => n - (intOf i).toNat)
  case atStart => exact ⟨0, Nat.zero_le _, rfl, by omega, 0, rfl⟩
  case round =>
    obtain ⟨k, hk, rfl, heq, q, rfl⟩ := hrel
    have HN := hide heq
    clear heq
    by_cases hlt : k + 1 < n
    · obtain ⟨g, o, x, rfl, hg, hx, hx2, hc⟩ := HU.out.at_ (k := k) (by omega)
      obtain ⟨g', o', y, hgg, hg', hy, hy2, hc'⟩ := HU.out.at_ hlt
      cases hgg
      have hi0 : (0 : Int) ≤ (k : Int) := by omega
      have hi1 : (k : Int) < (n : Int) := by omega
      have hi2 : (0 : Int) ≤ (k : Int) + 1 := by omega
      have hi3 : (k : Int) + 1 < (n : Int) := by omega
      by_cases hxy : x < y
      · have hge : decide (y ≤ x) = false := by simp; omega
        have hn3 := hide (show ∀ j x y : Nat, j < k + 1 → l[j]? = some x → l[j + 1]? = some y → x < y by
          intro j a b hj ha hb
          by_cases hjk : j < k
          · exact HN.out j a b hjk ha hb
          · obtain rfl : j = k := by omega
            rw [hx] at ha; rw [hy] at hb; cases ha; cases hb; exact hxy)
        clear hx hy hxy
        go_wp2
        go_quiet (fail)
        go_wp2
        go_roundw
        case rel => exact ⟨k + 1, by omega, by go_num, hn3.out, _, rfl⟩
        case measure => simp [intOf]; omega
      · have hge : decide (y ≤ x) = true := by simp; omega
        have hf := hide (show riseB l = false by
          rw [← Bool.not_eq_true, riseB_iff]
          intro hh
          exact hxy (hh k x y hx hy))
        clear hx hy hxy
        go_wp2
        go_quiet (fail)
        go_wp2
        go_ret
        exact ⟨ret_bool hf.out.symm, below_drewN (below_drewN (Below.refl _ _) _) _⟩
    · have hf := hide (show riseB l = true by
        rw [riseB_iff]
        intro i x y hx hy
        have hi : i + 1 < l.length := (List.getElem?_eq_some_iff.1 hy).1
        rw [HU.out.1] at hi
        exact HN.out i x y (by omega) hx hy)
      have hi4 : decide ((k : Int) + 1 < (n : Int)) = false := by simp; omega
      go_wp2
      go_ret
      exact ⟨ret_bool hf.out.symm, below_drewN (Below.refl _ _) _⟩
set_option maxHeartbeats 1000000 in
theorem asnIs_any (A : Option Addr) (n c : Nat) (l : List Nat) (w : World) (h : U32s w A n c l) (hn : n ≤ 10000) :
    Calls Tryz.prog 40 #[.slice A n c] w fun e w' => e = .returned (.bool (riseB l)) ∧ Below w.heap.size w w' := by
  have hm1 := h.2.2.1
  have hn1 := h.2.1
  unfold maxLen at hm1
  have HU := hide h
  clear h
  go_enter Tryz.func40, Tryz.ntmps40
  go_wp2
  go_loopw [3] (fun i wr => ∃ k : Nat, (k < n ∨ k = 0) ∧ i = .int .i64 ((k : Int) + 1) ∧ (∀ j x y : Nat, j < k → l[j]? = some x → l[j + 1]? = some y → x < y) ∧ ∃ q, wr = w.drewN q) (fun i _ => n - (intOf i).toNat)
  case atStart => exact ⟨0, .inr rfl, rfl, by omega, 0, rfl⟩
  case round =>
    obtain ⟨k, hk, rfl, heq, q, rfl⟩ := hrel
    have HN := hide heq
    clear heq
    by_cases hlt : k + 1 < n
    · obtain ⟨g, o, x, rfl, hg, hx, hx2, hc⟩ := HU.out.at_ (k := k) (by omega)
      obtain ⟨g', o', y, hgg, hg', hy, hy2, hc'⟩ := HU.out.at_ hlt
      cases hgg
      have hi0 : (0 : Int) ≤ (k : Int) := by omega
      have hi1 : (k : Int) < (n : Int) := by omega
      have hi2 : (0 : Int) ≤ (k : Int) + 1 := by omega
      have hi3 : (k : Int) + 1 < (n : Int) := by omega
      by_cases hxy : x < y
      · have hge : decide (y ≤ x) = false := by simp; omega
        have hn3 := hide (show ∀ j x y : Nat, j < k + 1 → l[j]? = some x → l[j + 1]? = some y → x < y by
          intro j a b hj ha hb
          by_cases hjk : j < k
          · exact HN.out j a b hjk ha hb
          · obtain rfl : j = k := by omega
            rw [hx] at ha; rw [hy] at hb; cases ha; cases hb; exact hxy)
        clear hx hy hxy
        go_wp2
        go_quiet (fail)
        go_wp2
        go_roundw
        case rel => exact ⟨k + 1, by omega, by go_num, hn3.out, _, rfl⟩
        case measure => simp [intOf]; omega
      · have hge : decide (y ≤ x) = true := by simp; omega
        have hf := hide (show riseB l = false by
          rw [← Bool.not_eq_true, riseB_iff]
          intro hh
          exact hxy (hh k x y hx hy))
        clear hx hy hxy
        go_wp2
        go_quiet (fail)
        go_wp2
        go_ret
        exact ⟨ret_bool hf.out.symm, below_drewN (below_drewN (Below.refl _ _) _) _⟩
    · have hf := hide (show riseB l = true by
        rw [riseB_iff]
        intro i x y hx hy
        have hi : i + 1 < l.length := (List.getElem?_eq_some_iff.1 hy).1
        rw [HU.out.1] at hi
        exact HN.out i x y (by omega) hx hy)
      have hi4 : decide ((k : Int) + 1 < (n : Int)) = false := by simp; omega
      go_wp2
      go_ret
      exact ⟨ret_bool hf.out.symm, below_drewN (Below.refl _ _) _⟩
set_option maxHeartbeats 1000000 in
theorem join_own (A : Option Addr) (k c base : Nat) (l : List (List UInt8)) (w : World) (h : w.ownsRow base 9 1 (.slice A k c) k (strv l)) (hk : k ≤ 1000) (hl : ∀ x ∈ l, x.length ≤ 40) :
    Calls Tryz.prog 73 #[.slice A k c, .string ⟨#[32]⟩] w fun e w' => e = .returned (.string (str (jw l))) ∧ Below w.heap.size w w' := by
  have hlk : l.length = k := by have := h.1; simp [strv] at this; omega
  by_cases hk0 : k = 0
  · subst hk0
    obtain rfl : l = [] := List.eq_nil_of_length_eq_zero hlk
    refine (Tryz.strings_Join_none A c ⟨#[32]⟩ w).mono ?_
    rintro e w' ⟨rfl, rfl⟩
    exact ⟨rfl, Below.refl _ _⟩
  · obtain ⟨g, cap, hv, _, hlt⟩ := h.form (by omega)
    cases hv
    have hcap : k ≤ c := by
      rcases h.2 with ⟨hv, h0⟩ | ⟨g', cap', cur, hv, _, _, hnc, _⟩
      · cases hv
      · cases hv; exact hnc
    have hm : (l.map str).map (·.data.toList) = l := by rw [List.map_map]; exact (List.map_congr_left (fun x _ => str_data x)).trans (List.map_id l)
    have hj := Tryz.strings_Join g 0 c (l.map str) ⟨#[32]⟩ w (fun j x hx => by
      have := h.cells (g := g) rfl j (.string x) (by simp only [strv, List.getElem?_map] at hx ⊢; rw [Option.map_eq_some_iff] at hx ⊢; obtain ⟨y, hy, rfl⟩ := hx; exact ⟨y, hy, rfl⟩)
      rw [show (⟨g, 0, none⟩ : Addr).add j = ⟨g, 0 + j, none⟩ by unfold Addr.add; split <;> simp_all] at this
      exact this) hlt (by simp; omega) (by simp; omega) (by
      rw [hm]
      have := jw_len40 l hl
      unfold jw at this
      show (Lib.join l [32]).length ≤ _
      omega)
    rw [hm, List.length_map, hlk] at hj
    refine hj.mono ?_
    rintro e w' ⟨rfl, hb⟩
    exact ⟨rfl, hb⟩
theorem strv_snoc (l : List (List UInt8)) (x : List UInt8) : strv (l ++ [x]) = strv l ++ [.string (str x)] := by simp [strv]
theorem strv_len (l : List (List UInt8)) : (strv l).length = l.length := by simp [strv]
theorem own_below {w w' : World} {base e size n : Nat} {v : Value} {xs : List Value} (h : w.ownsRow base e size v n xs) (hb : Below w.heap.size w w') : w'.ownsRow base e size v n xs :=
  ⟨h.1, h.2.imp id (fun ⟨g, cap, cur, e1, e2, e3, rest⟩ => ⟨g, cap, cur, e1, e2, (hb.block g (Array.getElem?_eq_some_iff.1 e3).1).trans e3, rest⟩)⟩
set_option maxHeartbeats 2000000 in
theorem ctexts_any (A : Option Addr) (n c : Nat) (l : List Nat) (w : World) (h : U32s w A n c l) (hn : n ≤ 100) (ht : Tab w) :
    Calls Tryz.prog 77 #[.slice A n c] w fun e w' => e = .returned (.string (str (texP l))) ∧ Below w.heap.size w w' := by
  have hm := h.2.2.1
  have hnc := h.2.1
  unfold maxLen at hm
  have HT := hide ht
  have HA := hide h
  obtain ⟨i0, hi, hz0, hz1, hz2⟩ := info_parts infoStr
  clear h ht
  by_cases hn0 : n = 0
  · subst hn0
    have hf : Hid (texP l = [45]) := hide (by rw [List.eq_nil_of_length_eq_zero HA.out.1]; rfl)
    go_enter Tryz.func77, Tryz.ntmps77
    go_wp2
    go_ret
    exact ⟨ret_str (by rw [hf.out]; rfl), Below.refl _ _⟩
  · have hln : Hid (l ≠ []) := hide (fun e => hn0 (by rw [← HA.out.1, e]; rfl))
    have hne : ((n : Int) == 0) = false := by simp; omega
    clear hn0
    go_enter Tryz.func77, Tryz.ntmps77
    go_wp2_with (at_make; refine wpList_make_own _ rfl _ _ 65 rfl w.heap.size 9 i0 _ 1 Tryz.underlying65 hi hz0 hz1 .i64 .i64 _ n rfl rfl rfl (by rw [hz2]; omega) (by unfold maxLen; omega) (Nat.le_refl _) ?_; intro w1 hown1 hg1; have HO1 := hide hown1; have HG1 := hide hg1; clear hown1 hg1)
    have HB1 : Hid (Below w.heap.size w w1) := hide (Below.grown (Below.refl _ w) HG1.out (Nat.le_refl _) (fun k hk => by cases hk))
    go_loopw [3, 14] (fun v i wr => ∃ (k : Nat) (ps : List (List UInt8)), k ≤ n ∧ i = .int .i64 (k : Nat) ∧ ps = (l.take k).map commT ∧ ps.length = k ∧ wr.ownsRow w.heap.size 9 1 v k (strv ps) ∧ (∃ A c, v = .slice A k c) ∧ Below w.heap.size w wr) (fun _ i _ => n - (intOf i).toNat)
    case atStart => exact ⟨0, [], by omega, rfl, by simp, rfl, HO1.out, ⟨_, _, rfl⟩, HB1.out⟩
    case round =>
      obtain ⟨k, ps, hk, rfl, hps, hpl, hown, ⟨A', c', rfl⟩, hb⟩ := hrel
      have HP := hide hps
      have HPL := hide hpl
      have HO := hide hown
      have HBl := hide hb
      have HA2 := hide (HA.out.below hb)
      have HT2 := hide (HT.out.below hb)
      clear hps hpl hown hb
      by_cases hlt : k < n
      · obtain ⟨g, o, x, rfl, hg, hx, hx2, hc⟩ := HA2.out.at_ hlt
        have HX := hide hx
        have hsn := hide (show (l.take (k + 1)).map commT = ps ++ [commT x] by rw [take_snoc_eq hx, List.map_append, HP.out]; rfl)
        clear hx
        have HH := hide (text_any x hx2 wr HT2.out)
        go_wp2_with fail
        refine HH.out.mono ?_
        rintro e w2 ⟨rfl, hb2⟩
        have HB2 := hide (HBl.out.trans (hb2.mono HBl.out.size))
        have HO2 := hide (own_below HO.out hb2)
        have hsz2 := (HBl.out.trans (hb2.mono HBl.out.size)).size
        clear hb2
        go_wp2_with (at_builtin; refine wpList_append_any _ rfl (.tmp 18) (.tmp 21) 65 rfl w.heap.size 9 i0 _ 1 16 Tryz.underlying65 hi hz0 hz1 hz2 rfl (by decide) (.slice A' k c') k (strv ps) rfl (HO2.out.alloc _) (w2.heap.size + 1) (some ⟨w2.heap.size, 0, none⟩) 1 1 [.string (str (commT x))] rfl ((reads_oneS (by simp)).more (by simp)) (by simp [Value.oneCell']) (by unfold maxLen; omega) (by omega) (by simp; omega) ?_; intro v' w3 hown' hgrow hat; have HO3 := hide hown'; have HG3 := hide hgrow; clear hown' hgrow hat)
        have HB3 : Hid (Below w.heap.size w w3) := hide (Below.grown (HB2.out.alloc (by omega) (.cells #[.string (str (commT x))] 9)) HG3.out (by simp; omega) (fun k hk => (HO2.out.lt k hk).1))
        have HV : Hid (∃ A c, v' = .slice A (k + 1) c) := hide (own_slice HO3.out)
        have HF : Hid (w3.ownsRow w.heap.size 9 1 v' (k + 1) (strv (ps ++ [commT x]))) := hide (by rw [strv_snoc]; exact HO3.out)
        go_roundw
        case rel => exact ⟨k + 1, _, by omega, by go_num, hsn.out.symm, by rw [List.length_append, HPL.out]; rfl, HF.out, HV.out, HB3.out⟩
        case measure => simp [intOf]; omega
      · obtain rfl : k = n := by omega
        have hte : Hid (texP l = jw ps) := hide (by
          have := HP.out
          rw [List.take_of_length_le (by rw [HA2.out.1]; exact Nat.le_refl _)] at this
          unfold texP
          rw [if_neg hln.out, this]; rfl)
        have HJ := hide (join_own A' k c' _ ps wr HO.out (by omega) (fun p hp => by
          rw [HP.out] at hp
          obtain ⟨y, hy, rfl⟩ := List.mem_map.1 hp
          exact commT_len y (HA2.out.2.2.2.1 y (List.mem_of_mem_take hy))))
        go_wp2_with fail
        refine HJ.out.mono ?_
        rintro e w2 ⟨rfl, hb2⟩
        have HB2 := hide (HBl.out.trans (hb2.mono HBl.out.size))
        clear hb2
        go_wp2
        go_ret
        exact ⟨ret_str (by rw [hte.out]), HB2.out⟩
theorem cTexts_any (A : Option Addr) (n c : Nat) (l : List Nat) (w : World) (h : U32s w A n c l) (hn : n ≤ 100) (ht : Tab w) :
    Calls Tryz.prog 59 #[.slice A n c] w fun e w' => e = .returned (.string (str (texP l))) ∧ Below w.heap.size w w' := by
  have HT := hide (ctexts_any A n c l w h hn ht)
  clear h ht
  go_enter Tryz.func59, Tryz.ntmps59
  go_wp2_with fail
  refine HT.out.mono ?_
  rintro e w1 ⟨rfl, hb⟩
  have HB := hide hb
  clear hb
  go_wp2
  go_ret
  exact ⟨rfl, HB.out⟩
/-- slices.Clip: the slice, of no more room than it is long. -/
theorem clip_any (g n c : Nat) (w : World) (hn : n ≤ c) (hc : c ≤ maxLen) : Calls Tryz.prog 56 #[.slice (some ⟨g, 0, none⟩) n c] w fun e w' => e = .returned (.slice (some ⟨g, 0, none⟩) n n) ∧ w' = w := by
  unfold maxLen at hc
  go_enter Tryz.func56, Tryz.ntmps56
  go_wp2
  go_ret
  exact ⟨rfl, rfl⟩
end Go.Proofs.YtpgffbomlmmncaaGreatDoor
set_option linter.unusedSimpArgs false
set_option linter.unusedVariables false
namespace Go.Proofs.YtpgffbomlmmncaaGreatDoor
open Go.RowKit
attribute [local go_sem] Oper.semAt_some
theorem pieces_len (c : UInt8) : ∀ s : List UInt8, (pieces c s).length ≤ s.length + 1
  | [] => by simp [pieces]
  | x :: l => by
    have := pieces_len c l
    unfold pieces
    split
    · simp; omega
    · simp; omega
/-- The world in which the loop begins. -/
def paW (s : ByteArray) (w : World) : World :=
  (((((w.alloc (.cells #[.slice none 0 0] 25)).alloc (.cells #[.int .i64 0] 51)).alloc (.cells #[.slice none 0 0] 25)).alloc (.cells #[.string s] 9)).alloc (.cells #[.string ⟨#[32]⟩] 9)).alloc (.cells #[.int .i64 0] 3)
theorem paW_size (s : ByteArray) (w : World) : (paW s w).heap.size = w.heap.size + 6 := by simp [paW]
theorem paW_below (s : ByteArray) (w : World) : Below w.heap.size w (paW s w) := by
  unfold paW
  exact ((((((Below.refl _ w).alloc (Nat.le_refl _) _).alloc (by simp) _).alloc (by simp; omega) _).alloc (by simp; omega) _).alloc (by simp; omega) _).alloc (by simp; omega) _
theorem blk_new' {w : World} {g : Nat} (t : TypeId) (cs : Array Value) (h : g = w.heap.size) : Blk (w.alloc (.cells cs t)) g t cs := by subst h; exact Blk.new w t cs
theorem paW_blks (s : ByteArray) (w : World) : Blk (paW s w) w.heap.size 25 #[.slice none 0 0] ∧ Blk (paW s w) (w.heap.size + 1) 51 #[.int .i64 0] ∧ Blk (paW s w) (w.heap.size + 2) 25 #[.slice none 0 0] ∧
    Blk (paW s w) (w.heap.size + 3) 9 #[.string s] ∧ Blk (paW s w) (w.heap.size + 3 + 1) 9 #[.string ⟨#[32]⟩] ∧ Blk (paW s w) (w.heap.size + 3 + 2) 3 #[.int .i64 0] := by
  unfold paW
  exact ⟨(((((Blk.new w _ _).alloc _).alloc _).alloc _).alloc _).alloc _, ((((blk_new' _ _ (by simp)).alloc _).alloc _).alloc _).alloc _, (((blk_new' _ _ (by simp)).alloc _).alloc _).alloc _, ((blk_new' _ _ (by simp)).alloc _).alloc _, (blk_new' _ _ (by simp)).alloc _, blk_new' _ _ (by simp)⟩
/-- What the loop has: the results' cells, 'out' and its row, and whatever lay. -/
structure PaSt (H : Nat) (w W : World) (v : Value) (xs : List Nat) : Prop where
  c0 : Blk W H 25 #[.slice none 0 0]
  c1 : Blk W (H + 1) 51 #[.int .i64 0]
  c2 : Blk W (H + 2) 25 #[v]
  own : W.ownsRow (H + 6) 46 1 v xs.length (u32c xs)
  bel : Below H w W
  siz : H + 6 ≤ W.heap.size
/-- .. where it has stopped at a piece that is none. -/
structure PaEx (H : Nat) (w W : World) : Prop where
  c0 : Blk W H 25 #[.slice none 0 0]
  c1 : Blk W (H + 1) 51 #[.int .i64 2]
  bel : Below H w W
theorem row_apart {A B : World} {H lo g : Nat} {row : Option Nat} {t : TypeId} {cs : Array Value} (h : Blk A g t cs) (hg : A.grownBy B row) (hr : ∀ r, row = some r → r = H + 3 ∨ (lo ≤ r ∧ ∃ o : Obj, A.heap[r]? = some o ∧ o.isCells = false)) (hn : g ≠ H + 3) : Blk B g t cs :=
  h.grown hg (fun e => by
    rcases hr g e.symm with h' | ⟨_, o, ho, hc⟩
    · exact hn h'
    · unfold Blk at h; rw [h] at ho; cases ho; cases hc)
theorem own_apart {A B : World} {H lo e k : Nat} {row : Option Nat} {v : Value} {xs : List Value} (h : A.ownsRow (H + 6) e 1 v k xs) (hg : A.grownBy B row) (hr : ∀ r, row = some r → r = H + 3 ∨ (lo ≤ r ∧ ∃ o : Obj, A.heap[r]? = some o ∧ o.isCells = false)) : B.ownsRow (H + 6) e 1 v k xs :=
  h.kept hg (by
    rcases h.2 with ⟨rfl, _⟩ | ⟨g, cap, cur, rfl, h6, hgc, _⟩
    · exact .inl rfl
    · refine .inr (fun e => ?_)
      rcases hr g e.symm with h' | ⟨_, o, ho, hc⟩
      · omega
      · rw [hgc] at ho; cases ho; cases hc)
theorem below_apart {a A B : World} {H lo : Nat} {row : Option Nat} (h : Below H a A) (hA : H ≤ A.heap.size) (hlo : H ≤ lo) (hg : A.grownBy B row) (hr : ∀ r, row = some r → r = H + 3 ∨ (lo ≤ r ∧ ∃ o : Obj, A.heap[r]? = some o ∧ o.isCells = false)) : Below H a B :=
  h.grown hg hA (fun k hk => by rcases hr k hk with h' | ⟨h', _⟩ <;> omega)
theorem PaSt.abide {H : Nat} {w A B : World} {v : Value} {xs : List Nat} {row : Option Nat} {lo : Nat} (h : PaSt H w A v xs) (hlo : H ≤ lo) (hg : A.grownBy B row) (hr : ∀ r, row = some r → r = H + 3 ∨ (lo ≤ r ∧ ∃ o : Obj, A.heap[r]? = some o ∧ o.isCells = false)) : PaSt H w B v xs :=
  ⟨row_apart h.c0 hg hr (by omega), row_apart h.c1 hg hr (by omega), row_apart h.c2 hg hr (by omega), own_apart h.own hg hr, below_apart h.bel (Nat.le_of_lt h.c0.lt) hlo hg hr, Nat.le_trans h.siz hg.size⟩
theorem PaEx.abide {H : Nat} {w A B : World} {row : Option Nat} {lo : Nat} (h : PaEx H w A) (hlo : H ≤ lo) (hg : A.grownBy B row) (hr : ∀ r, row = some r → r = H + 3 ∨ (lo ≤ r ∧ ∃ o : Obj, A.heap[r]? = some o ∧ o.isCells = false)) : PaEx H w B :=
  ⟨row_apart h.c0 hg hr (by omega), row_apart h.c1 hg hr (by omega), below_apart h.bel (Nat.le_of_lt h.c0.lt) hlo hg hr⟩
theorem PaSt.below {H : Nat} {w A B : World} {v : Value} {xs : List Nat} (h : PaSt H w A v xs) (hb : Below A.heap.size A B) : PaSt H w B v xs :=
  ⟨h.c0.below hb h.c0.lt, h.c1.below hb h.c1.lt, h.c2.below hb h.c2.lt, own_below h.own hb, h.bel.trans (hb.mono (Nat.le_of_lt h.c0.lt)), Nat.le_trans h.siz hb.size⟩
theorem KeepsFrom.below {lo : Nat} {A B : World} (hb : Below A.heap.size A B) : KeepsFrom lo A B :=
  ⟨hb.size, fun k o _ hk _ => (hb.block k (Array.getElem?_eq_some_iff.1 hk).1).trans hk⟩
theorem own_cells {w : World} {base e size n : Nat} {v : Value} {xs : List Value} (h : w.ownsRow base e size v n xs) : ∀ r, v.ownBlock = some r → base ≤ r ∧ ∃ o : Obj, w.heap[r]? = some o ∧ o.isCells = true := by
  intro r hr
  rcases h.2 with ⟨rfl, _⟩ | ⟨g, cap, cur, rfl, h6, hgc, _⟩
  · cases hr
  · cases hr
    exact ⟨h6, _, hgc, rfl⟩
theorem pa_step {H lo : Nat} {W w1 w3 : World} {o : Obj} {v v' : Value} (hb1 : Below W.heap.size W w1) (hH : H + 6 ≤ W.heap.size) (hv : ∀ r, v.ownBlock = some r → H + 6 ≤ r ∧ ∃ o' : Obj, (w1.alloc o).heap[r]? = some o' ∧ o'.isCells = true)
    (hg : (w1.alloc o).grownBy w3 v.ownBlock) : KeepsFrom lo W (w3.setCell ⟨H + 2, 0, none⟩ v') ∧ KpR (H + 3) (H + 6) W (w3.setCell ⟨H + 2, 0, none⟩ v') := by
  constructor
  · refine (((KeepsFrom.below hb1).trans ((KeepsOthers.alloc w1 o).from lo)).trans ((KeepsOthers.of_grownBy hg (fun j o' hj ho => ?_)).from lo)).trans ((KeepsOthers.setCell _ _ _).from lo)
    obtain ⟨_, o2, h2, h3⟩ := hv j hj
    rw [h2] at ho; cases ho; exact h3
  · refine ((((KpR.of_below hb1 hb1.size hH).trans (KpR.alloc w1 o (Nat.le_trans hH hb1.size)))).trans ⟨hg.size, fun k h0 h1 => hg.block k (by have := hb1.size; simp; omega) (fun e => by have := (hv k e.symm).1; omega)⟩).trans ⟨?_, fun k h0 h1 => Below.heap_setCell w3 _ _ k (by show k ≠ H + 2; omega)⟩
    exact (KeepsOthers.setCell w3 _ _).size
theorem pa_put {H : Nat} {w w1 w3 : World} {o : Obj} {v v' : Value} {xs : List Nat} {x : Nat} (h : PaSt H w w1 v xs) (hs : H + 6 ≤ w1.heap.size) (hown : w3.ownsRow (H + 6) 46 1 v' (xs.length + 1) (u32c xs ++ [.int .u32 (x : Int)])) (hg : (w1.alloc o).grownBy w3 v.ownBlock) :
    PaSt H w (w3.setCell ⟨H + 2, 0, none⟩ v') v' (xs ++ [x]) := by
  have hne : ∀ k, k < H + 6 → some k ≠ v.ownBlock := fun k hk e => by have := (own_cells h.own k e.symm).1; omega
  have hne' : v'.ownBlock ≠ some (H + 2) := fun e => by have := (own_cells hown _ e).1; omega
  have hsz : H ≤ w1.heap.size := by omega
  refine ⟨((h.c0.alloc o).grown hg (hne _ (by omega))).far (by simp) _, ((h.c1.alloc o).grown hg (hne _ (by omega))).far (by simp) _, ((h.c2.alloc o).grown hg (hne _ (by omega))).set0 rfl, ?_, ?_, ?_⟩
  · rw [List.length_append, u32c_snoc]
    exact own_set hown hne' _
  · have hb := (h.bel.alloc hsz o).grown hg (by simp; omega) (fun k hk => by have := (own_cells h.own k hk).1; omega)
    exact hb.setCell (p := ⟨H + 2, 0, none⟩) (by show H ≤ H + 2; omega) _
  · have := hg.size
    have := (KeepsOthers.setCell w3 ⟨H + 2, 0, none⟩ v').size
    simp at *; omega
/-- What comm.ParseAll hands back. -/
def PaP (s : List UInt8) (w : World) (e : Ending) (w' : World) : Prop :=
  Below w.heap.size w w' ∧
  ((∃ (A : Option Addr) (c : Nat) (r : List Nat), e = .returned (.tuple #[.slice A r.length c, .int .i64 0]) ∧ U32s w' A r.length c r ∧ r.length ≤ 701 ∧ riseB r = true ∧ s = texP r) ∨
   (e = .returned (.tuple #[.slice none 0 0, .int .i64 2]) ∧ ∀ l : List Nat, (∀ x ∈ l, x < 4294967296) → s = texP l → riseB l = false))
theorem Blk.put {W : World} {g D : Nat} {t : TypeId} {cs : Array Value} (h : Blk W g t cs) (hne : g ≠ D) (o : Obj) : Blk (W.putObj D o) g t cs := (World.putObj_heap_other hne).trans h
theorem below_put {H D : Nat} {a W : World} {o : Obj} (h : Below H a W) (hK : W.heap[D]? = some o) (hD : H ≤ D) (o' : Obj) : Below H a (W.putObj D o') :=
  h.grown (grownBy_putObj' W D o') (by have := (Array.getElem?_eq_some_iff.1 hK).1; omega) (fun k e => by cases e; exact hD)
theorem pa_ret {s : List UInt8} {w W : World} {a : Act} {D : Nat} {A0 : Option Addr} {n0 m : Nat} {q : Int} (k0 : Blk W w.heap.size 25 #[.slice A0 n0 m]) (k1 : Blk W (w.heap.size + 1) 51 #[.int .i64 q]) (hK : W.heap[D]? = some (.deferred (some []))) (hD : w.heap.size + 6 ≤ D)
    (hd : a.defers = [{ target := .collected D, args := #[] }]) (t2 : a.tmps[2]?.getD undef = .pointer (some ⟨w.heap.size, 0, none⟩)) (t3 : a.tmps[3]?.getD undef = .pointer (some ⟨w.heap.size + 1, 0, none⟩))
    (R : PaP s w (.returned (.tuple #[.slice A0 n0 m, .int .i64 q])) (W.putObj D (.deferred none))) : bodyPostM Fence.wide 5 Tryz.prog Tryz.f44 (PaP s w) Exit.ret a W := by
  have j0 := k0.put (D := D) (by omega) (.deferred none)
  have j1 := k1.put (D := D) (by omega) (.deferred none)
  have e0 := j0.cell 0
  have e1 := j1.cell 0
  have f0 := j0.frozen 0
  have f1 := j1.frozen 0
  show LeavesInM Fence.wide 5 Tryz.prog Tryz.f44 a.tmps (PaP s w) a.defers .returning W
  rw [hd]
  refine ⟨by simp, .inl ⟨_, _, rfl, run_takeDeferred hK, ?_⟩⟩
  refine ⟨.tuple #[.slice A0 n0 m, .int .i64 q], ?_, R⟩
  simp [results, Tryz.results44, go_sem, t2, t3, e0, e1, f0, f1]
set_option maxRecDepth 100000 in
set_option maxHeartbeats 2000000 in
theorem parseAll_any (s : List UInt8) (hs : s.length ≤ 700) (hp : ∀ p ∈ pieces 32 s, p.length ≤ 400) (w : World) (he : Env w) :
    Calls Tryz.prog 44 #[.string (str s)] w (PaP s w) := by
  have HE := hide he
  by_cases hd : s = [45]
  · have hd1 : ((str s).toList == [45]) = true := by rw [hd]; unfold str; rw [ByteArray.toList_mk]; rfl
    have HD := hide hd
    clear hd
    go_enter Tryz.func44, Tryz.ntmps44
    go_wp2
    have k0 := (Blk.new w 25 #[.slice none 0 0]).alloc (.cells #[.int .i64 0] 51)
    have k1 := blk_new' (w := w.alloc (.cells #[.slice none 0 0] 25)) (g := w.heap.size + 1) 51 #[.int .i64 0] (by simp)
    have r0 := k0.cell 0
    have r1 := k1.cell 0
    have q0 := k0.frozen 0
    have q1 := k1.frozen 0
    refine bodyPost_ret (v := .tuple #[.slice none 0 0, .int .i64 0]) (by simp [results, Tryz.results44, go_sem, r0, r1, q0, q1]) rfl ⟨((Below.refl _ w).alloc (Nat.le_refl _) _).alloc (by simp) _, .inl ⟨none, 0, [], rfl, ⟨rfl, Nat.le_refl _, by simp [maxLen], by simp, fun h => absurd h (by simp)⟩, by simp, rfl, ?_⟩⟩
    rw [HD.out]; rfl
  · have hd1 : ((str s).toList == [45]) = false := by
      unfold str; rw [ByteArray.toList_mk]; simpa using hd
    have HD := hide hd
    clear hd
    refine (callsIn_wide (n := 5)).1 (callsIn_of_wp_marks Tryz.func44 rfl trivial ?_ rfl)
    simp only [Tryz.ntmps44, List.size_toArray, List.length_cons, List.length_nil, Nat.reduceAdd, Nat.reduceSub, Array.replicate_succ, Array.replicate_zero, List.push_toArray, List.append_toArray, List.nil_append, List.cons_append]
    gi_wp2_with (refine ⟨trivial, ?_⟩; gi_at_call 54; refine (callsIn_wide.2 (SplitSeq_any _ _ _)).mono ?_; rintro e w1 ⟨rfl, rfl⟩)
    obtain ⟨k0, k1, k2, k3, k4, k5⟩ := paW_blks (str s) w
    have hsz := paW_size (str s) w
    refine wpIn_rangeFunc_cell (w := paW (str s) w) rfl (by omega) (gf := 93) (lb := #[.pointer (some ⟨w.heap.size + 3 + 1, 0, none⟩), .pointer (some ⟨w.heap.size + 3, 0, none⟩), .pointer (some ⟨w.heap.size + 3 + 2, 0, none⟩)]) rfl trivial (enters_of Tryz.func93 (by kernel_rfl) rfl)
      (encs := fun x : List UInt8 => #[.string (str x)]) (b0 := w.heap.size + 3) (b1 := w.heap.size + 6) (by omega) (by omega) (xs := pieces 32 s)
      (fun l W hk => splitSeq1_in 4 (by omega) l (w.heap.size + 3) 32 s (by omega) _ rfl W (hk.blk (by omega) (by omega) k3) (hk.blk (by omega) (by omega) k4) (hk.blk (by omega) (by omega) k5)) (fun _ => rfl)
      (fun pre W => ∃ (v : Value) (xs : List Nat), pre = xs.map commT ∧ (∀ x ∈ xs, x < 4294967296) ∧ PaSt w.heap.size w W v xs)
      (fun c pre W => c = .ret ∧ (∃ p ∈ pre, ∀ x, x < 4294967296 → p ≠ commT x) ∧ PaEx w.heap.size w W)
      (fun s A B row hs hg hr => by
        obtain ⟨v, xs, h1, h2, h3⟩ := hs
        exact ⟨v, xs, h1, h2, h3.abide (by omega) hg hr⟩)
      (fun c s A B row hs hg hr => ⟨hs.1, hs.2.1, hs.2.2.abide (by omega) hg hr⟩)
      ⟨_, [], rfl, by simp, k0, k1, k2, World.ownsRow_nil _ _ _ _, paW_below _ _, by omega⟩
      (fun x => { tmps := #[.string (str s), undef, .pointer (some ⟨w.heap.size, 0, none⟩), .pointer (some ⟨w.heap.size + 1, 0, none⟩), .pointer (some ⟨w.heap.size + 2, 0, none⟩), .string (str x), undef, undef, .string (str s), .bool false, .string (str s),
          .func (.func 93) #[] #[.pointer (some ⟨w.heap.size + 3 + 1, 0, none⟩), .pointer (some ⟨w.heap.size + 3, 0, none⟩), .pointer (some ⟨w.heap.size + 3 + 2, 0, none⟩)], .string (str x), undef, undef, undef, undef, undef, undef, undef, undef, undef, undef, undef, undef, undef, undef, undef, undef], defers := [] }) ?assign ?body ?done ?stop
    case assign =>
      intro l x W K hK
      gi_wp2
      exact hK
    case body =>
      rintro l pre p post W hx ⟨v, xs, hpre, hxb, hst⟩
      have hlen : p.length ≤ 400 := hp p (by rw [← hx]; simp)
      have HC := hide (cparse4_any p hlen W (HE.out.below hst.bel))
      have HS := hide hst
      have hxl : xs.length ≤ 700 := by
        have h1 := pieces_len 32 s
        rw [← hx, hpre] at h1
        simp at h1; omega
      have hsW : w.heap.size + 6 ≤ W.heap.size := hst.siz
      have HP := hide hpre
      have HXB := hide hxb
      obtain ⟨i0, hi, hz0, hz1, hz2⟩ := info_parts info32
      clear hpre hxb hst hx
      gi_wp2_with fail
      refine ⟨trivial, ?_⟩
      gi_at_call 55
      refine (CallsIn.inRound l (callsIn_wide.2 HC.out)).mono ?_
      rintro e w1 ⟨hb1, c, b, hc, rfl, h1, h2⟩
      have HS1 := hide (HS.out.below hb1)
      have HB1 := hide hb1
      have hs1 := hb1.size
      have d0 := HS1.out.c0.cell 0
      have d1 := HS1.out.c1.cell 0
      have d2 := HS1.out.c2.cell 0
      have f0 := HS1.out.c0.frozen 0
      have f1 := HS1.out.c1.frozen 0
      have f2 := HS1.out.c2.frozen 0
      have H1 := hide h1
      have H2 := hide h2
      clear hb1 h1 h2
      cases b
      · gi_wp2
        refine ⟨((KeepsFrom.below HB1.out).trans ((KeepsOthers.setCell _ _ _).from _)).trans ((KeepsOthers.setCell _ _ _).from _), rfl, ⟨p, by simp, fun x hx e => by have := (H2.out x hx e).1; cases this⟩, ?_⟩
        exact ⟨((HS1.out.c0.set0 rfl).far (by simp) _), ((HS1.out.c1.far (by simp) _).set0 rfl), (HS1.out.bel.setCell (p := ⟨w.heap.size, 0, none⟩) (Nat.le_refl _) _).setCell (p := ⟨w.heap.size + 1, 0, none⟩) (by show w.heap.size ≤ w.heap.size + 1; omega) _⟩
      · obtain ⟨A0, c0, rfl⟩ := own_slice HS1.out.own
        gi_wp2_with (gi_at_builtin; refine wpListIn_append_own _ rfl (.tmp 20) (.tmp 22) 25 rfl (w.heap.size + 6) 46 i0 _ 1 4 Tryz.underlying25 hi hz0 hz1 hz2 rfl (by decide) (.slice A0 xs.length c0) xs.length (u32c xs) rfl (HS1.out.own.alloc _) ⟨w1.heap.size, 0, none⟩ 1 1 [.int .u32 (c : Int)] rfl rfl (cell_one_new _ _ _) (by simp [Value.oneCell']) (by unfold maxLen; omega) (by omega) (by simp; omega) ?_; intro v' w3 hown' hgrow _; have HO := hide hown'; have HG := hide hgrow; obtain ⟨A', c', rfl⟩ := own_slice hown'; clear hown' hgrow; have k23 : Blk w3 (w.heap.size + 2) 25 #[.slice A0 xs.length c0] := (HS1.out.c2.alloc _).grown HG.out (fun e => by have := (own_cells HS1.out.own _ e.symm).1; omega); have d23 := k23.cell 0; have f23 := k23.frozen 0)
        have hst := pa_step (lo := (paW (str s) w).heap.size) (v' := .slice A' (xs.length + 1) c') HB1.out hsW (own_cells (HS1.out.own.alloc _)) HG.out
        exact ⟨hst.1, hst.2, _, xs ++ [c], by rw [HP.out, List.map_append, H1.out trivial]; rfl, fun x hx => by
          rcases List.mem_append.1 hx with hx | hx
          · exact HXB.out x hx
          · rw [List.mem_singleton.1 hx]; exact hc, pa_put HS1.out (by omega) HO.out HG.out⟩
    case done =>
      rintro D W hD ⟨v, xs, hpre, hxb, hst⟩ hK
      have hxl : xs.length ≤ 701 := by
        have h1 := pieces_len 32 s
        rw [hpre] at h1
        simp at h1; omega
      have hne : xs ≠ [] := by
        rintro rfl
        exact pieces_ne 32 s hpre
      have hxs := hide (show s = texP xs by
        unfold texP ct
        rw [if_neg hne, ← hpre, jw_pieces])
      obtain ⟨A0, c0, rfl⟩ := own_slice hst.own
      have HU := hide (U32s.of_own hst.own hxb)
      have HI := hide (asnIs_any A0 xs.length c0 xs W HU.out (by omega))
      have HS := hide hst
      have d2 := hst.c2.cell 0
      rw [hsz] at hD
      clear hpre hxb hst
      gi_wp2_with fail
      refine ⟨trivial, ?_⟩
      gi_at_call 40
      refine (callsIn_wide.2 HI.out).mono ?_
      rintro e w1 ⟨rfl, hb1⟩
      have HS1 := hide (HS.out.below hb1)
      have HU1 := hide (HU.out.below hb1)
      have hK1 := (hb1.block D (Array.getElem?_eq_some_iff.1 hK).1).trans hK
      have e0 := HS1.out.c0.cell 0
      have e1 := HS1.out.c1.cell 0
      have e2 := HS1.out.c2.cell 0
      have f0 := HS1.out.c0.frozen 0
      have f1 := HS1.out.c1.frozen 0
      clear hb1 hK
      rcases hri : riseB xs with _ | _
      · have HRI := hide hri
        clear hri
        gi_wp2
        have hK2 : ((w1.setCell ⟨w.heap.size, 0, none⟩ (.slice none 0 0)).setCell ⟨w.heap.size + 1, 0, none⟩ (.int .i64 2)).heap[D]? = some (.deferred (some [])) :=
          (KeepsOthers.setCell _ _ _).same D _ ((KeepsOthers.setCell w1 _ _).same D _ hK1 rfl) rfl
        refine pa_ret ((HS1.out.c0.set0 rfl).far (by simp) _) ((HS1.out.c1.far (by simp) _).set0 rfl) hK2 hD rfl rfl rfl ⟨below_put ((HS1.out.bel.setCell (p := ⟨w.heap.size, 0, none⟩) (Nat.le_refl _) _).setCell (p := ⟨w.heap.size + 1, 0, none⟩) (by show w.heap.size ≤ w.heap.size + 1; omega) _) hK2 (by omega) _, .inr ⟨rfl, fun l hl e => ?_⟩⟩
        rw [← texP_inj (hxs.out.symm.trans e)]
        exact HRI.out
      · have HRI := hide hri
        clear hri
        obtain ⟨g, cap, hv, hg6, hg⟩ := HS1.out.own.form (by cases xs with | nil => exact absurd rfl hne | cons x r => simp)
        cases hv
        have hcp := HU1.out.2.1
        have hcm := HU1.out.2.2.1
        have HCL := hide (clip_any g xs.length c0 w1 hcp hcm)
        gi_wp2_with fail
        refine ⟨trivial, ?_⟩
        gi_at_call 56
        refine (callsIn_wide.2 HCL.out).mono ?_
        rintro e w2 ⟨rfl, rfl⟩
        gi_wp2
        have hK2 : ((w2.setCell ⟨w.heap.size, 0, none⟩ (.slice (some ⟨g, 0, none⟩) xs.length xs.length)).setCell ⟨w.heap.size + 1, 0, none⟩ (.int .i64 0)).heap[D]? = some (.deferred (some [])) :=
          (KeepsOthers.setCell _ _ _).same D _ ((KeepsOthers.setCell w2 _ _).same D _ hK1 rfl) rfl
        refine pa_ret ((HS1.out.c0.set0 rfl).far (by simp) _) ((HS1.out.c1.far (by simp) _).set0 rfl) hK2 hD rfl rfl rfl ⟨below_put ((HS1.out.bel.setCell (p := ⟨w.heap.size, 0, none⟩) (Nat.le_refl _) _).setCell (p := ⟨w.heap.size + 1, 0, none⟩) (by show w.heap.size ≤ w.heap.size + 1; omega) _) hK2 (by omega) _, .inl ⟨_, _, xs, rfl, ?_, hxl, HRI.out, hxs.out⟩⟩
        refine ⟨rfl, Nat.le_refl _, by unfold maxLen; omega, HU1.out.2.2.2.1, fun hn => ?_⟩
        obtain ⟨g', o', hA, hg', hcs⟩ := HU1.out.2.2.2.2 hn
        cases hA
        have hsw := (KeepsOthers.setCell w2 ⟨w.heap.size, 0, none⟩ (.slice (some ⟨g, 0, none⟩) xs.length xs.length)).size
        have hsw2 := (KeepsOthers.setCell (w2.setCell ⟨w.heap.size, 0, none⟩ (.slice (some ⟨g, 0, none⟩) xs.length xs.length)) ⟨w.heap.size + 1, 0, none⟩ (.int .i64 0)).size
        refine ⟨g, 0, rfl, by simp; omega, fun k x hk => ?_⟩
        rw [← hcs k x hk]
        have hgD : g ≠ D := by
          rintro rfl
          rcases HS1.out.own.2 with ⟨h0, _⟩ | ⟨g2, cap2, cur, h0, _, hgc, _⟩
          · cases h0
          · cases h0; rw [hgc] at hK1; cases hK1
        exact World.cell?_of_block ((World.putObj_heap_other hgD).trans ((Below.heap_setCell _ _ _ g (by show g ≠ w.heap.size + 1; omega)).trans (Below.heap_setCell _ _ _ g (by show g ≠ w.heap.size; omega))))
    case stop =>
      rintro D c pre x post W hD hx ⟨rfl, hbad, hex⟩ hK
      have e0 := hex.c0.cell 0
      have e1 := hex.c1.cell 0
      have f0 := hex.c0.frozen 0
      have f1 := hex.c1.frozen 0
      rw [hsz] at hD
      gi_wp2
      refine pa_ret hex.c0 hex.c1 hK hD rfl rfl rfl ⟨below_put hex.bel hK (by omega) _, .inr ⟨rfl, fun l hl e => ?_⟩⟩
      obtain ⟨p, hpm, hpn⟩ := hbad
      have hpp : p ∈ pieces 32 s := by
        rw [← hx]
        rcases List.mem_append.1 hpm with h | h
        · exact List.mem_append_left _ h
        · rw [List.mem_singleton.1 h]; simp
      have hl0 : l ≠ [] := by
        rintro rfl
        exact HD.out (e.trans rfl)
      rw [e, texP, if_neg hl0, ct_pieces hl0] at hpp
      obtain ⟨y, hy, rfl⟩ := List.mem_map.1 hpp
      exact absurd rfl (hpn y (hl y hy))
end Go.Proofs.YtpgffbomlmmncaaGreatDoor
set_option linter.unusedSimpArgs false
set_option linter.unusedVariables false
namespace Go.Proofs.YtpgffbomlmmncaaGreatDoor
open Go.RowKit
attribute [local go_sem] Oper.semAt_some
theorem KpR.setC {b0 b1 : Nat} (A : World) {p : Addr} (v : Value) (hp : p.block < b0) : KpR b0 b1 A (A.setCell p v) :=
  ⟨(KeepsOthers.setCell A p v).size, fun k h0 _ => Below.heap_setCell A p v k (by omega)⟩
end Go.Proofs.YtpgffbomlmmncaaGreatDoor
set_option linter.unusedSimpArgs false
set_option linter.unusedVariables false
namespace Go.Proofs.YtpgffbomlmmncaaGreatDoor
open Go.RowKit
theorem joinOwn2 (A : Option Addr) (k c base : Nat) (l : List (List UInt8)) (w : World) (h : w.ownsRow base 9 1 (.slice A k c) k (strv l)) (hk : k ≤ 1000) (hl : (jw l).length ≤ 100000) :
    Calls Tryz.prog 73 #[.slice A k c, .string ⟨#[32]⟩] w fun e w' => e = .returned (.string (str (jw l))) ∧ Below w.heap.size w w' := by
  have hlk : l.length = k := by have := h.1; simp [strv] at this; omega
  by_cases hk0 : k = 0
  · subst hk0
    obtain rfl : l = [] := List.eq_nil_of_length_eq_zero hlk
    refine (Tryz.strings_Join_none A c ⟨#[32]⟩ w).mono ?_
    rintro e w' ⟨rfl, rfl⟩
    exact ⟨rfl, Below.refl _ _⟩
  · obtain ⟨g, cap, hv, _, hlt⟩ := h.form (by omega)
    cases hv
    have hcap : k ≤ c := by
      rcases h.2 with ⟨hv, h0⟩ | ⟨g', cap', cur, hv, _, _, hnc, _⟩
      · cases hv
      · cases hv; exact hnc
    have hm : (l.map str).map (·.data.toList) = l := by rw [List.map_map]; exact (List.map_congr_left (fun x _ => str_data x)).trans (List.map_id l)
    have hj := Tryz.strings_Join g 0 c (l.map str) ⟨#[32]⟩ w (fun j x hx => by
        have := h.cells (g := g) rfl j (.string x) (by simp only [strv, List.getElem?_map] at hx ⊢; rw [Option.map_eq_some_iff] at hx ⊢; obtain ⟨y, hy, rfl⟩ := hx; exact ⟨y, hy, rfl⟩)
        rw [show (⟨g, 0, none⟩ : Addr).add j = ⟨g, 0 + j, none⟩ by unfold Addr.add; split <;> simp_all] at this
        exact this) hlt (by simp; omega) (by simp; omega) (by
        rw [hm]
        unfold jw at hl
        show (Lib.join l [32]).length ≤ _
        omega)
    rw [hm, List.length_map, hlk] at hj
    refine hj.mono ?_
    rintro e w' ⟨rfl, hb⟩
    exact ⟨rfl, hb⟩
set_option maxHeartbeats 1000000 in
theorem lextext2 (A : Option Addr) (k c base : Nat) (l : List (List UInt8)) (w : World) (h : w.ownsRow base 9 1 (.slice A k c) k (strv l)) (hk : k ≤ 1000) (hl : (jw l).length ≤ 100000) :
    Calls Tryz.prog 57 #[.slice A k c] w fun e w' => e = .returned (.string (str (jw l))) ∧ Below w.heap.size w w' := by
  have HJ := hide (joinOwn2 A k c base l w h hk hl)
  clear h hl
  go_enter Tryz.func57, Tryz.ntmps57
  go_wp2_with fail
  refine HJ.out.mono ?_
  rintro e w1 ⟨rfl, hb⟩
  have HB := hide hb
  clear hb
  go_wp2
  go_ret
  exact ⟨rfl, HB.out⟩
end Go.Proofs.YtpgffbomlmmncaaGreatDoor
set_option linter.unusedSimpArgs false
set_option linter.unusedVariables false
namespace Go.Proofs.YtpgffbomlmmncaaGreatDoor
open Go.RowKit
attribute [local go_sem] Oper.semAt_some
end Go.Proofs.YtpgffbomlmmncaaGreatDoor
set_option linter.unusedSimpArgs false
set_option linter.unusedVariables false
namespace Go.Proofs.YtpgffbomlmmncaaGreatDoor
open Go.RowKit
attribute [local go_sem] Oper.semAt_some
end Go.Proofs.YtpgffbomlmmncaaGreatDoor
set_option linter.unusedSimpArgs false
set_option linter.unusedVariables false
namespace Go.Proofs.YtpgffbomlmmncaaGreatDoor
open Go.RowKit
attribute [local go_sem] Oper.semAt_some
theorem own_other {w w3 : World} {o : Obj} {base base' size size' n n' : Nat} {e e' : TypeId} {v v' : Value} {xs xs' : List Value} (h : w.ownsRow base e size v n xs) (h2 : w.ownsRow base' e' size' v' n' xs') (hne : e ≠ e')
    (hg : (w.alloc o).grownBy w3 v'.ownBlock) : w3.ownsRow base e size v n xs := by
  refine (h.alloc o).kept hg ?_
  rcases h.2 with ⟨e1, _⟩ | ⟨g, cap, cur, e1, _, hgc, _⟩
  · left; rw [e1]; rfl
  · right
    rcases h2.2 with ⟨e2, _⟩ | ⟨g', cap', cur', e2, _, hgc', _⟩
    · rw [e1, e2]; simp [Value.ownBlock]
    · rw [e1, e2]
      intro hh
      have : g = g' := by simpa [Value.ownBlock] using hh
      subst this
      rw [hgc] at hgc'
      injection hgc' with hgc'
      injection hgc' with _ h3
      exact hne h3
end Go.Proofs.YtpgffbomlmmncaaGreatDoor
set_option linter.unusedSimpArgs false
set_option linter.unusedVariables false
namespace Go.Proofs.YtpgffbomlmmncaaGreatDoor
open Go.RowKit
attribute [local go_sem] Oper.semAt_some
end Go.Proofs.YtpgffbomlmmncaaGreatDoor
set_option linter.unusedSimpArgs false
set_option linter.unusedVariables false
namespace Go.Proofs.YtpgffbomlmmncaaGreatDoor
open Go.RowKit
attribute [local go_sem] Oper.semAt_some
def permitT : List UInt8 := [112, 101, 114, 109, 105, 116]
def denyT : List UInt8 := [100, 101, 110, 121]
end Go.Proofs.YtpgffbomlmmncaaGreatDoor
set_option linter.unusedSimpArgs false
set_option linter.unusedVariables false
namespace Go.Proofs.YtpgffbomlmmncaaGreatDoor
open Go.RowKit
attribute [local go_sem] Oper.semAt_some
theorem StrsAt.of_own {w : World} {base n c : Nat} {A : Option Addr} {l : List (List UInt8)} (h : w.ownsRow base 9 1 (.slice A n c) n (strv l)) (hb : ∀ x ∈ l, x.length ≤ maxLen) : StrsAt w A n c (l.map str) := by
  have hl : l.length = n := by have := h.1; rw [strv_len] at this; omega
  have hsz : ∀ x ∈ l.map str, x.size ≤ maxLen := fun x hx => by
    obtain ⟨y, hy, rfl⟩ := List.mem_map.1 hx
    rw [str_size]; exact hb y hy
  rcases h.2 with ⟨hv, h0⟩ | ⟨g, cap, cur, hv, _, hh, hnc, hm, _⟩
  · injection hv with e1 e2 e3
    subst e2 e3
    exact ⟨by simp [hl], Nat.le_refl _, by simp [maxLen], hsz, fun h => by omega⟩
  · injection hv with e1 _ e3
    subst e1 e3
    refine ⟨by simp [hl], hnc, hm, hsz, fun _ => ⟨g, 0, rfl, (Array.getElem?_eq_some_iff.1 hh).1, fun k x hk => ?_⟩⟩
    rw [List.getElem?_map, Option.map_eq_some_iff] at hk
    obtain ⟨y, hy, rfl⟩ := hk
    have := h.cells (g := g) rfl k (.string (str y)) (by simp [strv, hy])
    rw [show (⟨g, 0, none⟩ : Addr).add k = ⟨g, 0 + k, none⟩ by unfold Addr.add; split <;> simp_all] at this
    exact this
set_option maxHeartbeats 1000000 in
theorem strEq_any (A B : Option Addr) (n c m d : Nat) (xs ys : List ByteArray) (w : World) (hx : StrsAt w A n c xs) (hy : StrsAt w B m d ys) :
    Calls Tryz.prog 46 #[.slice A n c, .slice B m d] w fun e w' => e = .returned (.bool (decide (xs = ys))) ∧ Below w.heap.size w w' := by
  have hm1 := hx.2.2.1
  have hm2 := hy.2.2.1
  have hnc := hx.2.1
  have hmd := hy.2.1
  unfold maxLen at hm1 hm2
  by_cases hnm : n = m
  · subst hnm
    by_cases h0 : n = 0
    · subst h0
      refine (Tryz.slices_Equal_string_empty A B c 0 d w (by omega)).mono ?_
      rintro e w' ⟨rfl, rfl⟩
      refine ⟨ret_bool ?_, Below.refl _ _⟩
      rw [List.eq_nil_of_length_eq_zero hx.1, List.eq_nil_of_length_eq_zero hy.1]; rfl
    · obtain ⟨g, o, rfl, hg, hc⟩ := hx.2.2.2.2 (by omega)
      obtain ⟨g2, o2, rfl, hg2, hc2⟩ := hy.2.2.2.2 (by omega)
      refine (Tryz.slices_Equal_string g o n c g2 o2 n d xs ys w (by rw [hx.1]; exact Nat.le_refl _) (by rw [hy.1]; exact Nat.le_refl _) (by omega) (by omega) (fun j hj => ?_) (fun j hj => ?_)).mono ?_
      · rw [hc j _ (List.getElem?_eq_getElem hj)]; simp [List.getD, hj]
      · rw [hc2 j _ (List.getElem?_eq_getElem hj)]; simp [List.getD, hj]
      · rintro e w' ⟨rfl, q, rfl⟩
        refine ⟨ret_bool ?_, below_drewN0 _ _⟩
        rw [List.take_of_length_le (by rw [hx.1]; exact Nat.le_refl _), List.take_of_length_le (by rw [hy.1]; exact Nat.le_refl _)]
  · have hne : decide (n = m) = false := decide_eq_false hnm
    have hne2 : ((n : Int) != (m : Int)) = true := by simp; omega
    have HR := hide (show decide (xs = ys) = false by
      refine decide_eq_false fun e => hnm ?_
      rw [← hx.1, ← hy.1, e])
    clear hx hy hnm
    go_enter Tryz.func46, Tryz.ntmps46
    go_wp2
    go_ret
    exact ⟨ret_bool HR.out.symm, Below.refl _ _⟩
end Go.Proofs.YtpgffbomlmmncaaGreatDoor
set_option linter.unusedSimpArgs false
set_option linter.unusedVariables false
namespace Go.Proofs.YtpgffbomlmmncaaGreatDoor
open Go.RowKit
attribute [local go_sem] Oper.semAt_some
end Go.Proofs.YtpgffbomlmmncaaGreatDoor
set_option linter.unusedSimpArgs false
set_option linter.unusedVariables false
namespace Go.Proofs.YtpgffbomlmmncaaGreatDoor
open Go.RowKit
attribute [local go_sem] Oper.semAt_some
/-- The laws' cutting copy, by what it owns; its length a letter. -/
theorem fewO_any (A : Option Addr) (n c : Nat) (l : List Nat) (most : Nat) (hmost : most ≤ 100000) (w : World) (h : U32s w A n c l) :
    Calls Tryz.prog 7 #[.slice A n c, .int .i64 most] w fun e w' => ∃ A' n' c', e = .returned (.slice A' n' c') ∧ w'.ownsRow w.heap.size 46 1 (.slice A' n' c') n' (u32c (l.take most)) ∧ Below w.heap.size w w' := by
  refine (few_any A n c l most hmost w h).mono ?_
  rintro e w' ⟨v, rfl, ho⟩
  obtain ⟨A', c', rfl⟩ := own_slice ho.1
  exact ⟨A', _, c', rfl, ho.1, ho.2⟩
/-- The law's own copy of a rule, somewhat cut. -/
def CRuleP (b : Bool) (l : List Nat) (w : World) (e : Ending) (w' : World) : Prop := ∃ A n c, e = .returned (.agg #[.bool b, .slice A n c]) ∧ U32s w' A n c l ∧ Below w.heap.size w w'
set_option maxRecDepth 100000 in
set_option maxHeartbeats 2000000 in
theorem crule_any (b : Bool) (A : Option Addr) (n c : Nat) (l : List Nat) (w : World) (h : U32s w A n c l) :
    Calls Tryz.prog 11 #[.agg #[.bool b, .slice A n c]] w (CRuleP b (l.take 34) w) := by
  have hal : Below w.heap.size w ((w.alloc (.cells #[.bool b, .slice A n c] 34)).alloc (.cells #[.bool false, .slice none 0 0] 34)) := ((Below.refl _ w).alloc (Nat.le_refl _) _).alloc (by simp) _
  have HF := hide (fun w' (hb : Below w.heap.size w w') => fewO_any A n c l 34 (by decide) w' (h.below hb))
  have HBd := hide h.2.2.2.1
  have HK0 : Hid (Blk ((w.alloc (.cells #[.bool b, .slice A n c] 34)).alloc (.cells #[.bool false, .slice none 0 0] 34)) w.heap.size 34 #[.bool b, .slice A n c]) := hide ((Blk.new w _ _).alloc _)
  have HK1 : Hid (Blk ((w.alloc (.cells #[.bool b, .slice A n c] 34)).alloc (.cells #[.bool false, .slice none 0 0] 34)) (w.heap.size + 1) 34 #[.bool false, .slice none 0 0]) := hide (blk_new' _ _ (by simp))
  have HB := hide hal
  clear h hal
  go_enter Tryz.func11, Tryz.ntmps11
  go_wp2
  go_region_held3 (fun W => W.cell? ⟨w.heap.size, 0, none⟩ = some (.bool b) ∧ W.cell? ⟨w.heap.size, 1, none⟩ = some (.slice A n c))
    (first | go_keep | exact HCk.out | (simp; done))
    (first
      | (go_simp; go_at_call 7; refine (HF.out _ (by first | exact HB.out | exact HB.out.drew)).mono ?_; rintro e w5 ⟨A5, n5, c5, rfl, hv5, hb5⟩; have hk0 : Blk w5 w.heap.size 34 #[.bool b, .slice A n c] := (by refine Blk.below ?_ hb5 ?_; (first | exact HK0.out | exact HK0.out.drew); simp; omega); have hk1 : Blk w5 (w.heap.size + 1) 34 #[.bool false, .slice none 0 0] := (by refine Blk.below ?_ hb5 ?_; (first | exact HK1.out | exact HK1.out.drew); simp); have x0 := hk0.cell 0; have x1 := hk0.cell 1; have y0 := hk1.cell 0; have y1 := hk1.cell 1; have z0 := hk1.frozen 0; have z1 := hk1.frozen 1; have HCk : Hid (w5.cell? ⟨w.heap.size, 0, none⟩ = some (.bool b) ∧ w5.cell? ⟨w.heap.size, 1, none⟩ = some (.slice A n c)) := hide ⟨x0, x1⟩; have HV5 := hide hv5; have HKK := hide hk1; have HB5 : Hid (Below w.heap.size w w5) := hide (by refine Below.trans ?_ (hb5.mono ?_); (first | exact HB.out | exact HB.out.drew); simp; omega); clear hv5 hb5 hk0 hk1)
      | fail)
  all_goals
    go_wp2
    have HK2 := (HKK.out.set_ 0 (.bool b)).set_ 1 (.slice A5 n5 c5)
    have u0 := HK2.cell 0
    have u1 := HK2.cell 1
    refine bodyPost_ret (v := .agg #[.bool b, .slice A5 n5 c5]) (by simp [results, Tryz.results11, go_sem, u0, u1]) rfl ⟨A5, _, c5, rfl, ?_, ?_⟩
    · have hlo : w.heap.size + 2 ≤ w.heap.size + 2 := Nat.le_refl _
      have hne : (Value.slice A5 n5 c5).ownBlock ≠ some (w.heap.size + 1) := fun e => by have := (HV5.out.lt _ e).1; simp at this; omega
      exact U32s.of_own (own_set (own_set HV5.out hne _) hne _) (fun y hy => HBd.out y (List.mem_of_mem_take hy))
    · exact (HB5.out.setCell (p := ⟨w.heap.size + 1, 0, none⟩) (by show w.heap.size ≤ w.heap.size + 1; omega) _).setCell (p := ⟨w.heap.size + 1, 1, none⟩) (by show w.heap.size ≤ w.heap.size + 1; omega) _
theorem chits_any (b : Bool) (A : Option Addr) (n c : Nat) (l : List Nat) (B : Option Addr) (m d : Nat) (r : List Nat) (w : World) (h : U32s w A n c l) (h' : U32s w B m d r) (hr : Rise r) (hm : m ≤ 100000) :
    Calls Tryz.prog 25 #[.agg #[.bool b, .slice A n c], .slice B m d] w fun e w' => e = .returned (.bool (allIn l r)) ∧ Below w.heap.size w w' := by
  have hal : Below w.heap.size w (w.alloc (.cells #[.bool b, .slice A n c] 34)) := (Below.refl _ w).alloc (Nat.le_refl _) _
  have HW := hide (within_any A n c l B m d r _ (h.below hal) (h'.below hal) hr hm)
  have HB := hide hal
  obtain ⟨q, hq⟩ : ∃ q, allIn l r = q := ⟨_, rfl⟩
  rw [hq] at HW ⊢
  clear h h' hal hq
  go_enter Tryz.func25, Tryz.ntmps25
  go_wp2_with fail
  refine HW.out.mono ?_
  rintro e w1 ⟨rfl, rfl⟩
  go_wp2
  go_ret
  exact ⟨rfl, HB.out⟩
theorem cHits_any (b : Bool) (A : Option Addr) (n c : Nat) (l : List Nat) (B : Option Addr) (m d : Nat) (r : List Nat) (w : World) (h : U32s w A n c l) (h' : U32s w B m d r) (hr : Rise r) (hm : m ≤ 100000) :
    Calls Tryz.prog 10 #[.agg #[.bool b, .slice A n c], .slice B m d] w fun e w' => e = .returned (.bool (allIn l r)) ∧ Below w.heap.size w w' := by
  have hal : Below w.heap.size w (w.alloc (.cells #[.bool b, .slice A n c] 34)) := (Below.refl _ w).alloc (Nat.le_refl _) _
  have HW := hide (chits_any b A n c l B m d r _ (h.below hal) (h'.below hal) hr hm)
  have HB := hide hal
  obtain ⟨q, hq⟩ : ∃ q, allIn l r = q := ⟨_, rfl⟩
  rw [hq] at HW ⊢
  clear h h' hal hq
  go_enter Tryz.func10, Tryz.ntmps10
  go_wp2_with fail
  refine HW.out.mono ?_
  rintro e w1 ⟨rfl, hb⟩
  have HB1 := hide (below2 HB.out hb)
  clear hb
  go_wp2
  go_ret
  exact ⟨rfl, HB1.out⟩
def cgoodP (l : List Nat) : Bool := decide (1 ≤ l.length) && decide (l.length ≤ 32) && riseB l
theorem cgood_any (b : Bool) (A : Option Addr) (n c : Nat) (l : List Nat) (w : World) (h : U32s w A n c l) :
    Calls Tryz.prog 28 #[.agg #[.bool b, .slice A n c]] w fun e w' => e = .returned (.bool (cgoodP l)) ∧ Below w.heap.size w w' := by
  have hal : Below w.heap.size w (w.alloc (.cells #[.bool b, .slice A n c] 34)) := (Below.refl _ w).alloc (Nat.le_refl _) _
  have hm := h.2.2.1
  have hnc := h.2.1
  unfold maxLen at hm
  have hl := hide h.1
  have HU := hide (h.below hal)
  have HB := hide hal
  clear h hal
  by_cases h1 : 1 ≤ n
  · have hd1 : decide ((1 : Int) ≤ (n : Int)) = true := by simp; omega
    by_cases h32 : n ≤ 32
    · have hd2 : decide ((n : Int) ≤ 32) = true := by simp; omega
      have HR := hide (show cgoodP l = riseB l by unfold cgoodP; rw [hl.out, decide_eq_true h1, decide_eq_true h32]; rfl)
      have HI := hide (asnIs_any A n c l _ HU.out (by omega))
      obtain ⟨q, hq⟩ : ∃ q, riseB l = q := ⟨_, rfl⟩
      rw [hq] at HI HR
      clear hq h1 h32
      go_enter Tryz.func28, Tryz.ntmps28
      go_wp2_with fail
      refine HI.out.mono ?_
      rintro e w1 ⟨rfl, hb⟩
      have HB1 := hide (below2 HB.out hb)
      clear hb
      go_wp2
      go_ret
      exact ⟨ret_bool HR.out.symm, HB1.out⟩
    · have hd2 : decide ((n : Int) ≤ 32) = false := by simp; omega
      have HR := hide (show cgoodP l = false by unfold cgoodP; rw [hl.out, decide_eq_true h1, decide_eq_false h32]; rfl)
      clear h1 h32
      go_enter Tryz.func28, Tryz.ntmps28
      go_wp2
      go_ret
      exact ⟨ret_bool HR.out.symm, HB.out⟩
  · have hd1 : decide ((1 : Int) ≤ (n : Int)) = false := by simp; omega
    have HR := hide (show cgoodP l = false by unfold cgoodP; rw [hl.out, decide_eq_false h1]; rfl)
    clear h1
    go_enter Tryz.func28, Tryz.ntmps28
    go_wp2
    go_ret
    exact ⟨ret_bool HR.out.symm, HB.out⟩
theorem lexTextB_any (A : Option Addr) (k c base : Nat) (l : List (List UInt8)) (w : World) (h : w.ownsRow base 9 1 (.slice A k c) k (strv l)) (hk : k ≤ 1000) (hl : (jw l).length ≤ 100000) :
    Calls Tryz.prog 45 #[.slice A k c] w fun e w' => e = .returned (.string (str (jw l))) ∧ Below w.heap.size w w' := by
  have HX := hide (lextext2 A k c base l w h hk hl)
  clear h
  go_enter Tryz.func45, Tryz.ntmps45
  go_wp2_with fail
  refine HX.out.mono ?_
  rintro e w1 ⟨rfl, hb⟩
  have HB := hide hb
  clear hb
  go_wp2
  go_ret
  exact ⟨rfl, HB.out⟩
theorem jw_two (a b : List UInt8) : (jw [a, b]).length = a.length + 1 + b.length := by
  have : jw [a, b] = a ++ [32] ++ b := by
    have := jw_snoc [a] b
    rw [List.singleton_append] at this
    rw [this, if_neg (by simp)]
    have h1 : jw [a] = a := Lib.join_one a [32]
    rw [h1]
  rw [this]; simp; omega
def ctextP (b : Bool) (l : List Nat) : List UInt8 := jw [if b then permitT else denyT, texP l]
set_option maxHeartbeats 1000000 in
theorem clText_any (b : Bool) (A : Option Addr) (n c : Nat) (l : List Nat) (w : World) (h : U32s w A n c l) (hn : n ≤ 100) (ht : Tab w) (hl : (texP l).length ≤ 10000) :
    Calls Tryz.prog 48 #[.agg #[.bool b, .slice A n c]] w fun e w' => e = .returned (.string (str (ctextP b l))) ∧ Below w.heap.size w w' := by
  have hal : Below w.heap.size w (w.alloc (.cells #[.bool b, .slice A n c] 34)) := (Below.refl _ w).alloc (Nat.le_refl _) _
  have HT := hide (cTexts_any A n c l _ (h.below hal) hn (ht.below hal))
  have HB := hide hal
  have HJ : Hid (∀ (W : World), Calls Tryz.prog 45 #[.slice (some ⟨W.heap.size, 0, none⟩) 2 2] (W.alloc (.cells #[.string (str (if b then permitT else denyT)), .string (str (texP l))] 9)) fun e w' => e = .returned (.string (str (ctextP b l))) ∧ Below (W.alloc (.cells #[.string (str (if b then permitT else denyT)), .string (str (texP l))] 9)).heap.size (W.alloc (.cells #[.string (str (if b then permitT else denyT)), .string (str (texP l))] 9)) w') := hide (fun W => by
    have ho : (W.alloc (.cells #[.string (str (if b then permitT else denyT)), .string (str (texP l))] 9)).ownsRow W.heap.size 9 1 (.slice (some ⟨W.heap.size, 0, none⟩) 2 2) 2 (strv [if b then permitT else denyT, texP l]) :=
      ⟨rfl, .inr ⟨W.heap.size, 2, #[.string (str (if b then permitT else denyT)), .string (str (texP l))], rfl, Nat.le_refl _, heap_alloc_new W _, Nat.le_refl _, by simp [maxLen], rfl, by simp [strv]⟩⟩
    exact lexTextB_any _ 2 2 W.heap.size [if b then permitT else denyT, texP l] _ ho (by omega) (by
      have h2 : (if b then permitT else denyT).length ≤ 6 := by cases b <;> decide
      rw [jw_two]; omega))
  clear h hal ht hl
  cases b
  all_goals
    go_enter Tryz.func48, Tryz.ntmps48
    go_wp2_with fail
    refine HT.out.mono ?_
    rintro e w1 ⟨rfl, hb⟩
    have HB1 := hide (below2 HB.out hb)
    have hs1 := hb.size
    clear hb
    go_wp2_with fail
    refine (HJ.out w1).mono ?_
    rintro e w2 ⟨rfl, hb2⟩
    have HB2 := hide (below2 (below2 HB1.out ((Below.refl _ w1).alloc (Nat.le_refl _) _)) hb2)
    clear hb2
    go_wp2
    go_ret
    exact ⟨rfl, HB2.out⟩
end Go.Proofs.YtpgffbomlmmncaaGreatDoor
set_option linter.unusedSimpArgs false
set_option linter.unusedVariables false
namespace Go.Proofs.YtpgffbomlmmncaaGreatDoor
open Go.RowKit
/-- A text parted at a sign. -/
def parts (p : UInt8) : List UInt8 → List (List UInt8)
  | [] => [[]]
  | c :: r => if c = p then [] :: parts p r else match parts p r with
    | [] => [[c]]
    | h :: t => (c :: h) :: t
theorem parts_none (p : UInt8) : ∀ l : List UInt8, (∀ c ∈ l, c ≠ p) → parts p l = [l]
  | [], _ => rfl
  | c :: r, h => by
    have hc : c ≠ p := h c (by simp)
    have := parts_none p r (fun d hd => h d (by simp [hd]))
    rw [parts, if_neg hc, this]
theorem parts_at (p : UInt8) : ∀ x y : List UInt8, (∀ c ∈ x, c ≠ p) → parts p (x ++ p :: y) = x :: parts p y
  | [], y, _ => by simp [parts]
  | c :: r, y, h => by
    have hc : c ≠ p := h c (by simp)
    have := parts_at p r y (fun d hd => h d (by simp [hd]))
    rw [List.cons_append, parts, if_neg hc, this]
theorem split_or (p : UInt8) : ∀ l : List UInt8, (∀ c ∈ l, c ≠ p) ∨ ∃ x y, l = x ++ p :: y ∧ ∀ c ∈ x, c ≠ p
  | [] => .inl (by simp)
  | c :: r => by
    by_cases hc : c = p
    · subst hc; exact .inr ⟨[], r, rfl, by simp⟩
    · rcases split_or p r with h | ⟨x, y, rfl, hx⟩
      · refine .inl fun d hd => ?_
        rcases List.mem_cons.1 hd with rfl | hd
        · exact hc
        · exact h d hd
      · refine .inr ⟨c :: x, y, rfl, fun d hd => ?_⟩
        rcases List.mem_cons.1 hd with rfl | hd
        · exact hc
        · exact hx d hd
theorem splitK_parts (p : UInt8) : ∀ (n : Nat) (l : List UInt8), l.length ≤ n → Lib.splitK [p] 0 (Lib.count l [p]) l = parts p l
  | 0, l, h => by
    have : l = [] := List.eq_nil_of_length_eq_zero (by omega)
    subst this
    simp [Lib.count_one, Lib.splitK, parts]
  | n + 1, l, h => by
    rcases split_or p l with hl | ⟨x, y, rfl, hx⟩
    · rw [parts_none p l hl, Lib.count_one, List.count_eq_zero.2 (fun hm => hl p hm rfl)]
      rfl
    · have hc : Lib.count (x ++ p :: y) [p] = Lib.count y [p] + 1 := by
        rw [Lib.count_one, Lib.count_one, List.count_append, List.count_cons_self, List.count_eq_zero.2 (fun hm => hx p hm rfl)]; omega
      rw [hc, Lib.splitK, index_at p x y hx, if_neg (by simp), parts_at p x y hx]
      have e1 : ((x.length : Int).toNat + 0) = x.length := by omega
      have e2 : ((x.length : Int).toNat + [p].length) = x.length + 1 := by simp
      rw [e1, e2, List.take_left']
      · have e3 : (x ++ p :: y).drop (x.length + 1) = y := by simp
        rw [e3, splitK_parts p n y (by simp at h; omega)]
      · rfl
theorem splitB_parts (p : UInt8) (l : List UInt8) : Lib.splitB ⟨#[p]⟩ 0 (Lib.countB (str l) ⟨#[p]⟩) (str l) = (parts p l).map str := by
  have h := Lib.splitB_data ⟨#[p]⟩ 0 (Lib.countB (str l) ⟨#[p]⟩) (str l)
  have e : Lib.countB (str l) ⟨#[p]⟩ = Lib.count l [p] := by unfold Lib.countB; rw [str_data]
  rw [e] at h ⊢
  rw [str_data, splitK_parts p _ l (Nat.le_refl _)] at h
  rw [← h, List.map_map]
  have : (str ∘ fun x : ByteArray => x.data.toList) = id := by funext x; exact str_of x
  rw [this, List.map_id]
theorem countB_parts (p : UInt8) (l : List UInt8) : Lib.countB (str l) ⟨#[p]⟩ + 1 = (parts p l).length := by
  have := Lib.splitB_all ⟨#[p]⟩ (Nat.le_refl 1) 0 _ (str l) rfl
  rw [splitB_parts, List.length_map] at this
  exact this.symm
end Go.Proofs.YtpgffbomlmmncaaGreatDoor
set_option linter.unusedSimpArgs false
set_option linter.unusedVariables false
namespace Go.Proofs.YtpgffbomlmmncaaGreatDoor
open Go.RowKit
attribute [local go_sem] Oper.semAt_some
theorem parts_pieces (p : UInt8) : ∀ l : List UInt8, parts p l = pieces p l
  | [] => rfl
  | c :: r => by
    rw [parts, pieces, parts_pieces p r]
    split
    · rfl
    · cases h : pieces p r with
      | nil => exact absurd h (pieces_ne p r)
      | cons a t => rfl
end Go.Proofs.YtpgffbomlmmncaaGreatDoor
set_option linter.unusedSimpArgs false
set_option linter.unusedVariables false
namespace Go.Proofs.YtpgffbomlmmncaaGreatDoor
open Go.RowKit
theorem Own32.u32s' {w w' : World} {v : Value} {l : List Nat} (h : Own32 w w' v l) (hb : ∀ x ∈ l, x < 4294967296) : ∃ A c, v = .slice A l.length c ∧ U32s w' A l.length c l := by
  obtain ⟨A, n, c, rfl, hu⟩ := h.u32s hb
  have := hu.1
  subst this
  exact ⟨A, c, rfl, hu⟩
end Go.Proofs.YtpgffbomlmmncaaGreatDoor
set_option linter.unusedSimpArgs false
set_option linter.unusedVariables false
namespace Go.Proofs.YtpgffbomlmmncaaGreatDoor
open Go.RowKit
attribute [local go_sem] Oper.semAt_some
def SplP (c : UInt8) (l : List UInt8) (w : World) (e : Ending) (w' : World) : Prop :=
  e = .returned (.slice (some ⟨w.heap.size, 0, none⟩) (pieces c l).length (pieces c l).length) ∧ Below w.heap.size w w' ∧ w.heap.size < w'.heap.size ∧ ∀ j x, (pieces c l)[j]? = some x → w'.cell? ⟨w.heap.size, j, none⟩ = some (.string (str x))
theorem split_any (c : UInt8) (l : List UInt8) (hl : l.length ≤ 100000) (w : World) (he : Env w) : Calls Tryz.prog 47 #[.string (str l), .string ⟨#[c]⟩] w (SplP c l w) := by
  obtain ⟨m, hm⟩ := he.most
  have h := Tryz.strings_Split (str l) ⟨#[c]⟩ m w (by rw [str_size]; omega) hm (by show 1 ≤ (⟨#[c]⟩ : ByteArray).size; simp [ByteArray.size])
  rw [splitB_parts, countB_parts, parts_pieces] at h
  refine h.mono ?_
  rintro e w' ⟨rfl, rfl⟩
  refine ⟨rfl, (Below.refl _ _).alloc (Nat.le_refl _) _, by simp, fun j x hj => ?_⟩
  have hb := (Blk.new w 9 (((pieces c l).map str).map Value.string).toArray).cell j
  rw [hb]
  simp [hj]
end Go.Proofs.YtpgffbomlmmncaaGreatDoor
set_option linter.unusedSimpArgs false
set_option linter.unusedVariables false
namespace Go.Proofs.YtpgffbomlmmncaaGreatDoor
open Go.RowKit
attribute [local go_sem] Oper.semAt_some
theorem joinAt_any (A : Option Addr) (k c : Nat) (l : List (List UInt8)) (w : World) (h : StrsAt w A k c (l.map str)) (hk : k ≤ 1000) (hl : (jw l).length ≤ 100000) :
    Calls Tryz.prog 73 #[.slice A k c, .string ⟨#[32]⟩] w fun e w' => e = .returned (.string (str (jw l))) ∧ Below w.heap.size w w' := by
  have hlk : l.length = k := by have := h.1; simpa using this
  by_cases hk0 : k = 0
  · subst hk0
    obtain rfl : l = [] := List.eq_nil_of_length_eq_zero hlk
    refine (Tryz.strings_Join_none A c ⟨#[32]⟩ w).mono ?_
    rintro e w' ⟨rfl, rfl⟩
    exact ⟨rfl, Below.refl _ _⟩
  · obtain ⟨g, o, rfl, hg, hc⟩ := h.2.2.2.2 (by omega)
    have hcap := h.2.1
    have hm : (l.map str).map (·.data.toList) = l := by rw [List.map_map]; exact (List.map_congr_left (fun x _ => str_data x)).trans (List.map_id l)
    have hj := Tryz.strings_Join g o c (l.map str) ⟨#[32]⟩ w (fun j x hx => hc j x hx) hg (by simp; omega) (by simp; omega) (by
        rw [hm]
        unfold jw at hl
        show (Lib.join l [32]).length ≤ _
        omega)
    rw [hm, List.length_map, hlk] at hj
    refine hj.mono ?_
    rintro e w' ⟨rfl, hb⟩
    exact ⟨rfl, hb⟩
theorem lexTextAt_any (A : Option Addr) (k c : Nat) (l : List (List UInt8)) (w : World) (h : StrsAt w A k c (l.map str)) (hk : k ≤ 1000) (hl : (jw l).length ≤ 100000) :
    Calls Tryz.prog 45 #[.slice A k c] w fun e w' => e = .returned (.string (str (jw l))) ∧ Below w.heap.size w w' := by
  have HX : Hid (Calls Tryz.prog 57 #[.slice A k c] w fun e w' => e = .returned (.string (str (jw l))) ∧ Below w.heap.size w w') := hide (by
    have HJ := hide (joinAt_any A k c l w h hk hl)
    clear h
    go_enter Tryz.func57, Tryz.ntmps57
    go_wp2_with fail
    refine HJ.out.mono ?_
    rintro e w1 ⟨rfl, hb⟩
    have HB := hide hb
    clear hb
    go_wp2
    go_ret
    exact ⟨rfl, HB.out⟩)
  clear h
  go_enter Tryz.func45, Tryz.ntmps45
  go_wp2_with fail
  refine HX.out.mono ?_
  rintro e w1 ⟨rfl, hb⟩
  have HB := hide hb
  clear hb
  go_wp2
  go_ret
  exact ⟨rfl, HB.out⟩
end Go.Proofs.YtpgffbomlmmncaaGreatDoor
set_option linter.unusedSimpArgs false
set_option linter.unusedVariables false
namespace Go.Proofs.YtpgffbomlmmncaaGreatDoor
open Go.RowKit
theorem parseTex_any (q : List Nat) (hq : ∀ x ∈ q, x < 4294967296) (hl : q.length ≤ 15) (w : World) (he : Env w) : Calls Tryz.prog 44 #[.string (str (texP q))] w (PaP (texP q) w) := by
  refine parseAll_any (texP q) (by have := texP_len q hq hl; omega) (fun p hp => ?_) w he
  by_cases h0 : q = []
  · rw [texP, if_pos h0] at hp
    have := piece_len 32 [45] p hp
    simp at this; omega
  · rw [texP, if_neg h0, ct_pieces h0] at hp
    obtain ⟨y, hy, rfl⟩ := List.mem_map.1 hp
    have := commT_len y (hq y hy); omega
end Go.Proofs.YtpgffbomlmmncaaGreatDoor
set_option linter.unusedSimpArgs false
set_option linter.unusedVariables false
namespace Go.Proofs.YtpgffbomlmmncaaGreatDoor
open Go.RowKit Go.WideShapes Go.ChangeShapes
attribute [local go_sem] Oper.semAt_some
theorem ret_i64 {i j : Int} (h : i = j) : Ending.returned (.int .i64 i) = .returned (.int .i64 j) := by rw [h]
end Go.Proofs.YtpgffbomlmmncaaGreatDoor
set_option linter.unusedSimpArgs false
set_option linter.unusedVariables false
namespace Go.Proofs.YtpgffbomlmmncaaGreatDoor
open Go.RowKit Go.WideShapes Go.ChangeShapes
attribute [local go_sem] Oper.semAt_some
theorem any_not {α : Type} (p : α → Bool) (l : List α) : (l.any fun x => !p x) = !l.all p := by
  induction l with
  | nil => rfl
  | cons x l ih => simp [ih, Bool.not_and]
end Go.Proofs.YtpgffbomlmmncaaGreatDoor
set_option linter.unusedSimpArgs false
set_option linter.unusedVariables false
namespace Go.Proofs.YtpgffbomlmmncaaGreatDoor
open Go.RowKit Go.WideShapes Go.ChangeShapes
attribute [local go_sem] Oper.semAt_some
theorem LstAt.keepW {α : Type} {sz : Nat} {R : World → List Value → α → Prop} {w w' : World} {A : Option Addr} {n c : Nat} {l : List α} (h : LstAt sz R w A n c l) (hR : ∀ vs x, R w vs x → R w' vs x) (hs : w.heap.size ≤ w'.heap.size)
    (hc : ∀ (ad : Addr) (i : Nat), A = some ad → w'.cell? ⟨ad.block, i, none⟩ = w.cell? ⟨ad.block, i, none⟩) : LstAt sz R w' A n c l := by
  refine ⟨h.1, h.2.1, h.2.2.1, fun hn => ?_⟩
  obtain ⟨g, o, hA, hg, hcc⟩ := h.2.2.2 hn
  refine ⟨g, o, hA, Nat.lt_of_lt_of_le hg hs, fun k x hk => ?_⟩
  obtain ⟨vs, h1, h2, h3⟩ := hcc k x hk
  exact ⟨vs, h1, hR _ _ h2, fun j v hv => (hc _ _ hA).trans (h3 j v hv)⟩
end Go.Proofs.YtpgffbomlmmncaaGreatDoor
set_option linter.unusedSimpArgs false
set_option linter.unusedVariables false
namespace Go.Proofs.YtpgffbomlmmncaaGreatDoor
open Go.RowKit Go.WideShapes Go.ChangeShapes
attribute [local go_sem] Oper.semAt_some
theorem own_row {w : World} {g : Nat} {t : TypeId} {cs : Array Value} {xs : List Value} {base size n : Nat} (h : Blk w g t cs) (hx : cs.toList = xs) (hb : base ≤ g) (hs : xs.length = n * size) (hm : n ≤ maxLen) : w.ownsRow base t size (.slice (some ⟨g, 0, none⟩) n n) n xs :=
  ⟨hs, .inr ⟨g, n, cs, rfl, hb, h, Nat.le_refl _, hm, by rw [← Array.length_toList, hx, hs], by rw [hx, List.take_of_length_le (by omega)]⟩⟩
theorem own_low_block {w : World} {base n size : Nat} {e : TypeId} {v : Value} {xs : List Value} (h : w.ownsRow base e size v n xs) : ∀ k, v.ownBlock = some k → base ≤ k := by
  intro k hk
  rcases h.2 with ⟨rfl, _⟩ | ⟨g, cap, cur, rfl, hb, _⟩
  · simp [Value.ownBlock] at hk
  · have : g = k := by simpa [Value.ownBlock] using hk
    rw [← this]; exact hb
theorem own_baseLe {w : World} {b b' n size : Nat} {e : TypeId} {v : Value} {xs : List Value} (h : w.ownsRow b e size v n xs) (hb : b' ≤ b) : w.ownsRow b' e size v n xs := by
  refine ⟨h.1, ?_⟩
  rcases h.2 with h2 | ⟨g, cap, cur, h1, h2, h3⟩
  · exact .inl h2
  · exact .inr ⟨g, cap, cur, h1, Nat.le_trans hb h2, h3⟩
end Go.Proofs.YtpgffbomlmmncaaGreatDoor
set_option linter.unusedSimpArgs false
set_option linter.unusedVariables false
namespace Go.Proofs.YtpgffbomlmmncaaGreatDoor
open Go.RowKit Go.WideShapes Go.ChangeShapes
attribute [local go_sem] Oper.semAt_some
def liveQ : List Nat := [4259840001, 4294967041]
def c1T : List UInt8 := [54, 53, 48, 48, 48, 58, 49]
def c2T : List UInt8 := [110, 111, 45, 101, 120, 112, 111, 114, 116]
def liveCW : List (List UInt8) := [permitT, c1T, c2T]
theorem liveQ_tex : texP liveQ = jw [c1T, c2T] := by decide +kernel
theorem liveQ_text : pieces 32 (ctextP true liveQ) = liveCW := by decide +kernel
theorem liveQ_rise : riseB liveQ = true := by decide
theorem liveQ_lt : ∀ x ∈ liveQ, x < 4294967296 := by decide
theorem liveCV : strv liveCW = [.string ⟨#[112, 101, 114, 109, 105, 116]⟩, .string ⟨#[54, 53, 48, 48, 48, 58, 49]⟩, .string ⟨#[110, 111, 45, 101, 120, 112, 111, 114, 116]⟩] := rfl
theorem strs_cells3 {W : World} {G : Nat} {a b c : ByteArray} (h : StrsAt W (some ⟨G, 0, none⟩) 3 3 [a, b, c]) : G < W.heap.size ∧ W.cell? ⟨G, 0, none⟩ = some (.string a) ∧ W.cell? ⟨G, 1, none⟩ = some (.string b) ∧ W.cell? ⟨G, 2, none⟩ = some (.string c) := by
  obtain ⟨g, o, hA, hg, hc⟩ := h.2.2.2.2 (by decide)
  injection hA with hA
  injection hA with e1 e2
  subst e1 e2
  exact ⟨hg, by have := hc 0 _ rfl; simpa using this, by have := hc 1 _ rfl; simpa using this, by have := hc 2 _ rfl; simpa using this⟩
theorem strs_tail1 {W : World} {G n c : Nat} {a : ByteArray} {l : List ByteArray} (h : StrsAt W (some ⟨G, 0, none⟩) (n + 1) (c + 1) (a :: l)) : StrsAt W (some ⟨G, 1, none⟩) n c l := by
  refine ⟨by have := h.1; simpa using this, by have := h.2.1; omega, by have := h.2.2.1; omega, fun x hx => h.2.2.2.1 x (by simp [hx]), fun hn => ?_⟩
  obtain ⟨g, o, hA, hg, hc⟩ := h.2.2.2.2 (by omega)
  injection hA with hA
  injection hA with e1 e2
  subst e1 e2
  exact ⟨_, 1, rfl, hg, fun k x hk => by have := hc (k + 1) x (by simpa using hk); rw [show 1 + k = 0 + (k + 1) by omega]; exact this⟩
/-- A store into a block that holds no numbers. -/
theorem u32s_other {w : World} {A : Option Addr} {n c : Nat} {l : List Nat} {H : Nat} {t : TypeId} {cs : Array Value} (h : U32s w A n c l) (hb : Blk w H t cs) (hcs : ∀ (i : Nat) (x : Int), cs[i]? ≠ some (.int .u32 x)) (i : Nat) (v : Value) : U32s (w.setCell ⟨H, i, none⟩ v) A n c l := by
  refine ⟨h.1, h.2.1, h.2.2.1, h.2.2.2.1, fun hn => ?_⟩
  obtain ⟨g, o, hA, hg, hcc⟩ := h.2.2.2.2 hn
  have hne : g ≠ H := by
    rintro rfl
    have hx : l[0]? = some (l[0]'(by rw [h.1]; exact hn)) := List.getElem?_eq_getElem _
    have := hcc 0 _ hx
    rw [hb.cell] at this
    exact hcs _ _ this
  refine ⟨g, o, hA, by simpa [World.setCell] using hg, fun k x hk => ?_⟩
  rw [World.cell?_setCell_other _ _ _ _ (by rintro e; exact hne (congrArg Addr.block e).symm)]
  exact hcc k x hk
theorem no_u32_2 {b : Bool} {A : Option Addr} {n c : Nat} : ∀ (i : Nat) (x : Int), (#[.bool b, .slice A n c] : Array Value)[i]? ≠ some (.int .u32 x)
  | 0, x => by simp
  | 1, x => by simp
  | i + 2, x => by simp
set_option maxRecDepth 100000 in
set_option maxHeartbeats 2000000 in
theorem cParse_lives (G : Nat) (w : World) (he : Env w) (hl : StrsAt w (some ⟨G, 0, none⟩) 3 3 (liveCW.map str)) :
    Calls Tryz.prog 33 #[.slice (some ⟨G, 0, none⟩) 3 3] w fun e w' => ∃ A c, e = .returned (.tuple #[.agg #[.bool true, .slice A 2 c], .int .i64 0]) ∧ U32s w' A 2 c liveQ ∧ Below w.heap.size w w' := by
  have hal : Below w.heap.size w (w.alloc (.cells #[.bool false, .slice none 0 0] 34)) := (Below.refl w.heap.size w).alloc (Nat.le_refl _) _
  have HK := hide (Blk.new w 34 #[.bool false, .slice none 0 0])
  have HL := hide hl
  have HE := hide he
  have HB := hide hal
  have hG := (strs_cells3 hl).1
  have hG1 : ¬ G = w.heap.size := by omega
  have HT := hide (lexTextAt_any (some ⟨G, 1, none⟩) 2 2 [c1T, c2T] (w.alloc (.cells #[.bool false, .slice none 0 0] 34)) (strs_tail1 (hl.below rfl hal) (n := 2) (c := 2)) (by decide) (by decide))
  rw [← liveQ_tex] at HT
  have HP := hide (fun (W : World) (h : Below w.heap.size w W) => parseTex_any liveQ liveQ_lt (by decide) W (HE.out.below h))
  clear hal he hl
  go_enter Tryz.func33, Tryz.ntmps33
  go_wp2_with fail
  refine HT.out.mono ?_
  rintro e w1 ⟨rfl, hb⟩
  have HB1 := hide (HB.out.trans (hb.mono HB.out.size))
  have HK1 := hide (HK.out.below hb (by simp))
  clear hb
  go_wp2_with fail
  refine (HP.out _ HB1.out).mono ?_
  rintro e w2 ⟨hb2, ⟨A2, c2, r, rfl, hu, _, hr, ht⟩ | ⟨_, hno⟩⟩
  case inr => exact absurd (hno liveQ liveQ_lt rfl) (by rw [liveQ_rise]; decide)
  obtain rfl : liveQ = r := texP_inj ht
  change U32s w2 A2 2 c2 liveQ at hu
  have HU2 := hide hu
  have HB2 := hide (HB1.out.trans (hb2.mono HB1.out.size))
  have HK2 := hide (HK1.out.below hb2 HK1.out.lt)
  have hs2 := HK2.out.lt
  obtain ⟨hG3, x0, x1, x2⟩ := strs_cells3 (HL.out.below rfl HB2.out)
  clear hu hb2 hr ht
  have hpe : ((str permitT).toList == [112, 101, 114, 109, 105, 116]) = true := by decide +kernel
  have hal3 : Below w2.heap.size w2 (w2.alloc (.cells #[.bool true, .slice A2 2 c2] 34)) := (Below.refl _ _).alloc (Nat.le_refl _) _
  have HB3 := hide (HB2.out.trans (hal3.mono HB2.out.size))
  have HR3 := hide (Blk.new w2 34 #[.bool true, .slice A2 2 c2])
  have HK3 := hide (HK2.out.alloc (.cells #[.bool true, .slice A2 2 c2] 34))
  have HU3 := hide (HU2.out.below hal3)
  have HG := hide (cgood_any true A2 2 c2 liveQ _ HU3.out)
  rw [show cgoodP liveQ = true by decide] at HG
  clear hal3
  go_wp2_with fail
  refine HG.out.mono ?_
  rintro e w4 ⟨rfl, hb4⟩
  have HB4 := hide (HB3.out.trans (hb4.mono HB3.out.size))
  have HR4 := hide (HR3.out.below hb4 (by simp))
  have HK4 := hide (HK3.out.below hb4 (by simp; omega))
  have HU4 := hide (HU3.out.below hb4)
  have z0 := HR4.out.cell 0
  have z1 := HR4.out.cell 1
  have HTx := hide (clText_any true A2 2 c2 liveQ w4 HU4.out (by decide) (HE.out.below HB4.out).tab (by decide +kernel))
  clear hb4
  go_wp2_with fail
  refine HTx.out.mono ?_
  rintro e w5 ⟨rfl, hb5⟩
  have HB5 := hide (HB4.out.trans (hb5.mono HB4.out.size))
  have HR5 := hide (HR4.out.below hb5 HR4.out.lt)
  have HK5 := hide (HK4.out.below hb5 HK4.out.lt)
  have HU5 := hide (HU4.out.below hb5)
  have HSp := hide (split_any 32 (ctextP true liveQ) (by decide +kernel) w5 (HE.out.below HB5.out))
  clear hb5
  go_wp2_with fail
  refine HSp.out.mono ?_
  rintro e w6 ⟨rfl, hb6, hlt6, hc6⟩
  have HB6 := hide (HB5.out.trans (hb6.mono HB5.out.size))
  have HR6 := hide (HR5.out.below hb6 HR5.out.lt)
  have HK6 := hide (HK5.out.below hb6 HK5.out.lt)
  have HU6 := hide (HU5.out.below hb6)
  rw [liveQ_text] at hc6 ⊢
  rw [show liveCW.length = 3 from rfl]
  have hst6 : StrsAt w6 (some ⟨w5.heap.size, 0, none⟩) 3 3 (liveCW.map str) := by
    refine ⟨rfl, by decide, by simp [maxLen], by decide, fun _ => ⟨w5.heap.size, 0, rfl, hlt6, fun k x hk => ?_⟩⟩
    rw [List.getElem?_map, Option.map_eq_some_iff] at hk
    obtain ⟨y, hy, rfl⟩ := hk
    rw [Nat.zero_add]; exact hc6 k y hy
  have HEq := strEq_any (some ⟨w5.heap.size, 0, none⟩) (some ⟨G, 0, none⟩) 3 3 3 3 _ _ w6 hst6 (HL.out.below rfl HB6.out)
  rw [decide_eq_true rfl] at HEq
  have HEQ := hide HEq
  clear hb6 hst6 HEq hc6
  go_wp2_with fail
  refine HEQ.out.mono ?_
  rintro e w7 ⟨rfl, hb7⟩
  have HB7 := hide (HB6.out.trans (hb7.mono HB6.out.size))
  have HU7 := hide (HU6.out.below hb7)
  have hr7 := HR6.out.below hb7 HR6.out.lt
  have hk7 := HK6.out.below hb7 HK6.out.lt
  have z0 := hr7.cell 0
  have z1 := hr7.cell 1
  have y0 := hk7.cell 0
  have y1 := hk7.cell 1
  have f0 := hk7.frozen 0
  have f1 := hk7.frozen 1
  have HK7 := hide hk7
  have hne7 : ¬ w2.heap.size = w.heap.size := by omega
  clear hb7 hr7 hk7
  go_wp2
  refine bodyPost_ret (v := .tuple #[.agg #[.bool true, .slice A2 2 c2], .int .i64 0]) (by simp [results, Tryz.results33, go_sem, y0, y1]) rfl ⟨_, _, rfl, ?_, (HB7.out.setCell (p := ⟨w.heap.size, 0, none⟩) (Nat.le_refl _) _).setCell (p := ⟨w.heap.size, 1, none⟩) (Nat.le_refl _) _⟩
  exact u32s_other (u32s_other HU7.out HK7.out no_u32_2 0 _) (HK7.out.set_ 0 (.bool true)) no_u32_2 1 _
theorem u32s_nil {w : World} {c : Nat} (hc : c ≤ maxLen := by simp [maxLen]) : U32s w none 0 c [] := ⟨rfl, Nat.zero_le _, hc, by simp, fun h => absurd h (by omega)⟩
theorem rise_liveQ : Rise liveQ := by unfold Rise liveQ; decide
set_option maxRecDepth 100000 in
set_option maxHeartbeats 1000000 in
theorem clives19_any (w : World) (he : Env w) : Calls Tryz.prog 17 #[] w (GoodP true w) := by
  have hal : Below w.heap.size w (w.alloc (.cells #[.string ⟨#[112, 101, 114, 109, 105, 116]⟩, .string ⟨#[54, 53, 48, 48, 48, 58, 49]⟩, .string ⟨#[110, 111, 45, 101, 120, 112, 111, 114, 116]⟩] 9)) := (Below.refl w.heap.size w).alloc (Nat.le_refl _) _
  have hst : StrsAt (w.alloc (.cells #[.string ⟨#[112, 101, 114, 109, 105, 116]⟩, .string ⟨#[54, 53, 48, 48, 48, 58, 49]⟩, .string ⟨#[110, 111, 45, 101, 120, 112, 111, 114, 116]⟩] 9)) (some ⟨w.heap.size, 0, none⟩) 3 3 (liveCW.map str) :=
    StrsAt.of_own (l := liveCW) (base := 0) (own_row (Blk.new w _ _) liveCV.symm (Nat.zero_le _) rfl (by simp [maxLen])) (by decide)
  have HP := hide (cParse_lives w.heap.size _ (he.below hal) hst)
  have HB := hide hal
  clear hal hst he
  go_enter Tryz.func17, Tryz.ntmps17
  go_wp2_with fail
  refine HP.out.mono ?_
  rintro e w1 ⟨A, c, rfl, hu, hb⟩
  have HB1 := hide (HB.out.trans (hb.mono HB.out.size))
  have hal1 : Below w1.heap.size w1 ((w1.alloc (.cells #[.bool true, .slice A 2 c] 34)).alloc (.cells #[.int .u32 4259840001, .int .u32 4294967041] 46)) := ((Below.refl w1.heap.size w1).alloc (Nat.le_refl _) _).alloc (by simp) _
  have hbk : Blk ((w1.alloc (.cells #[.bool true, .slice A 2 c] 34)).alloc (.cells #[.int .u32 4259840001, .int .u32 4294967041] 46)) (w1.heap.size + 1) 46 #[.int .u32 4259840001, .int .u32 4294967041] := blk_new' _ _ (by simp)
  have hlive : U32s ((w1.alloc (.cells #[.bool true, .slice A 2 c] 34)).alloc (.cells #[.int .u32 4259840001, .int .u32 4294967041] 46)) (some ⟨w1.heap.size + 1, 0, none⟩) 2 2 liveQ :=
    U32s.of_own (base := 0) (own_row (xs := u32c liveQ) hbk rfl (Nat.zero_le _) rfl (by simp [maxLen])) liveQ_lt
  have HU := hide (hu.below hal1)
  have HH := hide (cHits_any true A 2 c liveQ (some ⟨w1.heap.size + 1, 0, none⟩) 2 2 liveQ _ (hu.below hal1) hlive rise_liveQ (by decide))
  rw [show allIn liveQ liveQ = true by decide] at HH
  have HK := hide ((Blk.new w1 34 #[.bool true, .slice A 2 c]).alloc (.cells #[.int .u32 4259840001, .int .u32 4294967041] 46))
  have HB2 := hide (HB1.out.trans (hal1.mono HB1.out.size))
  clear hu hb hal1 hbk hlive
  go_wp2_with fail
  refine HH.out.mono ?_
  rintro e w2 ⟨rfl, hb2⟩
  have HH2 := hide (cHits_any true A 2 c liveQ none 0 0 [] w2 (HU.out.below hb2) u32s_nil List.Pairwise.nil (by decide))
  rw [show allIn liveQ [] = false by decide] at HH2
  have hk2 := HK.out.below hb2 (by simp; omega)
  have z0 := hk2.cell 0
  have z1 := hk2.cell 1
  have HB3 := hide (HB2.out.trans (hb2.mono HB2.out.size))
  clear hb2 hk2
  go_wp2_with fail
  refine HH2.out.mono ?_
  rintro e w3 ⟨rfl, hb3⟩
  have HB4 := hide (HB3.out.trans (hb3.mono HB3.out.size))
  clear hb3
  go_wp2
  go_ret
  exact ⟨rfl, HB4.out⟩
theorem fewM_any (A : Option Addr) (n c : Nat) (l : List Nat) (most : Nat) (hmost : most ≤ 100000) (w : World) (h : U32s w A n c l) :
    Calls Tryz.prog 7 #[.slice A n c, .int .i64 most] w fun e w' => ∃ A' n' c', e = .returned (.slice A' n' c') ∧ U32s w' A' n' c' (l.take most) ∧ n' ≤ most ∧ Below w.heap.size w w' := by
  refine (few_any A n c l most hmost w h).mono ?_
  rintro e w' ⟨v, rfl, ho⟩
  obtain ⟨A', n', c', rfl, hu⟩ := ho.u32s (fun x hx => h.2.2.2.1 x (List.mem_of_mem_take hx))
  exact ⟨A', n', c', rfl, hu, by rw [← hu.1]; exact List.length_take_le _ _, ho.2⟩
end Go.Proofs.YtpgffbomlmmncaaGreatDoor
set_option linter.unusedSimpArgs false
set_option linter.unusedVariables false
namespace Go.Proofs.YtpgffbomlmmncaaGreatDoor
open Go.RowKit Go.WideShapes Go.ChangeShapes
attribute [local go_sem] Oper.semAt_some
structure CR where
  b : Bool
  r : List Nat
def crR (w : World) (vs : List Value) (x : CR) : Prop := ∃ B m d, vs = [.bool x.b, .slice B m d] ∧ U32s w B m d x.r
theorem crMono : SMono crR := fun _ _ _ _ hb ⟨B, m, d, e, h⟩ => ⟨B, m, d, e, h.below hb⟩
theorem CRat {w : World} {A : Option Addr} {n c : Nat} {l : List CR} (h : LstAt 2 crR w A n c l) {k : Nat} (hk : k < n) :
    ∃ (g o : Nat) (b : Bool) (B : Option Addr) (m d : Nat) (r : List Nat), A = some ⟨g, o, none⟩ ∧ g < w.heap.size ∧ l[k]? = some ⟨b, r⟩ ∧ U32s w B m d r ∧ w.cell? ⟨g, o + k * 2, none⟩ = some (.bool b) ∧ w.cell? ⟨g, o + k * 2 + 1, none⟩ = some (.slice B m d) := by
  obtain ⟨g, o, ⟨b, r⟩, vs, hA, hg, hx, _, ⟨B, m, d, rfl, hr⟩, hc⟩ := h.at_ hk
  exact ⟨g, o, b, B, m, d, r, hA, hg, hx, hr, hc 0 _ rfl, hc 1 _ rfl⟩
def chitP (C : List Nat) (x : CR) : Bool := allIn x.r C
set_option maxRecDepth 100000 in
theorem crIndex0_any (F : FuncId) (p : CR → Bool) (A : Option Addr) (n c : Nat) (l : List CR) (w : World) (h : LstAt 2 crR w A n c l) (hF : ∀ (args : Array Value) (W : World), (callFunc F args).run Tryz.prog W = .ok (.enter F args) W)
    (HF : ∀ (b : Bool) (B : Option Addr) (m d : Nat) (r : List Nat) (W : World), Below w.heap.size w W → U32s W B m d r → Calls Tryz.prog F #[.agg #[.bool b, .slice B m d]] W (GoodP (p ⟨b, r⟩) W)) :
    Calls Tryz.prog 37 #[.slice A n c, .func (.func F) #[] #[]] w fun e w' => e = .returned (.int .i64 (idxP p l)) ∧ Below w.heap.size w w' := by
  have hm := h.2.2.1
  have hnc := h.2.1
  unfold maxLen at hm
  have HU := hide h
  have HP := hide HF
  have HE := hide hF
  clear h HF hF
  go_enter Tryz.func37, Tryz.ntmps37
  go_wp2
  go_loopw [8] (fun i wr => ∃ k : Nat, k ≤ n ∧ i = .int .i64 k ∧ (∀ y ∈ l.take k, p y = false) ∧ Below w.heap.size w wr) (fun i _ => n - (intOf i).toNat)
  case atStart => exact ⟨0, Nat.zero_le _, rfl, by simp, Below.refl _ _⟩
  case round =>
    obtain ⟨k, hk, rfl, hno, hb⟩ := hrel
    have HN := hide hno
    have HA := hide (HU.out.below crMono hb)
    have HB := hide hb
    have hsz := hb.size
    clear hno hb
    by_cases hlt : k < n
    · obtain ⟨g, o, b, B, m, d, r, rfl, hg, hy, hok, c0, c1⟩ := CRat HA.out hlt
      have HO := hide (HP.out b B m d r wr HB.out hok)
      have HY := hide hy
      clear hy
      obtain ⟨q, hq⟩ : ∃ q, p ⟨b, r⟩ = q := ⟨_, rfl⟩
      rw [hq] at HO
      have HQ := hide hq
      clear hq hok
      go_wp2_with fail
      rw [HE.out, Oper.upon_enter]
      refine HO.out.mono ?_
      rintro e w1 ⟨rfl, hb1⟩
      have HB1 := hide (HB.out.trans (hb1.mono hsz))
      clear hb1
      cases q
      · have hn2 := hide (show ∀ y ∈ l.take (k + 1), p y = false by
          intro y hy
          rw [List.take_add_one, HY.out, List.mem_append] at hy
          rcases hy with hy | hy
          · exact HN.out y hy
          · simp at hy; subst hy; exact HQ.out)
        go_wp2
        go_roundw
        case rel => exact ⟨k + 1, by omega, by go_num, hn2.out, HB1.out⟩
        case measure => simp [intOf]; omega
      · have hin := hide (idxP_at p l k _ HN.out HY.out HQ.out)
        go_wp2
        go_ret
        exact ⟨ret_i64 hin.out.symm, HB1.out⟩
    · obtain rfl : k = n := by omega
      have hf := hide (idxP_none p l (fun y hy => HN.out y (by rw [List.take_of_length_le (by rw [HU.out.1]; exact Nat.le_refl _)]; exact hy)))
      go_wp2
      go_ret
      exact ⟨ret_i64 hf.out.symm, HB.out⟩
theorem crContains0_any (F : FuncId) (p : CR → Bool) (A : Option Addr) (n c : Nat) (l : List CR) (w : World) (h : LstAt 2 crR w A n c l) (hF : ∀ (args : Array Value) (W : World), (callFunc F args).run Tryz.prog W = .ok (.enter F args) W)
    (HF : ∀ (b : Bool) (B : Option Addr) (m d : Nat) (r : List Nat) (W : World), Below w.heap.size w W → U32s W B m d r → Calls Tryz.prog F #[.agg #[.bool b, .slice B m d]] W (GoodP (p ⟨b, r⟩) W)) :
    Calls Tryz.prog 30 #[.slice A n c, .func (.func F) #[] #[]] w (GoodP (l.any p) w) := by
  have HI := hide (crIndex0_any F p A n c l w h hF HF)
  have hd := idxP_any p l
  obtain ⟨q, hq⟩ : ∃ q, l.any p = q := ⟨_, rfl⟩
  obtain ⟨i, hi⟩ : ∃ i, idxP p l = i := ⟨_, rfl⟩
  rw [hi] at HI hd
  rw [hq] at hd ⊢
  clear h hF HF hi hq
  go_enter Tryz.func30, Tryz.ntmps30
  go_wp2_with fail
  refine HI.out.mono ?_
  rintro e w1 ⟨rfl, hb⟩
  have HB := hide hb
  clear hb
  go_wp2
  go_ret
  exact ⟨rfl, HB.out⟩
set_option maxRecDepth 100000 in
theorem crIndex1_any (F : FuncId) (cap : Value) (p : CR → Bool) (A : Option Addr) (n c : Nat) (l : List CR) (w : World) (h : LstAt 2 crR w A n c l) (hF : ∀ (args : Array Value) (W : World), (callFunc F args).run Tryz.prog W = .ok (.enter F args) W)
    (HF : ∀ (b : Bool) (B : Option Addr) (m d : Nat) (r : List Nat) (W : World), Below w.heap.size w W → U32s W B m d r → Calls Tryz.prog F #[.agg #[.bool b, .slice B m d], cap] W (GoodP (p ⟨b, r⟩) W)) :
    Calls Tryz.prog 37 #[.slice A n c, .func (.func F) #[] #[cap]] w fun e w' => e = .returned (.int .i64 (idxP p l)) ∧ Below w.heap.size w w' := by
  have hm := h.2.2.1
  have hnc := h.2.1
  unfold maxLen at hm
  have HU := hide h
  have HP := hide HF
  have HE := hide hF
  clear h HF hF
  go_enter Tryz.func37, Tryz.ntmps37
  go_wp2
  go_loopw [8] (fun i wr => ∃ k : Nat, k ≤ n ∧ i = .int .i64 k ∧ (∀ y ∈ l.take k, p y = false) ∧ Below w.heap.size w wr) (fun i _ => n - (intOf i).toNat)
  case atStart => exact ⟨0, Nat.zero_le _, rfl, by simp, Below.refl _ _⟩
  case round =>
    obtain ⟨k, hk, rfl, hno, hb⟩ := hrel
    have HN := hide hno
    have HA := hide (HU.out.below crMono hb)
    have HB := hide hb
    have hsz := hb.size
    clear hno hb
    by_cases hlt : k < n
    · obtain ⟨g, o, b, B, m, d, r, rfl, hg, hy, hok, c0, c1⟩ := CRat HA.out hlt
      have HO := hide (HP.out b B m d r wr HB.out hok)
      have HY := hide hy
      clear hy
      obtain ⟨q, hq⟩ : ∃ q, p ⟨b, r⟩ = q := ⟨_, rfl⟩
      rw [hq] at HO
      have HQ := hide hq
      clear hq hok
      go_wp2_with fail
      rw [HE.out, Oper.upon_enter]
      refine HO.out.mono ?_
      rintro e w1 ⟨rfl, hb1⟩
      have HB1 := hide (HB.out.trans (hb1.mono hsz))
      clear hb1
      cases q
      · have hn2 := hide (show ∀ y ∈ l.take (k + 1), p y = false by
          intro y hy
          rw [List.take_add_one, HY.out, List.mem_append] at hy
          rcases hy with hy | hy
          · exact HN.out y hy
          · simp at hy; subst hy; exact HQ.out)
        go_wp2
        go_roundw
        case rel => exact ⟨k + 1, by omega, by go_num, hn2.out, HB1.out⟩
        case measure => simp [intOf]; omega
      · have hin := hide (idxP_at p l k _ HN.out HY.out HQ.out)
        go_wp2
        go_ret
        exact ⟨ret_i64 hin.out.symm, HB1.out⟩
    · obtain rfl : k = n := by omega
      have hf := hide (idxP_none p l (fun y hy => HN.out y (by rw [List.take_of_length_le (by rw [HU.out.1]; exact Nat.le_refl _)]; exact hy)))
      go_wp2
      go_ret
      exact ⟨ret_i64 hf.out.symm, HB.out⟩
theorem cseek1_any (b : Bool) (B' : Option Addr) (m' d' : Nat) (r : List Nat) (H : Nat) (B : Option Addr) (m d : Nat) (C : List Nat) (w : World) (hr : U32s w B' m' d' r) (hC : U32s w B m d C) (hri : Rise C) (hm : m ≤ 100000) (hc : Blk w H 25 #[.slice B m d]) :
    Calls Tryz.prog 38 #[.agg #[.bool b, .slice B' m' d'], .pointer (some ⟨H, 0, none⟩)] w (GoodP (chitP C ⟨b, r⟩) w) := by
  have hal : Below w.heap.size w (w.alloc (.cells #[.bool b, .slice B' m' d'] 34)) := (Below.refl w.heap.size w).alloc (Nat.le_refl _) _
  have HG := hide (chits_any b B' m' d' r B m d C _ (hr.below hal) (hC.below hal) hri hm)
  have HB := hide hal
  have hH := hc.lt
  have c0 := hc.cell 0
  obtain ⟨q, hq⟩ : ∃ q, allIn r C = q := ⟨_, rfl⟩
  have HQ : Hid (chitP C ⟨b, r⟩ = q) := hide hq
  rw [hq] at HG
  clear hq hr hC hri hc hal
  go_enter Tryz.func38, Tryz.ntmps38
  go_wp2_with fail
  refine HG.out.mono ?_
  rintro e w1 ⟨rfl, hb⟩
  have HB1 := hide (below2 HB.out hb)
  clear hb
  go_wp2
  go_ret
  exact ⟨ret_bool HQ.out.symm, HB1.out⟩
theorem callCSeek1 (args : Array Value) (W : World) : (callFunc 38 args).run Tryz.prog W = .ok (.enter 38 args) W := by
  simp [callFunc, go_sem, Tryz.func38]
  rfl
theorem cseek_any (s : ByteArray) (A : Option Addr) (k c : Nat) (l : List CR) (B : Option Addr) (m d : Nat) (C : List Nat) (w : World) (h : LstAt 2 crR w A k c l) (hC : U32s w B m d C) (hri : Rise C) (hm : m ≤ 100000) :
    Calls Tryz.prog 24 #[.agg #[.string s, .slice A k c], .slice B m d] w fun e w' => e = .returned (.int .i64 (idxP (chitP C) l)) ∧ Below w.heap.size w w' := by
  have hal : Below w.heap.size w ((w.alloc (.cells #[.string s, .slice A k c] 24)).alloc (.cells #[.slice B m d] 25)) := ((Below.refl w.heap.size w).alloc (Nat.le_refl _) _).alloc (by simp) _
  have hbk : Blk ((w.alloc (.cells #[.string s, .slice A k c] 24)).alloc (.cells #[.slice B m d] 25)) (w.heap.size + 1) 25 #[.slice B m d] := blk_new' _ _ (by simp)
  have HI := hide (crIndex1_any 38 (.pointer (some ⟨w.heap.size + 1, 0, none⟩)) (chitP C) A k c l _ (h.below crMono hal) callCSeek1 (fun b B' m' d' r W hW hr => cseek1_any b B' m' d' r (w.heap.size + 1) B m d C W hr ((hC.below hal).below hW) hri hm (hbk.below hW hbk.lt)))
  have HB := hide hal
  obtain ⟨i, hi⟩ : ∃ i, idxP (chitP C) l = i := ⟨_, rfl⟩
  rw [hi] at HI ⊢
  clear h hC hri hal hbk hi
  go_enter Tryz.func24, Tryz.ntmps24
  go_wp2_with fail
  refine HI.out.mono ?_
  rintro e w1 ⟨rfl, hb⟩
  have HB1 := hide (below2 HB.out hb)
  clear hb
  go_wp2
  go_ret
  exact ⟨rfl, HB1.out⟩
theorem cFirst_any (s : ByteArray) (A : Option Addr) (k c : Nat) (l : List CR) (B : Option Addr) (m d : Nat) (C : List Nat) (w : World) (h : LstAt 2 crR w A k c l) (hC : U32s w B m d C) (hri : Rise C) (hm : m ≤ 100000) :
    Calls Tryz.prog 9 #[.agg #[.string s, .slice A k c], .slice B m d] w fun e w' => e = .returned (.tuple #[.int .i64 (max (idxP (chitP C) l) 0), .bool (decide (0 ≤ idxP (chitP C) l))]) ∧ Below w.heap.size w w' := by
  have hal : Below w.heap.size w (w.alloc (.cells #[.string s, .slice A k c] 24)) := (Below.refl w.heap.size w).alloc (Nat.le_refl _) _
  have HI := hide (cseek_any s A k c l B m d C _ (h.below crMono hal) (hC.below hal) hri hm)
  have HB := hide hal
  have hcase := idxP_find (chitP C) l
  obtain ⟨i, hi⟩ : ∃ i, idxP (chitP C) l = i := ⟨_, rfl⟩
  rw [hi] at HI hcase ⊢
  have hc2 : (max i 0 = 0 ∧ decide (0 ≤ i) = false) ∨ (max i 0 = i ∧ decide (0 ≤ i) = true) := by
    rcases hcase with ⟨rfl, _⟩ | ⟨k, _, rfl, _⟩
    · exact .inl ⟨by decide, by decide⟩
    · exact .inr ⟨by omega, by simp⟩
  clear h hC hri hal hi hcase
  rcases hc2 with ⟨hm, hd⟩ | ⟨hm, hd⟩
  all_goals
    rw [hm, hd]
    have HM := hide hm
    clear hm
    go_enter Tryz.func9, Tryz.ntmps9
    go_wp2_with fail
    refine HI.out.mono ?_
    rintro e w1 ⟨rfl, hb⟩
    have HB1 := hide (below2 HB.out hb)
    have hm := HM.out
    clear hb
    go_wp2
    go_ret2
    exact ⟨rfl, HB1.out⟩
def crPerm (p : CR → Bool) (l : List CR) : Bool := match l.find? p with
  | some r => r.b
  | none => false
theorem cPermits_any (s : ByteArray) (A : Option Addr) (k c : Nat) (l : List CR) (B : Option Addr) (m d : Nat) (C : List Nat) (w : World) (h : LstAt 2 crR w A k c l) (hC : U32s w B m d C) (hri : Rise C) (hm : m ≤ 100000) :
    Calls Tryz.prog 15 #[.agg #[.string s, .slice A k c], .slice B m d] w (GoodP (crPerm (chitP C) l) w) := by
  have hal : Below w.heap.size w (w.alloc (.cells #[.string s, .slice A k c] 24)) := (Below.refl w.heap.size w).alloc (Nat.le_refl _) _
  have HI := hide (cseek_any s A k c l B m d C _ (h.below crMono hal) (hC.below hal) hri hm)
  have HB := hide hal
  have HK := hide (Blk.new w 24 #[.string s, .slice A k c])
  have hmx := h.2.2.1
  have hnc := h.2.1
  unfold maxLen at hmx
  have HU := hide (h.below crMono hal)
  rcases idxP_find (chitP C) l with ⟨hi, hf, _⟩ | ⟨j, r, hi, hj, hr, hf, _⟩
  · have HR : Hid (crPerm (chitP C) l = false) := hide (by unfold crPerm; rw [hf])
    rw [hi] at HI
    clear h hC hri hal hi hf
    go_enter Tryz.func15, Tryz.ntmps15
    go_wp2_with fail
    refine HI.out.mono ?_
    rintro e w1 ⟨rfl, hb⟩
    have HB1 := hide (below2 HB.out hb)
    clear hb
    go_wp2
    go_ret
    exact ⟨ret_bool HR.out.symm, HB1.out⟩
  · have HR : Hid (crPerm (chitP C) l = r.b) := hide (by unfold crPerm; rw [hf])
    rw [hi] at HI
    have hjk : j < k := by rw [← h.1]; exact hj
    have HX := hide hr
    clear h hC hri hal hi hf hr hj
    go_enter Tryz.func15, Tryz.ntmps15
    go_wp2_with fail
    refine HI.out.mono ?_
    rintro e w1 ⟨rfl, hb⟩
    have hk1 := HK.out.below hb (by simp)
    have x1 := hk1.cell 1
    obtain ⟨g, o, b, B2, m2, d2, r2, rfl, hg, hy, hok, c0, c1⟩ := CRat (HU.out.below crMono hb) hjk
    have HY : Hid (r.b = b) := hide (by rw [HX.out] at hy; injection hy with hy; rw [hy])
    have HB1 := hide (below2 HB.out hb)
    clear hb hk1 hy hok
    go_wp2
    go_ret
    exact ⟨ret_bool (HR.out.trans HY.out).symm, HB1.out⟩
theorem codd_any (b : Bool) (A : Option Addr) (n c : Nat) (l : List Nat) (w : World) (h : U32s w A n c l) :
    Calls Tryz.prog 27 #[.agg #[.bool b, .slice A n c]] w (GoodP (!cgoodP l) w) := by
  have hal : Below w.heap.size w (w.alloc (.cells #[.bool b, .slice A n c] 34)) := (Below.refl w.heap.size w).alloc (Nat.le_refl _) _
  have HG := hide (cgood_any b A n c l _ (h.below hal))
  have HB := hide hal
  obtain ⟨q, hq⟩ : ∃ q, cgoodP l = q := ⟨_, rfl⟩
  rw [hq] at HG ⊢
  clear hq h hal
  go_enter Tryz.func27, Tryz.ntmps27
  go_wp2_with fail
  refine HG.out.mono ?_
  rintro e w1 ⟨rfl, hb⟩
  have HB1 := hide (below2 HB.out hb)
  clear hb
  go_wp2
  go_ret
  exact ⟨rfl, HB1.out⟩
theorem callCOdd (args : Array Value) (W : World) : (callFunc 27 args).run Tryz.prog W = .ok (.enter 27 args) W := by
  simp [callFunc, go_sem, Tryz.func27]
  rfl
def cgoodL (s : ByteArray) (l : List CR) : Bool := nameB s && (decide (1 ≤ l.length) && (decide (l.length ≤ 100) && l.all fun x => cgoodP x.r))
theorem cGood_any (s : ByteArray) (A : Option Addr) (k c : Nat) (l : List CR) (w : World) (h : LstAt 2 crR w A k c l) (hs : s.size ≤ maxLen) :
    Calls Tryz.prog 13 #[.agg #[.string s, .slice A k c]] w (GoodP (cgoodL s l) w) := by
  have hal : Below w.heap.size w (w.alloc (.cells #[.string s, .slice A k c] 24)) := (Below.refl w.heap.size w).alloc (Nat.le_refl _) _
  have HC := hide (crContains0_any 27 (fun x : CR => !cgoodP x.r) A k c l _ (h.below crMono hal) callCOdd (fun b B m d r W _ hok => codd_any b B m d r W hok))
  have HN := hide (fun W => name_any s W hs)
  have HB := hide hal
  have hm := h.2.2.1
  have hnc := h.2.1
  unfold maxLen at hm
  have HR : Hid (cgoodL s l = (nameB s && (decide ((1 : Int) ≤ (k : Int)) && (decide ((k : Int) ≤ 100) && !(l.any fun x : CR => !cgoodP x.r))))) := hide (by
    unfold cgoodL
    rw [h.1, any_not (fun x : CR => cgoodP x.r), Bool.not_not]
    have e1 : decide (1 ≤ k) = decide ((1 : Int) ≤ (k : Int)) := by rw [decide_eq_decide]; omega
    have e2 : decide (k ≤ 100) = decide ((k : Int) ≤ 100) := by rw [decide_eq_decide]; omega
    rw [e1, e2])
  obtain ⟨q, hq⟩ : ∃ q, nameB s = q := ⟨_, rfl⟩
  obtain ⟨q1, hd1⟩ : ∃ q, decide ((1 : Int) ≤ (k : Int)) = q := ⟨_, rfl⟩
  obtain ⟨q2, hd2⟩ : ∃ q, decide ((k : Int) ≤ 100) = q := ⟨_, rfl⟩
  obtain ⟨q3, hq3⟩ : ∃ q, (l.any fun x : CR => !cgoodP x.r) = q := ⟨_, rfl⟩
  rw [hq] at HN
  rw [hq3] at HC
  rw [hq, hd1, hd2, hq3] at HR
  clear hq hq3 h hal hs
  cases q <;> cases q1 <;> cases q2 <;> cases q3
  all_goals
    go_enter Tryz.func13, Tryz.ntmps13
    go_wp2_with fail
    refine (HN.out _).mono ?_
    rintro e w1 ⟨rfl, rfl⟩
    first
    | (go_wp2_with fail
       refine HC.out.mono ?_
       rintro e w1 ⟨rfl, hb⟩
       have HB1 := hide (below2 HB.out hb)
       clear hb
       go_wp2
       go_ret
       exact ⟨ret_bool HR.out.symm, HB1.out⟩)
    | (go_wp2
       go_ret
       exact ⟨ret_bool HR.out.symm, HB.out⟩)
theorem refCRule_any (b : Bool) (A : Option Addr) (n c : Nat) (l : List Nat) (w : World) (h : U32s w A n c l) (hn : n ≤ 10000) :
    Calls Tryz.prog 31 #[.agg #[.bool b, .slice A n c]] w (GoodP (cgoodP l) w) := by
  have hal : Below w.heap.size w (w.alloc (.cells #[.bool b, .slice A n c] 34)) := (Below.refl w.heap.size w).alloc (Nat.le_refl _) _
  have HG := hide (rising_any A n c l _ (h.below hal) hn)
  have HB := hide hal
  have HR : Hid (cgoodP l = (decide (0 < n) && (decide ((n : Int) < 33) && riseB l))) := hide (by
    unfold cgoodP
    rw [h.1, Bool.and_assoc]
    have e1 : decide (1 ≤ n) = decide (0 < n) := by rw [decide_eq_decide]; omega
    have e2 : decide (n ≤ 32) = decide ((n : Int) < 33) := by rw [decide_eq_decide]; omega
    rw [e1, e2])
  obtain ⟨q, hq⟩ : ∃ q, riseB l = q := ⟨_, rfl⟩
  obtain ⟨q1, hd1⟩ : ∃ q, decide (0 < n) = q := ⟨_, rfl⟩
  obtain ⟨q2, hd2⟩ : ∃ q, decide ((n : Int) < 33) = q := ⟨_, rfl⟩
  rw [hq] at HG
  rw [hq, hd1, hd2] at HR
  clear hq h hal
  cases q1 <;> cases q2 <;> cases q
  all_goals
    go_enter Tryz.func31, Tryz.ntmps31
    first
    | (go_wp2_with fail
       refine HG.out.mono ?_
       rintro e w1 ⟨rfl, hb⟩
       have HB1 := hide (below2 HB.out hb)
       clear hb
       go_wp2
       go_ret
       exact ⟨ret_bool HR.out.symm, HB1.out⟩)
    | (go_wp2
       go_ret
       exact ⟨ret_bool HR.out.symm, HB.out⟩)
set_option maxRecDepth 100000 in
theorem refCGood_any (s : ByteArray) (A : Option Addr) (n c : Nat) (l : List CR) (w : World) (h : LstAt 2 crR w A n c l) (hs : s.size ≤ maxLen) (hml : ∀ x ∈ l, x.r.length ≤ 10000) :
    Calls Tryz.prog 14 #[.agg #[.string s, .slice A n c]] w (GoodP (cgoodL s l) w) := by
  have hal : Below w.heap.size w (w.alloc (.cells #[.string s, .slice A n c] 24)) := (Below.refl w.heap.size w).alloc (Nat.le_refl _) _
  have HK := hide (Blk.new w 24 #[.string s, .slice A n c])
  have HN := hide (fun W => refName_any s W hs)
  have HB := hide hal
  have hm := h.2.2.1
  have hnc := h.2.1
  unfold maxLen at hm
  have HU := hide (h.below crMono hal)
  have HR : Hid (cgoodL s l = ((l.all fun x => cgoodP x.r) && (nameB s && (decide (0 < n) && (decide ((n : Int) < 101)))))) := hide (by
    unfold cgoodL
    rw [h.1]
    have e1 : decide (1 ≤ n) = decide (0 < n) := by rw [decide_eq_decide]; omega
    have e2 : decide (n ≤ 100) = decide ((n : Int) < 101) := by rw [decide_eq_decide]; omega
    rw [e1, e2]
    cases (l.all fun x => cgoodP x.r) <;> cases nameB s <;> cases decide (0 < n) <;> cases decide ((n : Int) < 101) <;> rfl)
  have HM := hide hml
  clear h hal hs hml
  obtain ⟨W, hW⟩ : ∃ W, w.alloc (.cells #[.string s, .slice A n c] 24) = W := ⟨_, rfl⟩
  go_enter Tryz.func14, Tryz.ntmps14
  go_wp2
  rw [hW] at HK HB HU
  clear hW
  go_loopw [3] (fun i wr => ∃ k : Nat, k ≤ n ∧ i = .int .i64 k ∧ ((l.take k).all fun x => cgoodP x.r) = true ∧ Below W.heap.size W wr) (fun i _ => n - (intOf i).toNat)
  case atStart => exact ⟨0, Nat.zero_le _, rfl, by simp, Below.refl _ _⟩
  case round =>
    obtain ⟨k, hk, rfl, hno, hb⟩ := hrel
    have HNo := hide hno
    have HA := hide (HU.out.below crMono hb)
    have HB0 := hide hb
    have HB1 := hide (HB.out.trans (hb.mono HB.out.size))
    have hk1 := HK.out.below hb HK.out.lt
    have x0 := hk1.cell 0
    have x1 := hk1.cell 1
    have hsz := hb.size
    clear hno hb hk1
    by_cases hlt : k < n
    · obtain ⟨g, o, b, B, m, d, r, rfl, hg, hy, hok, c0, c1⟩ := CRat HA.out hlt
      have hmr := HM.out ⟨b, r⟩ (List.mem_of_getElem? hy)
      have HO := hide (refCRule_any b B m d r wr hok (by have := hok.1; have h2 : r.length ≤ 10000 := hmr; omega))
      have HY := hide hy
      clear hy hok
      obtain ⟨q, hq⟩ : ∃ q, cgoodP r = q := ⟨_, rfl⟩
      rw [hq] at HO
      have HQ := hide hq
      clear hq
      go_wp2_with fail
      refine HO.out.mono ?_
      rintro e w1 ⟨rfl, hb1⟩
      have HB2 := hide (HB0.out.trans (hb1.mono hsz))
      have HB3 := hide (below2 HB1.out (hb1.mono (by exact Nat.le_refl _)))
      clear hb1
      cases q
      · have hf := hide (show cgoodL s l = false by
          have : (l.all fun x => cgoodP x.r) = false := by rw [List.all_eq_false]; exact ⟨_, List.mem_of_getElem? HY.out, by rw [HQ.out]; simp⟩
          rw [HR.out, this]; rfl)
        go_wp2
        go_ret
        exact ⟨ret_bool hf.out.symm, HB3.out⟩
      · have hn2 := hide (show ((l.take (k + 1)).all fun x => cgoodP x.r) = true by
          rw [List.take_add_one, HY.out, List.all_append, HNo.out]
          simp [HQ.out])
        go_wp2
        go_roundw
        case rel => exact ⟨k + 1, by omega, by go_num, hn2.out, HB2.out⟩
        case measure => simp [intOf]; omega
    · obtain rfl : k = n := by omega
      have hall : (l.all fun x => cgoodP x.r) = true := by
        have := HNo.out
        rwa [List.take_of_length_le (by rw [HU.out.1]; exact Nat.le_refl _)] at this
      have HR2 := HR
      rw [hall, Bool.true_and] at HR2
      clear hall
      obtain ⟨q, hq⟩ : ∃ q, nameB s = q := ⟨_, rfl⟩
      obtain ⟨q1, hd1⟩ : ∃ q, decide (0 < k) = q := ⟨_, rfl⟩
      obtain ⟨q2, hd2⟩ : ∃ q, decide ((k : Int) < 101) = q := ⟨_, rfl⟩
      rw [hq] at HN
      rw [hq, hd1, hd2] at HR2
      clear hq
      cases q <;> cases q1 <;> cases q2
      all_goals
        go_wp2_with fail
        refine (HN.out _).mono ?_
        rintro e w1 ⟨rfl, rfl⟩
        go_wp2
        go_ret
        exact ⟨ret_bool HR2.out.symm, HB1.out⟩
set_option maxRecDepth 100000 in
theorem refCHits_any (b : Bool) (A : Option Addr) (n c : Nat) (l : List Nat) (B : Option Addr) (m d : Nat) (C : List Nat) (w : World) (h : U32s w A n c l) (hC : U32s w B m d C) :
    Calls Tryz.prog 12 #[.agg #[.bool b, .slice A n c], .slice B m d] w (GoodP (allIn l C) w) := by
  have hal : Below w.heap.size w (w.alloc (.cells #[.bool b, .slice A n c] 34)) := (Below.refl w.heap.size w).alloc (Nat.le_refl _) _
  have HK := hide (Blk.new w 34 #[.bool b, .slice A n c])
  have HB := hide hal
  have hm := h.2.2.1
  have hnc := h.2.1
  unfold maxLen at hm
  have HU := hide (h.below hal)
  have HC := hide (hC.below hal)
  clear h hC hal
  obtain ⟨W, hW⟩ : ∃ W, w.alloc (.cells #[.bool b, .slice A n c] 34) = W := ⟨_, rfl⟩
  go_enter Tryz.func12, Tryz.ntmps12
  go_wp2
  rw [hW] at HK HB HU HC
  clear hW
  go_loopw [5] (fun i wr => ∃ k : Nat, k ≤ n ∧ i = .int .i64 k ∧ (∀ y ∈ l.take k, y ∈ C) ∧ Below W.heap.size W wr) (fun i _ => n - (intOf i).toNat)
  case atStart => exact ⟨0, Nat.zero_le _, rfl, by simp, Below.refl _ _⟩
  case round =>
    obtain ⟨k, hk, rfl, hno, hb⟩ := hrel
    have HNo := hide hno
    have HA := hide (HU.out.below hb)
    have HC1 := hide (HC.out.below hb)
    have HB0 := hide hb
    have HB1 := hide (HB.out.trans (hb.mono HB.out.size))
    have hk1 := HK.out.below hb HK.out.lt
    have x0 := hk1.cell 0
    have x1 := hk1.cell 1
    have hsz := hb.size
    clear hno hb hk1
    by_cases hlt : k < n
    · obtain ⟨g, o, y, rfl, hg, hy, hy2, hc⟩ := HA.out.at_ hlt
      have HY := hide hy
      have HH := hide (refHas_any B m d C y wr HC1.out)
      have hi0 : (0 : Int) ≤ (k : Int) := by omega
      have hi1 : (k : Int) < (n : Int) := by omega
      obtain ⟨q, hq⟩ : ∃ q, decide (y ∈ C) = q := ⟨_, rfl⟩
      rw [hq] at HH
      have HQ := hide hq
      clear hq hy
      go_wp2_with fail
      refine HH.out.mono ?_
      rintro e w1 ⟨rfl, rfl⟩
      cases q
      · have hf := hide (show allIn l C = false by
          unfold allIn
          rw [List.all_eq_false]
          exact ⟨y, List.mem_of_getElem? HY.out, by rw [List.contains_iff_mem]; exact of_decide_eq_false HQ.out⟩)
        go_wp2
        go_ret
        exact ⟨ret_bool hf.out.symm, HB1.out⟩
      · have hn2 := hide (show ∀ z ∈ l.take (k + 1), z ∈ C by
          intro z hz
          rw [List.take_add_one, HY.out, List.mem_append] at hz
          rcases hz with hz | hz
          · exact HNo.out z hz
          · simp at hz; subst hz; exact of_decide_eq_true HQ.out)
        go_wp2
        go_roundw
        case rel => exact ⟨k + 1, by omega, by go_num, hn2.out, HB0.out⟩
        case measure => simp [intOf]; omega
    · obtain rfl : k = n := by omega
      have hf := hide (show allIn l C = true by
        unfold allIn
        rw [List.all_eq_true]
        intro z hz
        rw [List.contains_iff_mem]
        exact HNo.out z (by rw [List.take_of_length_le (by rw [HU.out.1]; exact Nat.le_refl _)]; exact hz))
      go_wp2
      go_ret
      exact ⟨ret_bool hf.out.symm, HB1.out⟩
set_option maxRecDepth 100000 in
theorem refCFirst_any (s : ByteArray) (A : Option Addr) (n c : Nat) (l : List CR) (B : Option Addr) (m d : Nat) (C : List Nat) (w : World) (h : LstAt 2 crR w A n c l) (hC : U32s w B m d C) :
    Calls Tryz.prog 8 #[.agg #[.string s, .slice A n c], .slice B m d] w fun e w' => e = .returned (.int .i64 (idxP (chitP C) l)) ∧ Below w.heap.size w w' := by
  have hal : Below w.heap.size w (w.alloc (.cells #[.string s, .slice A n c] 24)) := (Below.refl w.heap.size w).alloc (Nat.le_refl _) _
  have HK := hide (Blk.new w 24 #[.string s, .slice A n c])
  have HB := hide hal
  have hm := h.2.2.1
  have hnc := h.2.1
  unfold maxLen at hm
  have HU := hide (h.below crMono hal)
  have HC := hide (hC.below hal)
  clear h hC hal
  obtain ⟨W, hW⟩ : ∃ W, w.alloc (.cells #[.string s, .slice A n c] 24) = W := ⟨_, rfl⟩
  go_enter Tryz.func8, Tryz.ntmps8
  go_wp2
  rw [hW] at HK HB HU HC
  clear hW
  go_loopw [5] (fun i wr => ∃ k : Nat, k ≤ n ∧ i = .int .i64 k ∧ (∀ y ∈ l.take k, chitP C y = false) ∧ Below W.heap.size W wr) (fun i _ => n - (intOf i).toNat)
  case atStart => exact ⟨0, Nat.zero_le _, rfl, by simp, Below.refl _ _⟩
  case round =>
    obtain ⟨k, hk, rfl, hno, hb⟩ := hrel
    have HNo := hide hno
    have HA := hide (HU.out.below crMono hb)
    have HC1 := hide (HC.out.below hb)
    have HB0 := hide hb
    have HB1 := hide (HB.out.trans (hb.mono HB.out.size))
    have hk1 := HK.out.below hb HK.out.lt
    have x0 := hk1.cell 0
    have x1 := hk1.cell 1
    have hsz := hb.size
    clear hno hb hk1
    by_cases hlt : k < n
    · obtain ⟨g, o, b, B2, m2, d2, r, rfl, hg, hy, hok, c0, c1⟩ := CRat HA.out hlt
      have HY := hide hy
      have HH := hide (refCHits_any b B2 m2 d2 r B m d C wr hok HC1.out)
      obtain ⟨q, hq⟩ : ∃ q, allIn r C = q := ⟨_, rfl⟩
      rw [hq] at HH
      have HQ : Hid (chitP C ⟨b, r⟩ = q) := hide hq
      clear hq hy hok
      go_wp2_with fail
      refine HH.out.mono ?_
      rintro e w1 ⟨rfl, hb1⟩
      have HB2 := hide (HB0.out.trans (hb1.mono hsz))
      have HB3 := hide (HB1.out.trans (hb1.mono HB1.out.size))
      clear hb1
      cases q
      · have hn2 := hide (show ∀ y ∈ l.take (k + 1), chitP C y = false by
          intro y hy
          rw [List.take_add_one, HY.out, List.mem_append] at hy
          rcases hy with hy | hy
          · exact HNo.out y hy
          · simp at hy; subst hy; exact HQ.out)
        go_wp2
        go_roundw
        case rel => exact ⟨k + 1, by omega, by go_num, hn2.out, HB2.out⟩
        case measure => simp [intOf]; omega
      · have hin := hide (idxP_at (chitP C) l k _ HNo.out HY.out HQ.out)
        go_wp2
        go_ret
        exact ⟨ret_i64 hin.out.symm, HB3.out⟩
    · obtain rfl : k = n := by omega
      have hf := hide (idxP_none (chitP C) l (fun y hy => HNo.out y (by rw [List.take_of_length_le (by rw [HU.out.1]; exact Nat.le_refl _)]; exact hy)))
      go_wp2
      go_ret
      exact ⟨ret_i64 hf.out.symm, HB1.out⟩
theorem refCPermits_any (s : ByteArray) (A : Option Addr) (k c : Nat) (l : List CR) (B : Option Addr) (m d : Nat) (C : List Nat) (w : World) (h : LstAt 2 crR w A k c l) (hC : U32s w B m d C) :
    Calls Tryz.prog 16 #[.agg #[.string s, .slice A k c], .slice B m d] w (GoodP (crPerm (chitP C) l) w) := by
  have hal : Below w.heap.size w (w.alloc (.cells #[.string s, .slice A k c] 24)) := (Below.refl w.heap.size w).alloc (Nat.le_refl _) _
  have HI := hide (refCFirst_any s A k c l B m d C _ (h.below crMono hal) (hC.below hal))
  have HB := hide hal
  have HK := hide (Blk.new w 24 #[.string s, .slice A k c])
  have hmx := h.2.2.1
  have hnc := h.2.1
  unfold maxLen at hmx
  have HU := hide (h.below crMono hal)
  rcases idxP_find (chitP C) l with ⟨hi, hf, _⟩ | ⟨j, r, hi, hj, hr, hf, _⟩
  · have HR : Hid (crPerm (chitP C) l = false) := hide (by unfold crPerm; rw [hf])
    rw [hi] at HI
    clear h hC hal hi hf
    go_enter Tryz.func16, Tryz.ntmps16
    go_wp2_with fail
    refine HI.out.mono ?_
    rintro e w1 ⟨rfl, hb⟩
    have HB1 := hide (below2 HB.out hb)
    clear hb
    go_wp2
    go_ret
    exact ⟨ret_bool HR.out.symm, HB1.out⟩
  · have HR : Hid (crPerm (chitP C) l = r.b) := hide (by unfold crPerm; rw [hf])
    rw [hi] at HI
    have hjk : j < k := by rw [← h.1]; exact hj
    have HX := hide hr
    clear h hC hal hi hf hr hj
    go_enter Tryz.func16, Tryz.ntmps16
    go_wp2_with fail
    refine HI.out.mono ?_
    rintro e w1 ⟨rfl, hb⟩
    have hk1 := HK.out.below hb (by simp)
    have x1 := hk1.cell 1
    obtain ⟨g, o, b, B2, m2, d2, r2, rfl, hg, hy, hok, c0, c1⟩ := CRat (HU.out.below crMono hb) hjk
    have HY : Hid (r.b = b) := hide (by rw [HX.out] at hy; injection hy with hy; rw [hy])
    have HB1 := hide (below2 HB.out hb)
    clear hb hk1 hy hok
    go_wp2
    go_ret
    exact ⟨ret_bool (HR.out.trans HY.out).symm, HB1.out⟩
end Go.Proofs.YtpgffbomlmmncaaGreatDoor
set_option linter.unusedSimpArgs false
set_option linter.unusedVariables false
namespace Go.Proofs.YtpgffbomlmmncaaGreatDoor
open Go.RowKit Go.WideShapes Go.ChangeShapes
attribute [local go_sem] Oper.semAt_some
theorem reads_blkN {w : World} {g B n sz : Nat} {t : TypeId} {cs : Array Value} {xs : List Value} (h : Blk w g t cs) (hB : g < B) (hx : cs.toList = xs) (hn : xs.length = n * sz) : Reads w B sz (some ⟨g, 0, none⟩) n xs :=
  ⟨hn, fun _ => ⟨_, rfl, hB, fun j u hu => by
    have e : (⟨g, 0, none⟩ : Addr).add j = ⟨g, j, none⟩ := by unfold Addr.add; split <;> simp_all
    rw [e, h.cell j, ← hu, ← hx]; simp⟩⟩
end Go.Proofs.YtpgffbomlmmncaaGreatDoor
