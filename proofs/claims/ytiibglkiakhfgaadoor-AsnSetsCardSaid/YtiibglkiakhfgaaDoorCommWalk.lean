/-
  THE WALKS OF A COMMUNITY's FUNCTIONS.
-/
import Derived.Test.YtiibglkiakhfgaaDoorRows
import Derived.Test.YtiibglkiakhfgaaDoorKit
import Derived.Test.YtiibglkiakhfgaaDoorCard
import Derived.Test.YtiibglkiakhfgaaDoorShItoa
import Derived.Test.YtiibglkiakhfgaaDoorCommPure
import Derived.Test.YtiibglkiakhfgaaDoorU32
set_option linter.unusedSimpArgs false
set_option linter.unusedVariables false
namespace Go.Proofs.YtiibglkiakhfgaaDoor
open Go.RowKit


theorem or_add (a n : Nat) (h : n < 65536) : a * 65536 ||| n = a * 65536 + n := by
  have := Nat.shiftLeft_add_eq_or_of_lt (b := n) (i := 16) h a
  rw [Nat.shiftLeft_eq] at this
  exact this.symm
theorem wrap_u16 (x : Int) (h : 0 ≤ x) : IntKind.u16.wrap x = x % 65536 := by
  simp [IntKind.wrap, IntKind.bits, IntKind.signed]


theorem itoa_any (n : Nat) (h : n ≤ 9223372036854775807) (w : World) (ht : Tab w) :
    Calls Tryd.prog 106 #[.int .i64 n] w fun e w' => e = .returned (.string (str (Lib.decDigits n))) ∧ Below w.heap.size w w' := by
  refine (Tryd.strconv_Itoa n (by omega) (by omega) w ht).mono ?_
  rintro e w' ⟨rfl, k, os, rfl⟩
  refine ⟨?_, Lib.below_grow _ _ (Nat.le_refl _) _ _⟩
  rw [Lib.itoa_nonneg]; rfl

set_option maxHeartbeats 400000 in
theorem name_c (c : Nat) (w : World) : Calls Tryd.prog 86 #[.int .u32 c] w fun e w' => e = .returned (.string (str (commName c))) ∧ w = w' := by
  by_cases h1 : c = 4294967041
  · subst h1
    go_enter Tryd.func86, Tryd.ntmps86
    go_wp2
    go_ret
    exact ⟨rfl, rfl⟩
  have e1 : ((c : Int) == 4294967041) = false := by simp; omega
  by_cases h2 : c = 4294967042
  · subst h2
    go_enter Tryd.func86, Tryd.ntmps86
    go_wp2
    go_ret
    exact ⟨rfl, rfl⟩
  have e2 : ((c : Int) == 4294967042) = false := by simp; omega
  by_cases h3 : c = 4294967043
  · subst h3
    go_enter Tryd.func86, Tryd.ntmps86
    go_wp2
    go_ret
    exact ⟨rfl, rfl⟩
  have e3 : ((c : Int) == 4294967043) = false := by simp; omega
  have hf := hide ((commName_nil c).2 ⟨h1, h2, h3⟩)
  clear h1 h2 h3
  go_enter Tryd.func86, Tryd.ntmps86
  go_wp2
  go_ret
  rw [hf.out]
  exact ⟨rfl, rfl⟩

set_option maxHeartbeats 400000 in
theorem halves_any (c : Nat) (h : c < 4294967296) (w : World) : Calls Tryd.prog 85 #[.int .u32 c] w fun e w' => e = .returned (.tuple #[.int .u16 ((c / 65536 : Nat) : Int), .int .u16 ((c % 65536 : Nat) : Int)]) ∧ w = w' := by
  go_enter Tryd.func85, Tryd.ntmps85
  go_wp2
  go_ret2
  refine ⟨?_, rfl⟩
  show Ending.returned (.tuple #[.int .u16 ((c : Int) / 65536), .int .u16 (IntKind.u16.wrap (c : Int))]) = _
  rw [wrap_u16 _ (by omega), show ((c / 65536 : Nat) : Int) = (c : Int) / 65536 by omega, show ((c % 65536 : Nat) : Int) = (c : Int) % 65536 by omega]


set_option maxHeartbeats 400000 in
theorem text_any (c : Nat) (h : c < 4294967296) (w : World) (ht : Tab w) : Calls Tryd.prog 84 #[.int .u32 c] w fun e w' => e = .returned (.string (str (commT c))) ∧ Below w.heap.size w w' := by
  by_cases hn : commName c = []
  · have hT := hide (show commT c = Lib.decDigits (c / 65536) ++ 58 :: Lib.decDigits (c % 65536) by unfold commT; rw [if_pos hn])
    have HN := hide hn
    clear hn
    go_enter Tryd.func84, Tryd.ntmps84
    go_wp2_with fail
    refine (name_c c _).mono ?_
    rintro e w1 ⟨rfl, rfl⟩
    rw [HN.out, show str [] = (⟨#[]⟩ : ByteArray) from rfl]
    go_wp2_with fail
    refine (halves_any c h _).mono ?_
    rintro e w1 ⟨rfl, rfl⟩
    go_wp2_with fail
    refine (itoa_any (c / 65536) (by omega) _ ht).mono ?_
    rintro e w1 ⟨rfl, hb1⟩
    have s1 : (str (Lib.decDigits (c / 65536))).size ≤ 10 := dec_len _ 9 (by omega)
    have s2 : (str (Lib.decDigits (c % 65536))).size ≤ 10 := dec_len _ 9 (by omega)
    go_wp2_with fail
    refine (itoa_any (c % 65536) (by omega) _ (ht.below hb1)).mono ?_
    rintro e w2 ⟨rfl, hb2⟩
    go_wp2
    go_ret
    refine ⟨?_, hb1.trans (hb2.mono hb1.size)⟩
    rw [hT.out]
    show Ending.returned (.string (str (Lib.decDigits (c / 65536)) ++ ⟨#[58]⟩ ++ str (Lib.decDigits (c % 65536)))) = _
    rw [show (⟨#[58]⟩ : ByteArray) = str [58] from rfl, cat_str, cat_str]
    simp
  · have hT := hide (show commT c = commName c by unfold commT; rw [if_neg hn])
    have hne := hide (str_ne hn)
    clear hn
    go_enter Tryd.func84, Tryd.ntmps84
    go_wp2_with fail
    refine (name_c c _).mono ?_
    rintro e w1 ⟨rfl, rfl⟩
    obtain ⟨s, hs⟩ : ∃ s, s = str (commName c) := ⟨_, rfl⟩
    have hse : s.toList.isEmpty = false := by rw [hs]; exact hne.out
    have hse2 : (!s.toList.isEmpty) = true := by rw [hse]; rfl
    rw [← hs]
    have HS := hide hs
    clear hs
    go_wp2
    go_ret
    refine ⟨?_, Below.refl _ _⟩
    rw [hT.out, ← HS.out]; rfl

set_option maxHeartbeats 400000 in
theorem Text_any (c : Nat) (h : c < 4294967296) (w : World) (ht : Tab w) : Calls Tryd.prog 18 #[.int .u32 c] w fun e w' => e = .returned (.string (str (commT c))) ∧ Below w.heap.size w w' := by
  go_enter Tryd.func18, Tryd.ntmps18
  go_wp2_with fail
  refine (text_any c h _ ht).mono ?_
  rintro e w1 ⟨rfl, hb1⟩
  go_wp2
  go_ret
  exact ⟨rfl, hb1⟩

set_option maxHeartbeats 400000 in
theorem known_any (c : Nat) (w : World) : Calls Tryd.prog 24 #[.int .u32 c] w fun e w' => e = .returned (.bool (decide (c = 4294967041 ∨ c = 4294967042 ∨ c = 4294967043))) ∧ w = w' := by
  have hd := hide (show (!(str (commName c)).toList.isEmpty) = decide (c = 4294967041 ∨ c = 4294967042 ∨ c = 4294967043) by
    by_cases hn : commName c = []
    · rw [hn]
      have := (commName_nil c).1 hn
      rw [show str [] = ⟨[].toArray⟩ from rfl, ByteArray.toList_mk]
      simp; omega
    · rw [str_ne hn]
      have := (not_congr (commName_nil c)).1 hn
      simp; omega)
  go_enter Tryd.func24, Tryd.ntmps24
  go_wp2_with fail
  refine (name_c c _).mono ?_
  rintro e w1 ⟨rfl, rfl⟩
  go_wp2
  go_ret
  exact ⟨ret_bool hd.out, rfl⟩

set_option maxHeartbeats 400000 in
theorem make_any (a n : Nat) (ha : a < 65536) (hn : n < 65536) (w : World) : Calls Tryd.prog 20 #[.int .u16 a, .int .u16 n] w fun e w' => e = .returned (.int .u32 ((a * 65536 + n : Nat) : Int)) ∧ w = w' := by
  go_enter Tryd.func20, Tryd.ntmps20
  go_wp2
  go_ret
  refine ⟨?_, rfl⟩
  show Ending.returned (.int .u32 (bits .or .u32 ((a : Int) * 65536) (n : Int))) = _
  rw [show ((a : Int) * 65536) = ((a * 65536 : Nat) : Int) by omega, u32_or_nat _ _ (by omega) (by omega), or_add a n hn]

theorem livc : commT 4259840100 = [54, 53, 48, 48, 48, 58, 49, 48, 48] := by decide +kernel

set_option maxHeartbeats 400000 in
theorem commLives_any (w : World) (ht : Tab w) : Calls Tryd.prog 19 #[] w fun e w' => e = .returned (.bool true) ∧ Below w.heap.size w w' := by
  go_enter Tryd.func19, Tryd.ntmps19
  go_wp2_with fail
  refine (make_any 65000 100 (by decide) (by decide) _).mono ?_
  rintro e w1 ⟨rfl, rfl⟩
  go_wp2_with fail
  refine (Text_any 4259840100 (by decide) _ ht).mono ?_
  rintro e w1 ⟨rfl, hb1⟩
  rw [livc, show str [54, 53, 48, 48, 48, 58, 49, 48, 48] = (⟨#[54, 53, 48, 48, 48, 58, 49, 48, 48]⟩ : ByteArray) from rfl]
  go_wp2_with fail
  refine (known_any 4294967041 _).mono ?_
  rintro e w2 ⟨rfl, rfl⟩
  go_wp2
  go_ret
  exact ⟨rfl, hb1⟩


set_option maxHeartbeats 400000 in
theorem apart_any (a b : Nat) (ha : a < 4294967296) (hb : b < 4294967296) (w : World) (ht : Tab w) : Calls Tryd.prog 3 #[.int .u32 a, .int .u32 b] w fun e w' => e = .returned (.bool true) ∧ Below w.heap.size w w' := by
  have hq := hide (show (((str (commT a)).toList == (str (commT b)).toList) == ((a : Int) == (b : Int))) = true by
    rw [str_beq]
    by_cases h : a = b
    · subst h; simp
    · have h1 : (commT a == commT b) = false := by simp; exact fun e => h (commT_inj e)
      have h2 : ((a : Int) == (b : Int)) = false := by simp; omega
      rw [h1, h2]; rfl)
  go_enter Tryd.func3, Tryd.ntmps3
  go_wp2_with fail
  refine (Text_any a ha _ ht).mono ?_
  rintro e w1 ⟨rfl, hb1⟩
  go_wp2_with fail
  refine (Text_any b hb _ (ht.below hb1)).mono ?_
  rintro e w2 ⟨rfl, hb2⟩
  have hq1 := hq.out
  go_wp2_with fail
  refine (commLives_any _ (ht.below (hb1.trans (hb2.mono hb1.size)))).mono ?_
  rintro e w3 ⟨rfl, hb3⟩
  go_wp2
  go_ret
  exact ⟨rfl, (hb1.trans (hb2.mono hb1.size)).trans (hb3.mono (Nat.le_trans hb1.size hb2.size))⟩

set_option maxHeartbeats 400000 in
theorem parts_any (c : Nat) (h : c < 4294967296) (w : World) : Calls Tryd.prog 21 #[.int .u32 c] w fun e w' => e = .returned (.tuple #[.int .u16 ((c / 65536 : Nat) : Int), .int .u16 ((c % 65536 : Nat) : Int)]) ∧ w = w' := by
  go_enter Tryd.func21, Tryd.ntmps21
  go_wp2_with fail
  refine (halves_any c h _).mono ?_
  rintro e w1 ⟨rfl, rfl⟩
  go_wp2
  go_ret2
  exact ⟨rfl, rfl⟩

def keepsE (l : List Nat) : Bool := l.any fun c => c == 4294967041 || c == 4294967043
def keepsA (l : List Nat) : Bool := l.any fun c => c == 4294967042

set_option maxHeartbeats 400000 in
theorem keeps_any (A : Option Addr) (n c : Nat) (l : List Nat) (w : World) (h : U32s w A n c l) :
    Calls Tryd.prog 23 #[.slice A n c] w fun e w' => e = .returned (.tuple #[.bool (keepsE l), .bool (keepsA l)]) ∧ w = w' := by
  have hm := h.2.2.1
  have hnc := h.2.1
  unfold maxLen at hm
  have HU := hide h
  clear h
  go_enter Tryd.func23, Tryd.ntmps23
  go_wp2
  go_loop [2, 3, 8] (fun a b i => ∃ k : Nat, k ≤ n ∧ i = .int .i64 k ∧ a = .bool (keepsE (l.take k)) ∧ b = .bool (keepsA (l.take k))) (fun _ _ i => n - (intOf i).toNat)
  case atStart => exact ⟨0, Nat.zero_le _, rfl, rfl, rfl⟩
  case round =>
    obtain ⟨k, hk, rfl, rfl, rfl⟩ := hrel
    by_cases hlt : k < n
    · obtain ⟨g, o, y, rfl, hg, hy, hy2, hc⟩ := HU.out.at_ hlt
      have hE := hide (show keepsE (l.take (k + 1)) = (keepsE (l.take k) || (y == 4294967041 || y == 4294967043)) by
        rw [List.take_add_one, hy]; simp [keepsE])
      have hA := hide (show keepsA (l.take (k + 1)) = (keepsA (l.take k) || y == 4294967042) by
        rw [List.take_add_one, hy]; simp [keepsA])
      clear hy
      cases he : keepsE (l.take k) <;> cases ha : keepsA (l.take k)
      all_goals
        have HE := hide he
        have HA := hide ha
        clear he ha
        rcases (show y = 4294967041 ∨ y = 4294967042 ∨ y = 4294967043 ∨ (y ≠ 4294967041 ∧ y ≠ 4294967042 ∧ y ≠ 4294967043) by omega) with h1 | h1 | h1 | ⟨h1, h2, h3⟩
        · subst h1
          go_wp2
          go_round
          case rel => exact ⟨k + 1, by omega, by go_num, by rw [hE.out, HE.out]; rfl, by rw [hA.out, HA.out]; rfl⟩
          case measure => simp [intOf]; omega
        · subst h1
          go_wp2
          go_round
          case rel => exact ⟨k + 1, by omega, by go_num, by rw [hE.out, HE.out]; rfl, by rw [hA.out, HA.out]; rfl⟩
          case measure => simp [intOf]; omega
        · subst h1
          go_wp2
          go_round
          case rel => exact ⟨k + 1, by omega, by go_num, by rw [hE.out, HE.out]; rfl, by rw [hA.out, HA.out]; rfl⟩
          case measure => simp [intOf]; omega
        · have e1 : ((y : Int) == 4294967041) = false := by simp; omega
          have e2 : ((y : Int) == 4294967042) = false := by simp; omega
          have e3 : ((y : Int) == 4294967043) = false := by simp; omega
          have f1 := hide (show ((y == 4294967041 || y == 4294967043) : Bool) = false by simp; omega)
          have f2 := hide (show (y == 4294967042 : Bool) = false by simp; omega)
          clear h1 h2 h3
          go_wp2
          go_round
          case rel => exact ⟨k + 1, by omega, by go_num, by rw [hE.out, HE.out, f1.out]; rfl, by rw [hA.out, HA.out, f2.out]; rfl⟩
          case measure => simp [intOf]; omega
    · obtain rfl : k = n := by omega
      have ht := hide (show l.take k = l from List.take_of_length_le (by rw [HU.out.1]; exact Nat.le_refl _))
      go_wp2
      go_ret2
      refine ⟨?_, rfl⟩
      show Ending.returned (.tuple #[.bool (keepsE (l.take k)), .bool (keepsA (l.take k))]) = _
      rw [ht.out]
end Go.Proofs.YtiibglkiakhfgaaDoor
