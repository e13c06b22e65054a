/-
  THE WALKS OF LAYER 16's SMALL FUNCTIONS: what a byte is, names; two lists of words held one against the other.
-/
import Derived.Test.YtiibglkiakhfgaaDoorRows
import Derived.Test.YtiibglkiakhfgaaDoorKit
import Derived.Test.YtiibglkiakhfgaaDoorLexPure
import Derived.BigRegion
set_option linter.unusedSimpArgs false
set_option linter.unusedVariables false
namespace Go.Proofs.YtiibglkiakhfgaaDoor
open Go.RowKit

set_option maxHeartbeats 400000 in
theorem inside_any (c : Int) (w : World) :
    Calls Tryd.prog 138 #[.int .u8 c] w fun e w' => e = .returned (.bool (insideB c)) ∧ w = w' := by
  go_enter Tryd.func138, Tryd.ntmps138
  go_wp2
  all_goals
    go_ret
    refine ⟨ret_bool ?_, rfl⟩
    unfold insideB
    rw [Bool.eq_iff_iff]
    simp
    try omega

def letterB (c : Int) : Bool := decide (97 ≤ c) && decide (c ≤ 122) || decide (65 ≤ c) && decide (c ≤ 90)
def innerB (c : Int) : Bool := letterB c || decide (48 ≤ c) && decide (c ≤ 57) || c == 45 || c == 95

set_option maxHeartbeats 400000 in
theorem letter_any (c : Int) (w : World) :
    Calls Tryd.prog 107 #[.int .u8 c] w fun e w' => e = .returned (.bool (letterB c)) ∧ w = w' := by
  go_enter Tryd.func107, Tryd.ntmps107
  go_wp2
  all_goals
    go_ret
    refine ⟨ret_bool ?_, rfl⟩
    unfold letterB
    rw [Bool.eq_iff_iff]

    simp
    try omega
set_option maxHeartbeats 400000 in
theorem inner_any (c : Int) (w : World) :
    Calls Tryd.prog 108 #[.int .u8 c] w fun e w' => e = .returned (.bool (innerB c)) ∧ w = w' := by
  by_cases h45 : c = 45
  · subst h45
    go_enter Tryd.func108, Tryd.ntmps108
    go_wp2_with (go_at_call 107; refine (letter_any _ _).mono ?_; rintro e w' ⟨rfl, rfl⟩; rw [show letterB 45 = false from rfl])
    go_ret
    exact ⟨rfl, rfl⟩
  have e45 : (c == 45) = false := by simp [h45]
  cases hl : letterB c
  all_goals
    have hli : ∀ b, b = innerB c ↔ b = (letterB c || decide (48 ≤ c) && decide (c ≤ 57) || c == 45 || c == 95) := fun b => Iff.rfl
    rw [hl, e45] at hli
    have HL := hide hl
    have HI := hide hli
    clear hl hli h45
    go_enter Tryd.func108, Tryd.ntmps108
    go_wp2_with (go_at_call 107; refine (letter_any _ _).mono ?_; rintro e w' ⟨rfl, rfl⟩; rw [HL.out])
    all_goals
      go_ret
      refine ⟨ret_bool ((HI.out _).2 ?_), rfl⟩
      rw [Bool.eq_iff_iff]
      simp
      try omega

def nameB (s : ByteArray) : Bool := decide (1 ≤ s.size) && decide (s.size ≤ 20) && letterB (byteAt s 0) && (List.range s.size).all (fun i => innerB (byteAt s i))

set_option maxHeartbeats 400000 in
theorem name_any (s : ByteArray) (w : World) (hs : s.size ≤ maxLen) :
    Calls Tryd.prog 51 #[.string s] w fun e w' => e = .returned (.bool (nameB s)) ∧ w = w' := by
  unfold maxLen at hs
  by_cases h1 : 1 ≤ s.size
  · by_cases h2 : s.size ≤ 20
    · have hb0 := byteAt_lt (s := s) (k := 0) (by omega)
      cases hl : letterB (byteAt s 0)
      · have hf := hide (show nameB s = false by simp [nameB, hl])
        rw [hb0] at hl
        have HL := hide hl
        clear hl hb0
        go_enter Tryd.func51, Tryd.ntmps51
        go_wp2_with (go_at_call 107; refine (letter_any _ _).mono ?_; rintro e w' ⟨rfl, rfl⟩; rw [HL.out])
        go_ret
        exact ⟨ret_bool hf.out.symm, rfl⟩
      · have hf := hide (show nameB s = (List.range s.size).all (fun i => innerB (byteAt s i)) by simp [nameB, hl, h1, h2])
        rw [hb0] at hl
        have HL := hide hl
        clear hl hb0
        go_enter Tryd.func51, Tryd.ntmps51
        go_wp2_with (go_at_call 107; refine (letter_any _ _).mono ?_; rintro e w' ⟨rfl, rfl⟩; rw [HL.out])
        go_loop [3, 20] (fun _ i => ∃ k : Nat, k ≤ s.size ∧ i = .int .i64 k ∧ ((List.range k).all (fun i => innerB (byteAt s i)) = true)) (fun _ i => s.size - (intOf i).toNat)
        case atStart => exact ⟨0, Nat.zero_le _, rfl, rfl⟩
        case round =>
          obtain ⟨k, hk, rfl, hall⟩ := hrel
          have HA := hide hall
          clear hall
          by_cases hlt : k < s.size
          · have hbk := byteAt_lt hlt
            cases hi : innerB (byteAt s k)
            · have hf2 := hide (show (List.range s.size).all (fun i => innerB (byteAt s i)) = false by
                rw [List.all_eq_false]; exact ⟨k, by simpa using hlt, by simp [hi]⟩)
              rw [hbk] at hi
              have HI := hide hi
              clear hi hbk
              go_wp2_with (go_at_call 108; refine (inner_any _ _).mono ?_; rintro e w' ⟨rfl, rfl⟩; rw [HI.out])
              go_ret
              exact ⟨ret_bool (by rw [hf.out, hf2.out]), rfl⟩
            · have hf2 := hide (show (List.range (k + 1)).all (fun i => innerB (byteAt s i)) = true by
                rw [List.range_succ, List.all_append, HA.out]; simp [hi])
              rw [hbk] at hi
              have HI := hide hi
              clear hi hbk
              go_wp2_with (go_at_call 108; refine (inner_any _ _).mono ?_; rintro e w' ⟨rfl, rfl⟩; rw [HI.out])
              go_round
              case rel => exact ⟨k + 1, by omega, by go_num, hf2.out⟩
              case measure => simp [intOf]; omega
          · obtain rfl : k = s.size := by omega
            go_wp2
            go_ret
            exact ⟨ret_bool (by rw [hf.out, HA.out]), rfl⟩
    · have hf := hide (show nameB s = false by simp [nameB, h2])
      go_enter Tryd.func51, Tryd.ntmps51
      go_wp2
      go_ret
      exact ⟨ret_bool hf.out.symm, rfl⟩
  · have hf := hide (show nameB s = false by simp [nameB, h1])
    go_enter Tryd.func51, Tryd.ntmps51
    go_wp2
    go_ret
    exact ⟨ret_bool hf.out.symm, rfl⟩
/-- The slice's words lie in memory: text and place of each. -/
def WordsAt (w : World) (A : Option Addr) (n : Nat) (l : List (ByteArray × Int)) : Prop :=
  l.length = n ∧ (0 < n → ∃ g, A = some ⟨g, 0, none⟩ ∧ ∀ k p, l[k]? = some p → w.cell? ⟨g, k * 2, none⟩ = some (.string p.1) ∧ w.cell? ⟨g, k * 2 + 1, none⟩ = some (.int .i64 p.2))

set_option maxHeartbeats 400000 in
theorem same_true (A B : Option Addr) (n c d : Nat) (pl : Bool) (l m : List (ByteArray × Int)) (w : World) (hn : n ≤ maxLen) (ha : WordsAt w A n l) (hb : WordsAt w B n m)
    (h1 : ∀ (k : Nat) (p q : ByteArray × Int), l[k]? = some p → m[k]? = some q → p.1 = q.1 ∧ (pl = true → p.2 = q.2)) :
    Calls Tryd.prog 42 #[.slice A n c, .slice B n d, .bool pl] w fun e w' => e = .returned (.bool true) ∧ ∃ q, w' = w.drewN q := by
  unfold maxLen at hn
  have H1 := hide h1
  have HA := hide ha
  have HB := hide hb
  clear h1 ha hb
  go_enter Tryd.func42, Tryd.ntmps42
  go_wp2
  go_loopw [7] (fun i wr => ∃ k : Nat, k ≤ n ∧ i = .int .i64 k ∧ ∃ q, wr = w.drewN q) (fun i _ => n - (intOf i).toNat)
  case atStart => exact ⟨0, Nat.zero_le _, rfl, 0, rfl⟩
  case round =>
    obtain ⟨k, hk, rfl, q, rfl⟩ := hrel
    by_cases hlt : k < n
    · obtain ⟨g, hgA, hca⟩ := HA.out.2 (by omega)
      obtain ⟨g', hgB, hcb⟩ := HB.out.2 (by omega)
      subst hgA; subst hgB
      obtain ⟨p, hp⟩ : ∃ p, l[k]? = some p := ⟨_, List.getElem?_eq_getElem (by rw [HA.out.1]; omega)⟩
      obtain ⟨r, hr⟩ : ∃ r, m[k]? = some r := ⟨_, List.getElem?_eq_getElem (by rw [HB.out.1]; omega)⟩
      obtain ⟨ca0, ca1⟩ := hca k p hp
      obtain ⟨cb0, cb1⟩ := hcb k r hr
      obtain ⟨t1, a1⟩ := p
      obtain ⟨t2, a2⟩ := r
      obtain ⟨e1, e2⟩ := H1.out k _ _ hp hr
      simp only at e1 ca0 ca1 cb0 cb1 e2
      subst e1
      clear hca hcb hp hr
      cases pl
      · clear e2
        go_wp2
        go_quiet (fail)
        go_wp2
        go_roundw
        case rel => exact ⟨k + 1, by omega, by go_num, _, rfl⟩
        case measure => simp [intOf]; omega
      · have e3 := e2 rfl
        clear e2
        subst e3
        go_wp2
        go_quiet (fail)
        go_wp2
        go_roundw
        case rel => exact ⟨k + 1, by omega, by go_num, _, rfl⟩
        case measure => simp [intOf]; omega
    · obtain rfl : k = n := by omega
      go_wp2
      go_ret
      exact ⟨rfl, _, rfl⟩
end Go.Proofs.YtiibglkiakhfgaaDoor
