/-
  THE PLAIN LAW OF CUTTING A LINE: no program in sight.
-/
namespace Go.Proofs.YtiibglkiakhfgaaDoor

/-- May a byte stand in a word? -/
def insideB (c : Int) : Bool := decide (32 < c) && decide (c < 127) && !(c == 35)
def blankB (c : Int) : Bool := (c == 32) || (c == 9)

def byteAt (s : ByteArray) (i : Nat) : Int := if h : i < s.size then (s[i].toNat : Int) else 0

theorem byteAt_lt {s : ByteArray} {k : Nat} (h : k < s.size) : byteAt s k = (s[k].toNat : Int) := by simp [byteAt, h]

def skipTo (s : ByteArray) (i : Nat) : Nat := if i < s.size ∧ blankB (byteAt s i) = true then skipTo s (i + 1) else i
termination_by s.size - i
def wordEnd (s : ByteArray) (i : Nat) : Nat := if i < s.size ∧ insideB (byteAt s i) = true then wordEnd s (i + 1) else i
termination_by s.size - i

theorem skipTo_ge (s : ByteArray) (i : Nat) : i ≤ skipTo s i := by
  rw [skipTo]; split
  · have := skipTo_ge s (i + 1); omega
  · exact Nat.le_refl _
termination_by s.size - i
theorem wordEnd_ge (s : ByteArray) (i : Nat) : i ≤ wordEnd s i := by
  rw [wordEnd]; split
  · have := wordEnd_ge s (i + 1); omega
  · exact Nat.le_refl _
termination_by s.size - i
theorem skipTo_le (s : ByteArray) (i : Nat) (h : i ≤ s.size) : skipTo s i ≤ s.size := by
  rw [skipTo]; split
  · exact skipTo_le s (i + 1) (by omega)
  · exact h
termination_by s.size - i
theorem wordEnd_le (s : ByteArray) (i : Nat) (h : i ≤ s.size) : wordEnd s i ≤ s.size := by
  rw [wordEnd]; split
  · exact wordEnd_le s (i + 1) (by omega)
  · exact h
termination_by s.size - i

/-- The words from place i on, n of them found before; and the fault (place, code). -/
def cutW (s : ByteArray) (i n : Nat) : List (Nat × Nat) × (Nat × Nat) :=
  if skipTo s i < s.size ∧ byteAt s (skipTo s i) ≠ 35 then
    if h : skipTo s i < wordEnd s (skipTo s i) then
      if n = 64 then ([], (skipTo s i + 1, 6))
      else ((skipTo s i, wordEnd s (skipTo s i)) :: (cutW s (wordEnd s (skipTo s i)) (n + 1)).1, (cutW s (wordEnd s (skipTo s i)) (n + 1)).2)
    else ([], (skipTo s i + 1, 2))
  else ([], (0, 0))
termination_by s.size - i
decreasing_by all_goals have := skipTo_ge s i; have := wordEnd_le s (skipTo s i) (by omega); omega

theorem skipTo_blank (s : ByteArray) (i : Nat) (h : i < s.size) (hb : blankB (byteAt s i) = true) : skipTo s i = skipTo s (i + 1) := by
  rw [skipTo, if_pos ⟨h, hb⟩]
theorem skipTo_not (s : ByteArray) (i : Nat) (hb : i < s.size → blankB (byteAt s i) = false) : skipTo s i = i := by
  rw [skipTo, if_neg]; rintro ⟨h, h2⟩; rw [hb h] at h2; cases h2
theorem wordEnd_in (s : ByteArray) (i : Nat) (h : i < s.size) (hb : insideB (byteAt s i) = true) : wordEnd s i = wordEnd s (i + 1) := by
  rw [wordEnd, if_pos ⟨h, hb⟩]
theorem wordEnd_not (s : ByteArray) (i : Nat) (hb : i < s.size → insideB (byteAt s i) = false) : wordEnd s i = i := by
  rw [wordEnd, if_neg]; rintro ⟨h, h2⟩; rw [hb h] at h2; cases h2

theorem cutW_blank (s : ByteArray) (i n : Nat) (h : i < s.size) (hb : blankB (byteAt s i) = true) : cutW s i n = cutW s (i + 1) n := by
  rw [cutW.eq_1 s i n, skipTo_blank s i h hb, ← cutW.eq_1 s (i + 1) n]
theorem cutW_end (s : ByteArray) (i n : Nat) (h : ¬ (skipTo s i < s.size ∧ byteAt s (skipTo s i) ≠ 35)) : cutW s i n = ([], (0, 0)) := by
  rw [cutW, if_neg h]
theorem cutW_bad (s : ByteArray) (i n : Nat) (h : skipTo s i < s.size ∧ byteAt s (skipTo s i) ≠ 35) (h2 : wordEnd s (skipTo s i) = skipTo s i) : cutW s i n = ([], (skipTo s i + 1, 2)) := by
  rw [cutW, if_pos h, dif_neg (by omega)]
theorem cutW_long (s : ByteArray) (i : Nat) (h : skipTo s i < s.size ∧ byteAt s (skipTo s i) ≠ 35) (h2 : skipTo s i < wordEnd s (skipTo s i)) : cutW s i 64 = ([], (skipTo s i + 1, 6)) := by
  rw [cutW, if_pos h, dif_pos h2, if_pos rfl]
theorem cutW_word (s : ByteArray) (i n : Nat) (h : skipTo s i < s.size ∧ byteAt s (skipTo s i) ≠ 35) (h2 : skipTo s i < wordEnd s (skipTo s i)) (h3 : n ≠ 64) :
    cutW s i n = ((skipTo s i, wordEnd s (skipTo s i)) :: (cutW s (wordEnd s (skipTo s i)) (n + 1)).1, (cutW s (wordEnd s (skipTo s i)) (n + 1)).2) := by
  rw [cutW, if_pos h, dif_pos h2, if_neg h3]

/-- What cutting a whole line comes to: on a fault there are no words. -/
def cutR (s : ByteArray) : List (Nat × Nat) := if (cutW s 0 0).2.2 = 0 then (cutW s 0 0).1 else []
def cutF (s : ByteArray) : Nat × Nat := (cutW s 0 0).2

theorem cutW_len (s : ByteArray) (i n : Nat) (hn : n ≤ 64) : (cutW s i n).1.length + n ≤ 64 := by
  rw [cutW]
  split
  · split
    · split
      · simp; omega
      · rename_i hc hw h64
        have := cutW_len s (wordEnd s (skipTo s i)) (n + 1) (by omega)
        simp only [List.length_cons]; omega
    · simp; omega
  · simp; omega
termination_by s.size - i
decreasing_by have := skipTo_ge s i; have := wordEnd_le s (skipTo s i) (by omega); omega

end Go.Proofs.YtiibglkiakhfgaaDoor
