/-
  DECIMAL NUMERALS: plain lemmas, no program in sight.
-/
import Derived.Lib.ItoaMem
namespace Go.Proofs.YtiibglkiakhfgaaDoor
open Go.Lib

def isDig (c : UInt8) : Bool := decide (48 ≤ c.toNat) && decide (c.toNat ≤ 57)
def numOf (l : List UInt8) : Nat := l.foldl (fun a c => 10 * a + (c.toNat - 48)) 0

theorem ofNat_dig {d : Nat} (h : d < 10) : (UInt8.ofNat (48 + d)).toNat = 48 + d := by
  simp only [UInt8.toNat_ofNat']; omega

theorem numOf_snoc (l : List UInt8) (c : UInt8) : numOf (l ++ [c]) = 10 * numOf l + (c.toNat - 48) := by
  simp [numOf, List.foldl_append]

theorem numOf_dec (u : Nat) : numOf (decDigits u) = u := by
  induction u using Nat.strongRecOn with
  | _ u ih =>
    by_cases h : u < 10
    · rw [decDigits, dif_pos h]
      have := ofNat_dig h
      simp only [numOf, List.foldl_cons, List.foldl_nil, this]; omega
    · rw [decDigits, dif_neg h, numOf_snoc, ih (u / 10) (by omega), ofNat_dig (by omega)]; omega

theorem dec_inj {a b : Nat} (h : decDigits a = decDigits b) : a = b := by
  rw [← numOf_dec a, h, numOf_dec]

theorem dec_dig (u : Nat) : ∀ c ∈ decDigits u, 48 ≤ c.toNat ∧ c.toNat ≤ 57 := by
  induction u using Nat.strongRecOn with
  | _ u ih =>
    intro c hc
    by_cases h : u < 10
    · rw [decDigits, dif_pos h] at hc
      simp only [List.mem_singleton] at hc
      subst hc
      rw [ofNat_dig h]; omega
    · rw [decDigits, dif_neg h] at hc
      rcases List.mem_append.1 hc with hc | hc
      · exact ih (u / 10) (by omega) c hc
      · simp only [List.mem_singleton] at hc
        subst hc
        rw [ofNat_dig (by omega)]; omega

theorem dec_ne (u : Nat) : decDigits u ≠ [] := by
  rw [decDigits]; split <;> simp

theorem dec_len (u : Nat) (k : Nat) (h : u < 10 ^ (k + 1)) : (decDigits u).length ≤ k + 1 := by
  induction k generalizing u with
  | zero => rw [decDigits, dif_pos (by simpa using h)]; simp
  | succ k ih =>
    by_cases h9 : u < 10
    · rw [decDigits, dif_pos h9]; simp
    · rw [decDigits, dif_neg h9, List.length_append]
      have := ih (u / 10) (by rw [Nat.pow_succ] at h; omega)
      simp; omega

theorem itoa_nat (u : Nat) : itoa (u : Int) = decDigits u := itoa_nonneg u

/-- Two texts over a sign that neither beginning bears: they are one only part by part. -/
theorem split_eq {p : UInt8} {a b c d : List UInt8} (ha : ∀ x ∈ a, x ≠ p) (hc : ∀ x ∈ c, x ≠ p) (h : a ++ p :: b = c ++ p :: d) : a = c ∧ b = d := by
  induction a generalizing c with
  | nil =>
    cases c with
    | nil => simp at h; exact ⟨rfl, h⟩
    | cons y c => simp at h; exact absurd h.1.symm (hc y (by simp))
  | cons x a ih =>
    cases c with
    | nil => simp at h; exact absurd h.1 (ha x (by simp))
    | cons y c =>
      simp at h
      obtain ⟨e1, e2⟩ := ih (fun z hz => ha z (by simp [hz])) (fun z hz => hc z (by simp [hz])) h.2
      exact ⟨by rw [h.1, e1], e2⟩

theorem dec_no {p : UInt8} (hp : p.toNat < 48 ∨ 57 < p.toNat) (u : Nat) : ∀ x ∈ decDigits u, x ≠ p := by
  intro x hx e
  have := dec_dig u x hx
  subst e; omega
end Go.Proofs.YtiibglkiakhfgaaDoor
