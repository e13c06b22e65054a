/-
  A COMMUNITY's TEXT: the plain law: unlike communities have unlike texts.
-/
import Derived.Test.YtiibglkiakhfgaaDoorDigits
namespace Go.Proofs.YtiibglkiakhfgaaDoor
open Go.Lib

def commName (c : Nat) : List UInt8 :=
  if c = 4294967041 then [110, 111, 45, 101, 120, 112, 111, 114, 116]
  else if c = 4294967042 then [110, 111, 45, 97, 100, 118, 101, 114, 116, 105, 115, 101]
  else if c = 4294967043 then [110, 111, 45, 101, 120, 112, 111, 114, 116, 45, 115, 117, 98, 99, 111, 110, 102, 101, 100]
  else []
def commT (c : Nat) : List UInt8 := if commName c = [] then decDigits (c / 65536) ++ 58 :: decDigits (c % 65536) else commName c

theorem commName_nil (c : Nat) : commName c = [] ↔ c ≠ 4294967041 ∧ c ≠ 4294967042 ∧ c ≠ 4294967043 := by
  unfold commName
  split
  · simp_all
  · split
    · simp_all
    · split <;> simp_all
theorem commName_head (c : Nat) (h : commName c ≠ []) : (commName c).head? = some 110 := by
  unfold commName at h ⊢
  split
  · rfl
  · split
    · rfl
    · split
      · rfl
      · simp_all
theorem commName_inj {a b : Nat} (ha : commName a ≠ []) (h : commName a = commName b) : a = b := by
  have ha' := (not_congr (commName_nil a)).1 ha
  have hb' := (not_congr (commName_nil b)).1 (h ▸ ha)
  rcases (show a = 4294967041 ∨ a = 4294967042 ∨ a = 4294967043 by omega) with rfl | rfl | rfl <;>
    rcases (show b = 4294967041 ∨ b = 4294967042 ∨ b = 4294967043 by omega) with rfl | rfl | rfl <;> first | rfl | (revert h; decide +kernel)
theorem dec_head (u : Nat) (l : List UInt8) : ∃ c, (decDigits u ++ l).head? = some c ∧ c.toNat ≤ 57 := by
  cases h : decDigits u with
  | nil => exact absurd h (dec_ne u)
  | cons c t => exact ⟨c, by simp, (dec_dig u c (by rw [h]; simp)).2⟩

theorem commT_inj {a b : Nat} (h : commT a = commT b) : a = b := by
  unfold commT at h
  by_cases ha : commName a = [] <;> by_cases hb : commName b = []
  · rw [if_pos ha, if_pos hb] at h
    obtain ⟨e1, e2⟩ := split_eq (dec_no (by decide) _) (dec_no (by decide) _) h
    have := dec_inj e1
    have := dec_inj e2
    omega
  · rw [if_pos ha, if_neg hb] at h
    obtain ⟨c, hc, hlt⟩ := dec_head (a / 65536) (58 :: decDigits (a % 65536))
    rw [h, commName_head b hb] at hc
    cases hc
    exact absurd hlt (by decide)
  · rw [if_neg ha, if_pos hb] at h
    obtain ⟨c, hc, hlt⟩ := dec_head (b / 65536) (58 :: decDigits (b % 65536))
    rw [← h, commName_head a ha] at hc
    cases hc
    exact absurd hlt (by decide)
  · rw [if_neg ha, if_neg hb] at h
    exact commName_inj ha h
theorem commT_len (c : Nat) (h : c < 4294967296) : (commT c).length ≤ 40 := by
  unfold commT
  by_cases hn : commName c = []
  · rw [if_pos hn]
    have h1 := dec_len (c / 65536) 9 (by omega)
    have h2 := dec_len (c % 65536) 9 (by omega)
    simp; omega
  · rw [if_neg hn]; unfold commName; split
    · simp
    · split
      · simp
      · split <;> simp
end Go.Proofs.YtiibglkiakhfgaaDoor
