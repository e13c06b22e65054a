/-
  PREFIXES: the plain law: an address cut to its first bits; masks; which cover which.
-/
import Derived.Test.YtiibglkiakhfgaaDoorKit
import Derived.Laws.BitsLemmas
import Derived.Laws.BitsAllLaws
namespace Go.Proofs.YtiibglkiakhfgaaDoor

/-- The first n bits of an address. -/
def cutN (a n : Nat) : Nat := a / 2 ^ (32 - n) * 2 ^ (32 - n)
def maskN (n : Nat) : Nat := cutN 4294967295 n
/-- A length brought between 0 and 32. -/
def clampN (n : Int) : Nat := if n < 0 then 0 else if 32 < n then 32 else n.toNat
theorem clampN_le (n : Int) : clampN n ≤ 32 := by unfold clampN; split; omega; split <;> omega
theorem clampN_of {n : Nat} (h : n ≤ 32) : clampN (n : Int) = n := by unfold clampN; rw [if_neg (by omega), if_neg (by omega)]; simp

theorem cutN_le (a n : Nat) : cutN a n ≤ a := Nat.div_mul_le_self _ _
theorem cutN_sub (a n : Nat) : cutN a n = a - a % 2 ^ (32 - n) := by
  have := Nat.div_add_mod' a (2 ^ (32 - n)); unfold cutN; omega
theorem cutN_mod (a n : Nat) : cutN a n + a % 2 ^ (32 - n) = a := Nat.div_add_mod' a (2 ^ (32 - n))
theorem cutN_32 (a : Nat) : cutN a 32 = a := by simp [cutN]
theorem cutN_0 (a : Nat) (h : a < 4294967296) : cutN a 0 = 0 := by
  unfold cutN; rw [Nat.div_eq_of_lt (by simpa using h), Nat.zero_mul]
theorem cutN_eq_iff (a b n : Nat) : cutN a n = cutN b n ↔ a / 2 ^ (32 - n) = b / 2 ^ (32 - n) := by
  unfold cutN
  constructor
  · intro h; exact Nat.eq_of_mul_eq_mul_right (Nat.two_pow_pos _) h
  · intro h; rw [h]
theorem cutN_fix (a n : Nat) : cutN a n = a ↔ a % 2 ^ (32 - n) = 0 := by have := cutN_mod a n; omega
/-- A shorter cut of a cut. -/
theorem cutN_cutN (a : Nat) {m n : Nat} (h : m ≤ n) (hn : n ≤ 32) : cutN (cutN a n) m = cutN a m := by
  rw [cutN_eq_iff]
  unfold cutN
  have e : (2 : Nat) ^ (32 - m) = 2 ^ (32 - n) * 2 ^ (n - m) := by rw [← Nat.pow_add]; congr 1; omega
  rw [e, ← Nat.div_div_eq_div_mul, ← Nat.div_div_eq_div_mul, Nat.mul_div_cancel _ (Nat.two_pow_pos _)]
theorem cutN_mono (a : Nat) {m n : Nat} (h : m ≤ n) (hn : n ≤ 32) (e : cutN a m = a) : cutN a n = a := by
  rw [cutN_fix] at e ⊢
  have hd : (2 : Nat) ^ (32 - n) ∣ 2 ^ (32 - m) := Nat.pow_dvd_pow _ (by omega)
  exact Nat.mod_eq_zero_of_dvd (Nat.dvd_trans hd (Nat.dvd_of_mod_eq_zero e))

theorem and_mask (a n : Nat) (ha : a < 4294967296) (_hn : n ≤ 32) : a &&& maskN n = cutN a n := by
  have e : ∀ x : Nat, cutN x n = (x >>> (32 - n)) <<< (32 - n) := fun x => by rw [Nat.shiftLeft_eq, Nat.shiftRight_eq_div_pow]; rfl
  unfold maskN
  rw [e, e]
  apply Nat.eq_of_testBit_eq
  intro i
  rw [Nat.testBit_and, Nat.testBit_shiftLeft, Nat.testBit_shiftLeft, Nat.testBit_shiftRight, Nat.testBit_shiftRight]
  by_cases h : 32 - n ≤ i
  · rw [show 32 - n + (i - (32 - n)) = i by omega]
    have h1 : Nat.testBit 4294967295 i = decide (i < 32) := by
      rw [show (4294967295 : Nat) = 2 ^ 32 - 1 from rfl, Nat.testBit_two_pow_sub_one]
    rw [h1]
    by_cases hi : i < 32
    · simp [h, hi]
    · have : a.testBit i = false := Nat.testBit_lt_two_pow (Nat.lt_of_lt_of_le ha (by
        show 2 ^ 32 ≤ 2 ^ i; exact Nat.pow_le_pow_right (by decide) (by omega)))
      simp [this]
  · simp [h]
theorem maskN_lt (n : Nat) : maskN n < 4294967296 := Nat.lt_of_le_of_lt (cutN_le _ _) (by decide)
theorem mask_not (n : Nat) (hn : n ≤ 32) : 4294967295 - maskN n = 2 ^ (32 - n) - 1 := by
  have h : ∀ n : Fin 33, 4294967295 - maskN n.val = 2 ^ (32 - n.val) - 1 := by decide +kernel
  exact h ⟨n, by omega⟩
theorem andNot_mask (a n : Nat) (hn : n ≤ 32) : a &&& (4294967295 - maskN n) = a % 2 ^ (32 - n) := by
  rw [mask_not n hn, Nat.and_two_pow_sub_one_eq_mod]
theorem mask_walk (n : Nat) (hn : n ≤ 32) : IntKind.u64.wrap (4294967295 * 2 ^ (32 - n)) % 4294967296 = ((maskN n : Nat) : Int) := by
  have h : ∀ n : Fin 33, IntKind.u64.wrap (4294967295 * 2 ^ (32 - n.val)) % 4294967296 = ((maskN n.val : Nat) : Int) := by decide +kernel
  exact h ⟨n, by omega⟩

def bitN (a i : Nat) : Nat := a / 2 ^ (31 - i) % 2
theorem bit_walk (a n : Nat) (ha : a < 4294967296) : RowKit.wrap64 (bits .and .u32 ((a : Int) / 2 ^ (31 - n)) 1) = ((bitN a n : Nat) : Int) := by
  have e : ((a : Int) / 2 ^ (31 - n)) = ((a / 2 ^ (31 - n) : Nat) : Int) := by simp
  have h1 : a / 2 ^ (31 - n) < 4294967296 := Nat.lt_of_le_of_lt (Nat.div_le_self _ _) ha
  rw [e, show (1 : Int) = ((1 : Nat) : Int) from rfl, u32_and_nat _ _ h1 (by decide), Nat.and_one_is_mod]
  have : a / 2 ^ (31 - n) % 2 < 2 := Nat.mod_lt _ (by decide)
  unfold bitN RowKit.wrap64
  omega

/-- What the reference's Cut has behind i rounds. -/
def topI (a k i : Nat) : Nat := if i ≤ k then a / 2 ^ (32 - i) else a / 2 ^ (32 - k) * 2 ^ (i - k)
theorem topI_0 (a k : Nat) (ha : a < 4294967296) : topI a k 0 = 0 := by
  unfold topI; rw [if_pos (Nat.zero_le _)]; exact Nat.div_eq_of_lt (by simpa using ha)
theorem topI_32 (a k : Nat) (hk : k ≤ 32) : topI a k 32 = cutN a k := by
  unfold topI cutN
  by_cases h : k = 32
  · subst h; simp
  · rw [if_neg (by omega)]
theorem topI_lt (a k i : Nat) (ha : a < 4294967296) (hi : i ≤ 32) (hk : k ≤ 32) : topI a k i < 2 ^ i := by
  have key : ∀ j, j ≤ 32 → a / 2 ^ (32 - j) < 2 ^ j := fun j hj => by
    rw [Nat.div_lt_iff_lt_mul (Nat.two_pow_pos _), ← Nat.pow_add, show j + (32 - j) = 32 by omega]; exact ha
  unfold topI
  split
  · exact key i hi
  · have h1 := key k hk
    have e : (2 : Nat) ^ i = 2 ^ k * 2 ^ (i - k) := by rw [← Nat.pow_add]; congr 1; omega
    rw [e]
    exact Nat.mul_lt_mul_of_pos_right h1 (Nat.two_pow_pos _)
theorem topI_in (a k i : Nat) (hi : i < k) (hk : k ≤ 32) : topI a k (i + 1) = topI a k i * 2 + bitN a i := by
  unfold topI bitN
  rw [if_pos (by omega), if_pos (by omega)]
  have e : (2 : Nat) ^ (32 - i) = 2 ^ (31 - i) * 2 := by rw [← Nat.pow_succ]; congr 1; omega
  rw [show 32 - (i + 1) = 31 - i by omega, e, ← Nat.div_div_eq_div_mul]
  omega
theorem topI_out (a k i : Nat) (hi : k ≤ i) : topI a k (i + 1) = topI a k i * 2 := by
  unfold topI
  rw [if_neg (by omega)]
  by_cases h : i = k
  · subst h; rw [if_pos (Nat.le_refl _)]; simp
  · rw [if_neg (by omega), show i + 1 - k = (i - k) + 1 by omega, Nat.pow_succ, Nat.mul_assoc]
theorem bitN_lt (a i : Nat) : bitN a i < 2 := Nat.mod_lt _ (by decide)

/-- Is a prefix good? -/
def goodB (a : Nat) (n : Int) : Bool := decide (0 ≤ n) && decide (n ≤ 32) && (cutN a n.toNat == a)
def coversB (pa : Nat) (pn : Int) (qa : Nat) (qn : Int) : Bool := goodB pa pn && goodB qa qn && decide (pn ≤ qn) && (cutN qa pn.toNat == pa)
end Go.Proofs.YtiibglkiakhfgaaDoor
