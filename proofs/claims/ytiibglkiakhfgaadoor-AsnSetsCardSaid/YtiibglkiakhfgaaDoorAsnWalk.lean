import Derived.Test.YtiibglkiakhfgaaDoorPrefixText
import Derived.Deep.RegionLaw
set_option linter.unusedSimpArgs false
set_option linter.unusedVariables false
namespace Go.Proofs.YtiibglkiakhfgaaDoor
open Go.RowKit
/-! SETS OF NUMBERS: rising lists. -/
def Rise (l : List Nat) : Prop := l.Pairwise (· < ·)
/-- A number laid into a set. -/
def putN (l : List Nat) (n : Nat) : List Nat := if l.contains n then l else l.takeWhile (· < n) ++ n :: l.dropWhile (· < n)
def setOf (l : List Nat) : List Nat := l.foldl putN []
def pickN (a b : List Nat) (is : Bool) : List Nat := a.filter fun x => b.contains x == is
/-- Both sets gone over at once. -/
def mrg (left right both : Bool) : List Nat → List Nat → List Nat
  | [], b => if right then b else []
  | x :: a, [] => if left then x :: a else []
  | x :: a, y :: b =>
    if x < y then (if left then [x] else []) ++ mrg left right both a (y :: b)
    else if y < x then (if right then [y] else []) ++ mrg left right both (x :: a) b
    else (if both then [x] else []) ++ mrg left right both a b
  termination_by a b => a.length + b.length

theorem rise_ext : ∀ {a b : List Nat}, Rise a → Rise b → (∀ x, x ∈ a ↔ x ∈ b) → a = b
  | [], [], _, _, _ => rfl
  | [], y :: b, _, _, h => absurd ((h y).2 (by simp)) (by simp)
  | x :: a, [], _, _, h => absurd ((h x).1 (by simp)) (by simp)
  | x :: a, y :: b, ha, hb, h => by
    obtain ⟨ha1, ha2⟩ := List.pairwise_cons.1 ha
    obtain ⟨hb1, hb2⟩ := List.pairwise_cons.1 hb
    have e : x = y := by
      rcases List.mem_cons.1 ((h x).1 (by simp)) with e | h1
      · exact e
      · rcases List.mem_cons.1 ((h y).2 (by simp)) with e | h2
        · exact e.symm
        · have := ha1 y h2; have := hb1 x h1; omega
    subst e
    congr 1
    refine rise_ext ha2 hb2 fun z => ?_
    have hz := h z
    simp only [List.mem_cons] at hz
    constructor
    · intro hm
      rcases hz.1 (.inr hm) with e | h1
      · subst e; exact absurd (ha1 z hm) (by omega)
      · exact h1
    · intro hm
      rcases hz.2 (.inr hm) with e | h1
      · subst e; exact absurd (hb1 z hm) (by omega)
      · exact h1
theorem contains_iff (l : List Nat) (n : Nat) : l.contains n = true ↔ n ∈ l := by simp
theorem putN_mem (l : List Nat) (n x : Nat) : x ∈ putN l n ↔ x = n ∨ x ∈ l := by
  unfold putN
  by_cases h : l.contains n = true
  · rw [if_pos h]
    constructor
    · exact .inr
    · rintro (rfl | h1)
      · exact (contains_iff _ _).1 h
      · exact h1
  · rw [if_neg h, List.mem_append, List.mem_cons]
    have e := List.takeWhile_append_dropWhile (p := fun y => decide (y < n)) (l := l)
    have hm : x ∈ l ↔ x ∈ l.takeWhile (· < n) ∨ x ∈ l.dropWhile (· < n) := by rw [← List.mem_append, e]
    rw [hm]
    constructor
    · rintro (h1 | h1 | h1)
      · exact .inr (.inl h1)
      · exact .inl h1
      · exact .inr (.inr h1)
    · rintro (h1 | h1 | h1)
      · exact .inr (.inl h1)
      · exact .inl h1
      · exact .inr (.inr h1)
theorem drop_ge {n : Nat} : ∀ {l : List Nat}, Rise l → ∀ x ∈ l.dropWhile (· < n), n ≤ x
  | [], _, x, hx => by simp at hx
  | y :: l, h, x, hx => by
    obtain ⟨h1, h2⟩ := List.pairwise_cons.1 h
    by_cases hy : y < n
    · rw [List.dropWhile_cons_of_pos (by simpa using hy)] at hx
      exact drop_ge h2 x hx
    · rw [List.dropWhile_cons_of_neg (by simpa using hy)] at hx
      rcases List.mem_cons.1 hx with rfl | hx
      · omega
      · have := h1 x hx; omega
theorem take_lt {n : Nat} : ∀ {l : List Nat}, ∀ x ∈ l.takeWhile (· < n), x < n
  | [], x, hx => by simp at hx
  | y :: l, x, hx => by
    by_cases hy : y < n
    · rw [List.takeWhile_cons_of_pos (by simpa using hy)] at hx
      rcases List.mem_cons.1 hx with rfl | hx
      · exact hy
      · exact take_lt x hx
    · rw [List.takeWhile_cons_of_neg (by simpa using hy)] at hx
      simp at hx
theorem putN_rise {l : List Nat} (h : Rise l) (n : Nat) : Rise (putN l n) := by
  unfold putN
  by_cases hc : l.contains n = true
  · rw [if_pos hc]; exact h
  · rw [if_neg hc]
    have e := List.takeWhile_append_dropWhile (p := fun y => decide (y < n)) (l := l)
    have hn : n ∉ l := fun hm => hc ((contains_iff _ _).2 hm)
    have h0 := h
    unfold Rise at h ⊢
    rw [← e] at h
    obtain ⟨p1, p2, p3⟩ := List.pairwise_append.1 h
    refine List.pairwise_append.2 ⟨p1, List.pairwise_cons.2 ⟨fun x hx => ?_, p2⟩, fun x hx y hy => ?_⟩
    · have h1 := drop_ge h0 x hx
      have : x ≠ n := fun he => hn (he ▸ (List.dropWhile_sublist _).subset hx)
      omega
    · have h1 := take_lt x hx
      rcases List.mem_cons.1 hy with rfl | hy
      · exact h1
      · exact p3 x hx y hy
theorem setOf_aux : ∀ (l acc : List Nat), Rise acc → Rise (l.foldl putN acc) ∧ ∀ x, x ∈ l.foldl putN acc ↔ x ∈ acc ∨ x ∈ l
  | [], acc, h => ⟨h, fun x => by simp⟩
  | y :: l, acc, h => by
    obtain ⟨h1, h2⟩ := setOf_aux l (putN acc y) (putN_rise h y)
    refine ⟨h1, fun x => ?_⟩
    rw [List.foldl_cons, h2 x, putN_mem, List.mem_cons]
    constructor
    · rintro ((h | h) | h)
      · exact .inr (.inl h)
      · exact .inl h
      · exact .inr (.inr h)
    · rintro (h | h | h)
      · exact .inl (.inr h)
      · exact .inl (.inl h)
      · exact .inr h
theorem setOf_rise (l : List Nat) : Rise (setOf l) := (setOf_aux l [] List.Pairwise.nil).1
theorem setOf_mem (l : List Nat) (x : Nat) : x ∈ setOf l ↔ x ∈ l := by
  have := (setOf_aux l [] List.Pairwise.nil).2 x
  simpa [setOf] using this
theorem pickN_mem (a b : List Nat) (is : Bool) (x : Nat) : x ∈ pickN a b is ↔ x ∈ a ∧ (b.contains x = is) := by simp [pickN]
theorem pickN_rise {a : List Nat} (h : Rise a) (b : List Nat) (is : Bool) : Rise (pickN a b is) := h.filter _
theorem mrg_mem (left right both : Bool) : ∀ (a b : List Nat), Rise a → Rise b → ∀ x, x ∈ mrg left right both a b ↔ (x ∈ a ∧ x ∈ b ∧ both = true) ∨ (x ∈ a ∧ x ∉ b ∧ left = true) ∨ (x ∉ a ∧ x ∈ b ∧ right = true)
  | [], b, ha, hb, x => by
    rw [mrg]; cases right <;> simp
  | z :: a, [], ha, hb, x => by
    rw [mrg]; cases left <;> simp
  | z :: a, y :: b, ha, hb, x => by
    obtain ⟨ha1, ha2⟩ := List.pairwise_cons.1 ha
    obtain ⟨hb1, hb2⟩ := List.pairwise_cons.1 hb
    rw [mrg]
    by_cases h1 : z < y
    · have ih := mrg_mem left right both a (y :: b) ha2 hb x
      rw [if_pos h1, List.mem_append, ih]
      by_cases hx : x = z
      · subst hx
        have n1 : x ∉ a := fun h => absurd (ha1 x h) (by omega)
        have n2 : x ∉ (y :: b) := fun h => by
          rcases List.mem_cons.1 h with e | h
          · omega
          · have := hb1 x h; omega
        cases left <;> simp [n1, n2]
      · have : x ∉ (if left = true then [z] else []) := by cases left <;> simp [hx]
        simp only [this, false_or, List.mem_cons (a := x) (b := z), hx]
    · by_cases h2 : y < z
      · have ih := mrg_mem left right both (z :: a) b ha hb2 x
        rw [if_neg h1, if_pos h2, List.mem_append, ih]
        by_cases hx : x = y
        · subst hx
          have n1 : x ∉ b := fun h => absurd (hb1 x h) (by omega)
          have n2 : x ∉ (z :: a) := fun h => by
            rcases List.mem_cons.1 h with e | h
            · omega
            · have := ha1 x h; omega
          cases right <;> simp [n1, n2]
        · have : x ∉ (if right = true then [y] else []) := by cases right <;> simp [hx]
          simp only [this, false_or, List.mem_cons (a := x) (b := y), hx]
      · have e : z = y := by omega
        subst e
        have ih := mrg_mem left right both a b ha2 hb2 x
        rw [if_neg h1, if_neg h2, List.mem_append, ih]
        by_cases hx : x = z
        · subst hx
          have n1 : x ∉ a := fun h => absurd (ha1 x h) (by omega)
          have n2 : x ∉ b := fun h => absurd (hb1 x h) (by omega)
          cases both <;> simp [n1, n2]
        · have : x ∉ (if both = true then [z] else []) := by cases both <;> simp [hx]
          simp only [this, false_or, List.mem_cons (a := x) (b := z), hx]
  termination_by a b => a.length + b.length
theorem mrg_rise (left right both : Bool) : ∀ (a b : List Nat), Rise a → Rise b → Rise (mrg left right both a b)
  | [], b, ha, hb => by
    rw [mrg]; cases right
    · exact List.Pairwise.nil
    · exact hb
  | z :: a, [], ha, hb => by
    rw [mrg]; cases left
    · exact List.Pairwise.nil
    · exact ha
  | z :: a, y :: b, ha, hb => by
    obtain ⟨ha1, ha2⟩ := List.pairwise_cons.1 ha
    obtain ⟨hb1, hb2⟩ := List.pairwise_cons.1 hb
    have key : ∀ (c : Nat) (cond : Bool) (l : List Nat), Rise l → (∀ x ∈ l, c < x) → Rise ((if cond = true then [c] else []) ++ l) := by
      intro c cond l hl hlt
      cases cond
      · simpa using hl
      · exact List.pairwise_cons.2 ⟨hlt, hl⟩
    rw [mrg]
    by_cases h1 : z < y
    · rw [if_pos h1]
      refine key z left _ (mrg_rise left right both a (y :: b) ha2 hb) fun x hx => ?_
      rcases (mrg_mem left right both a (y :: b) ha2 hb x).1 hx with h | h | h
      · exact ha1 x h.1
      · exact ha1 x h.1
      · rcases List.mem_cons.1 h.2.1 with e | h
        · omega
        · have := hb1 x h; omega
    · by_cases h2 : y < z
      · rw [if_neg h1, if_pos h2]
        refine key y right _ (mrg_rise left right both (z :: a) b ha hb2) fun x hx => ?_
        rcases (mrg_mem left right both (z :: a) b ha hb2 x).1 hx with h | h | h
        · exact hb1 x h.2.1
        · rcases List.mem_cons.1 h.1 with e | h
          · omega
          · have := ha1 x h; omega
        · exact hb1 x h.2.1
      · have e : z = y := by omega
        subst e
        rw [if_neg h1, if_neg h2]
        refine key z both _ (mrg_rise left right both a b ha2 hb2) fun x hx => ?_
        rcases (mrg_mem left right both a b ha2 hb2 x).1 hx with h | h | h
        · exact ha1 x h.1
        · exact ha1 x h.1
        · exact hb1 x h.2.1
  termination_by a b => a.length + b.length
theorem union_is {a b : List Nat} (ha : Rise a) (hb : Rise b) : mrg true true true a b = setOf (a ++ b) :=
  rise_ext (mrg_rise _ _ _ a b ha hb) (setOf_rise _) fun x => by
    rw [mrg_mem _ _ _ a b ha hb, setOf_mem, List.mem_append]
    by_cases h1 : x ∈ a <;> by_cases h2 : x ∈ b <;> simp [h1, h2]
theorem minus_is {a b : List Nat} (ha : Rise a) (hb : Rise b) : mrg true false false a b = pickN a b false :=
  rise_ext (mrg_rise _ _ _ a b ha hb) (pickN_rise ha _ _) fun x => by
    rw [mrg_mem _ _ _ a b ha hb, pickN_mem]
    by_cases h1 : x ∈ a <;> by_cases h2 : x ∈ b <;> simp [h1, h2]
theorem both_is {a b : List Nat} (ha : Rise a) (hb : Rise b) : mrg false false true a b = pickN a b true :=
  rise_ext (mrg_rise _ _ _ a b ha hb) (pickN_rise ha _ _) fun x => by
    rw [mrg_mem _ _ _ a b ha hb, pickN_mem]
    by_cases h1 : x ∈ a <;> by_cases h2 : x ∈ b <;> simp [h1, h2]
theorem parted_is {a b : List Nat} (ha : Rise a) (hb : Rise b) : mrg true true true (pickN a b false) (pickN a b true) = a :=
  rise_ext (mrg_rise _ _ _ _ _ (pickN_rise ha _ _) (pickN_rise ha _ _)) ha fun x => by
    rw [mrg_mem _ _ _ _ _ (pickN_rise ha _ _) (pickN_rise ha _ _), pickN_mem, pickN_mem]
    by_cases h1 : x ∈ a <;> by_cases h2 : x ∈ b <;> simp [h1, h2]
theorem within_is (a b : List Nat) : (a.all fun x => b.contains x) = ((pickN a b false).length == 0) := by
  rw [Bool.eq_iff_iff]
  simp only [List.all_eq_true, beq_iff_eq, List.length_eq_zero_iff]
  constructor
  · intro h
    apply List.filter_eq_nil_iff.2
    intro x hx
    have := h x hx
    rw [this]; simp
  · intro h x hx
    have := (List.filter_eq_nil_iff.1 h) x hx
    cases hb : b.contains x
    · rw [hb] at this; simp at this
    · rfl
theorem putN_len (l : List Nat) (n : Nat) : (putN l n).length ≤ l.length + 1 := by
  unfold putN
  by_cases h : l.contains n = true
  · rw [if_pos h]; omega
  · rw [if_neg h]
    have e := congrArg List.length (List.takeWhile_append_dropWhile (p := fun y => decide (y < n)) (l := l))
    rw [List.length_append] at e ⊢
    rw [List.length_cons]; omega
theorem setOf_len_aux : ∀ (l acc : List Nat), (l.foldl putN acc).length ≤ acc.length + l.length
  | [], acc => by simp
  | y :: l, acc => by
    have h1 := setOf_len_aux l (putN acc y)
    have h2 := putN_len acc y
    rw [List.foldl_cons, List.length_cons]; omega
theorem setOf_len (l : List Nat) : (setOf l).length ≤ l.length := by simpa [setOf] using setOf_len_aux l []
theorem mrg_len (left right both : Bool) : ∀ (a b : List Nat), (mrg left right both a b).length ≤ a.length + b.length
  | [], b => by rw [mrg]; cases right <;> simp
  | z :: a, [] => by rw [mrg]; cases left <;> simp
  | z :: a, y :: b => by
    rw [mrg]
    by_cases h1 : z < y
    · have := mrg_len left right both a (y :: b)
      rw [if_pos h1, List.length_append]; simp only [List.length_cons] at *; cases left <;> simp <;> omega
    · by_cases h2 : y < z
      · have := mrg_len left right both (z :: a) b
        rw [if_neg h1, if_pos h2, List.length_append]; simp only [List.length_cons] at *; cases right <;> simp <;> omega
      · have := mrg_len left right both a b
        rw [if_neg h1, if_neg h2, List.length_append]; simp only [List.length_cons] at *; cases both <;> simp <;> omega
  termination_by a b => a.length + b.length
theorem take_snoc_eq {l : List Nat} {k x : Nat} (h : l[k]? = some x) : l.take (k + 1) = l.take k ++ [x] := by rw [List.take_add_one, h]; rfl
set_option maxHeartbeats 1000000 in
theorem refSame_any (A : Option Addr) (n c : Nat) (l : List Nat) (B : Option Addr) (m d : Nat) (r : List Nat) (w : World) (h : U32s w A n c l) (h' : U32s w B m d r) :
    Calls Tryd.prog 63 #[.slice A n c, .slice B m d] w fun e w' => e = .returned (.bool (decide (l = r))) ∧ Below w.heap.size w w' := by
  have hm1 := h.2.2.1
  have hn1 := h.2.1
  have hm2 := h'.2.2.1
  have hn2 := h'.2.1
  unfold maxLen at hm1 hm2
  by_cases hnm : n = m
  · subst hnm
    have HU := hide h
    have HV := hide h'
    clear h h'
    go_enter Tryd.func63, Tryd.ntmps63
    go_wp2
    go_loopw [5] (fun i wr => ∃ k : Nat, k ≤ n ∧ i = .int .i64 k ∧ l.take k = r.take k ∧ ∃ q, wr = w.drewN q) (fun i _ => n - (intOf i).toNat)
    case atStart => exact ⟨0, Nat.zero_le _, rfl, by simp, 0, rfl⟩
    case round =>
      obtain ⟨k, hk, rfl, heq, q, rfl⟩ := hrel
      have HN := hide heq
      clear heq
      by_cases hlt : k < n
      · obtain ⟨g, o, x, rfl, hg, hx, hx2, hc⟩ := HU.out.at_ hlt
        obtain ⟨g', o', y, rfl, hg', hy, hy2, hc'⟩ := HV.out.at_ hlt
        have hi0 : (0 : Int) ≤ (k : Int) := by omega
        have hi1 : (k : Int) < (n : Int) := by omega
        by_cases hxy : x = y
        · subst hxy
          have hn3 := hide (show l.take (k + 1) = r.take (k + 1) by rw [take_snoc_eq hx, take_snoc_eq hy, HN.out])
          clear hx hy
          go_wp2
          go_quiet (fail)
          go_wp2
          go_roundw
          case rel => exact ⟨k + 1, by omega, by go_num, hn3.out, _, rfl⟩
          case measure => simp [intOf]; omega
        · have he : ((x : Int) != (y : Int)) = true := by simp; omega
          have hf := hide (show decide (l = r) = false by
            rw [decide_eq_false_iff_not]; rintro rfl
            rw [hx] at hy; exact hxy (Option.some.inj hy))
          clear hxy hx hy
          go_wp2
          go_quiet (fail)
          go_wp2
          go_ret
          exact ⟨ret_bool hf.out.symm, below_drewN (below_drewN (Below.refl _ _) _) _⟩
      · obtain rfl : k = n := by omega
        have hf := hide (show decide (l = r) = true by
          rw [decide_eq_true_eq]
          have := HN.out
          rwa [List.take_of_length_le (by rw [HU.out.1]; exact Nat.le_refl _), List.take_of_length_le (by rw [HV.out.1]; exact Nat.le_refl _)] at this)
        go_wp2
        go_ret
        exact ⟨ret_bool hf.out.symm, below_drewN (Below.refl _ _) _⟩
  · have hf := hide (show decide (l = r) = false by
      rw [decide_eq_false_iff_not]; rintro rfl
      exact hnm (h.1.symm.trans h'.1))
    have he : ((n : Int) != (m : Int)) = true := by simp; omega
    clear h h' hnm
    go_enter Tryd.func63, Tryd.ntmps63
    go_wp2
    go_ret
    exact ⟨ret_bool hf.out.symm, Below.refl _ _⟩
set_option maxHeartbeats 1000000 in
theorem slEqual_any (A : Option Addr) (n c : Nat) (l : List Nat) (B : Option Addr) (m d : Nat) (r : List Nat) (w : World) (h : U32s w A n c l) (h' : U32s w B m d r) :
    Calls Tryd.prog 115 #[.slice A n c, .slice B m d] w fun e w' => e = .returned (.bool (decide (l = r))) ∧ Below w.heap.size w w' := by
  have hm1 := h.2.2.1
  have hn1 := h.2.1
  have hm2 := h'.2.2.1
  have hn2 := h'.2.1
  unfold maxLen at hm1 hm2
  by_cases hnm : n = m
  · subst hnm
    have HU := hide h
    have HV := hide h'
    clear h h'
    go_enter Tryd.func115, Tryd.ntmps115
    go_wp2
    go_loopw [13] (fun i wr => ∃ k : Nat, k ≤ n ∧ i = .int .i64 k ∧ l.take k = r.take k ∧ ∃ q, wr = w.drewN q) (fun i _ => n - (intOf i).toNat)
    case atStart => exact ⟨0, Nat.zero_le _, rfl, by simp, 0, rfl⟩
    case round =>
      obtain ⟨k, hk, rfl, heq, q, rfl⟩ := hrel
      have HN := hide heq
      clear heq
      by_cases hlt : k < n
      · obtain ⟨g, o, x, rfl, hg, hx, hx2, hc⟩ := HU.out.at_ hlt
        obtain ⟨g', o', y, rfl, hg', hy, hy2, hc'⟩ := HV.out.at_ hlt
        have hi0 : (0 : Int) ≤ (k : Int) := by omega
        have hi1 : (k : Int) < (n : Int) := by omega
        by_cases hxy : x = y
        · subst hxy
          have hn3 := hide (show l.take (k + 1) = r.take (k + 1) by rw [take_snoc_eq hx, take_snoc_eq hy, HN.out])
          clear hx hy
          go_wp2
          go_quiet (fail)
          go_wp2
          go_roundw
          case rel => exact ⟨k + 1, by omega, by go_num, hn3.out, _, rfl⟩
          case measure => simp [intOf]; omega
        · have he : ((x : Int) != (y : Int)) = true := by simp; omega
          have hf := hide (show decide (l = r) = false by
            rw [decide_eq_false_iff_not]; rintro rfl
            rw [hx] at hy; exact hxy (Option.some.inj hy))
          clear hxy hx hy
          go_wp2
          go_quiet (fail)
          go_wp2
          go_ret
          exact ⟨ret_bool hf.out.symm, below_drewN (below_drewN (Below.refl _ _) _) _⟩
      · obtain rfl : k = n := by omega
        have hf := hide (show decide (l = r) = true by
          rw [decide_eq_true_eq]
          have := HN.out
          rwa [List.take_of_length_le (by rw [HU.out.1]; exact Nat.le_refl _), List.take_of_length_le (by rw [HV.out.1]; exact Nat.le_refl _)] at this)
        go_wp2
        go_ret
        exact ⟨ret_bool hf.out.symm, below_drewN (Below.refl _ _) _⟩
  · have hf := hide (show decide (l = r) = false by
      rw [decide_eq_false_iff_not]; rintro rfl
      exact hnm (h.1.symm.trans h'.1))
    have he : ((n : Int) != (m : Int)) = true := by simp; omega
    clear h h' hnm
    go_enter Tryd.func115, Tryd.ntmps115
    go_wp2
    go_ret
    exact ⟨ret_bool hf.out.symm, Below.refl _ _⟩
set_option maxHeartbeats 400000 in
theorem isNaN32 (x : Nat) (w : World) : Calls Tryd.prog 136 #[.int .u32 x] w fun e w' => e = .returned (.bool false) ∧ w = w' := by
  go_enter Tryd.func136, Tryd.ntmps136
  go_wp2
  go_ret
  exact ⟨ret_bool (by simp), rfl⟩
set_option maxHeartbeats 400000 in
theorem isNaNs32 (x : Nat) (w : World) : Calls Tryd.prog 161 #[.int .u32 x] w fun e w' => e = .returned (.bool false) ∧ w = w' := by
  go_enter Tryd.func161, Tryd.ntmps161
  go_wp2
  go_ret
  exact ⟨ret_bool (by simp), rfl⟩
set_option maxHeartbeats 400000 in
theorem less32 (x y : Nat) (w : World) : Calls Tryd.prog 160 #[.int .u32 x, .int .u32 y] w fun e w' => e = .returned (.bool (decide (x < y))) ∧ w = w' := by
  go_enter Tryd.func160, Tryd.ntmps160
  go_wp2_with fail
  refine (isNaN32 x _).mono ?_
  rintro e w1 ⟨rfl, rfl⟩
  go_wp2
  go_ret
  exact ⟨ret_bool (by simp), rfl⟩
def lowN (l : List Nat) (x : Nat) : Nat := (l.takeWhile (· < x)).length
theorem lowN_of : ∀ {l : List Nat} {x i : Nat}, i ≤ l.length → (∀ k y, k < i → l[k]? = some y → y < x) → (∀ k y, i ≤ k → l[k]? = some y → x ≤ y) → lowN l x = i
  | [], x, i, h, _, _ => by simp [lowN]; simp at h; omega
  | z :: l, x, 0, h, h1, h2 => by
    have := h2 0 z (by omega) rfl
    unfold lowN
    rw [List.takeWhile_cons_of_neg (by simp; omega)]; rfl
  | z :: l, x, i + 1, h, h1, h2 => by
    have := h1 0 z (by omega) rfl
    have ih := lowN_of (l := l) (x := x) (i := i) (by simp at h; omega) (fun k y hk hy => h1 (k + 1) y (by omega) (by simpa using hy)) (fun k y hk hy => h2 (k + 1) y (by omega) (by simpa using hy))
    unfold lowN at ih ⊢
    rw [List.takeWhile_cons_of_pos (by simpa using this), List.length_cons, ih]
theorem rise_lt {l : List Nat} (h : Rise l) {i j x y : Nat} (hij : i < j) (hx : l[i]? = some x) (hy : l[j]? = some y) : x < y := by
  obtain ⟨hi, rfl⟩ := List.getElem?_eq_some_iff.1 hx
  obtain ⟨hj, rfl⟩ := List.getElem?_eq_some_iff.1 hy
  exact List.pairwise_iff_getElem.1 h i j hi hj hij
theorem found_at {l : List Nat} (h : Rise l) {i x y : Nat} (hy : l[i]? = some y) (h1 : ∀ k y, k < i → l[k]? = some y → y < x) (h2 : ∀ k y, i ≤ k → l[k]? = some y → x ≤ y) : decide (x ∈ l) = decide (y = x) := by
  rw [decide_eq_decide]
  constructor
  · intro hm
    obtain ⟨k, hk⟩ := List.getElem?_of_mem hm
    rcases Nat.lt_trichotomy k i with hl | rfl | hg
    · exact absurd (h1 k x hl hk) (by omega)
    · exact Option.some.inj (hy.symm.trans hk)
    · have := rise_lt h hg hy hk
      have := h2 i y (Nat.le_refl _) hy
      omega
  · rintro rfl
    exact List.mem_of_getElem? hy
theorem found_no {l : List Nat} {x : Nat} (h1 : ∀ k y, k < l.length → l[k]? = some y → y < x) : decide (x ∈ l) = false := by
  rw [decide_eq_false_iff_not]
  intro hm
  obtain ⟨k, hk⟩ := List.getElem?_of_mem hm
  have := h1 k x (List.getElem?_eq_some_iff.1 hk).1 hk
  omega
def LowInv (l : List Nat) (x i j : Nat) : Prop := (∀ k y, k < i → l[k]? = some y → y < x) ∧ (∀ k y, j ≤ k → l[k]? = some y → x ≤ y)
set_option maxHeartbeats 1000000 in
theorem binSearch_any (A : Option Addr) (n c : Nat) (l : List Nat) (x : Nat) (w : World) (h : U32s w A n c l) (hr : Rise l) (hn : n ≤ 100000) :
    Calls Tryd.prog 127 #[.slice A n c, .int .u32 x] w fun e w' => e = .returned (.tuple #[.int .i64 (lowN l x : Nat), .bool (decide (x ∈ l))]) ∧ w = w' := by
  have hm := h.2.2.1
  have hnc := h.2.1
  unfold maxLen at hm
  have HU := hide h
  have HR := hide hr
  clear h hr
  go_enter Tryd.func127, Tryd.ntmps127
  go_wp2
  go_loop [7, 8] (fun a b => ∃ i j : Nat, i ≤ j ∧ j ≤ n ∧ a = .int .i64 i ∧ b = .int .i64 j ∧ LowInv l x i j) (fun a b => (intOf b).toNat - (intOf a).toNat)
  case atStart => exact ⟨0, n, Nat.zero_le _, Nat.le_refl _, rfl, rfl, fun k y hk => by omega, fun k y hk hy => by
    have := (List.getElem?_eq_some_iff.1 hy).1; have := HU.out.1; omega⟩
  case round =>
    obtain ⟨i, j, hij, hj, rfl, rfl, hinv⟩ := hrel
    have HI := hide hinv
    clear hinv
    by_cases hlt : i < j
    · obtain ⟨g, o, y, rfl, hg, hy, hy2, hc⟩ := HU.out.at_ (k := (i + j) / 2) (by omega)
      have HY := hide hy
      clear hy
      by_cases hyx : y < x
      · have hd : decide (y < x) = true := by simpa using hyx
        have HL := hide (fun w => less32 y x w)
        rw [hd] at HL
        have HI2 : Hid (LowInv l x ((i + j) / 2 + 1) j) := hide ⟨fun k z hk hz => by
          rcases Nat.lt_or_ge k ((i + j) / 2) with h | h
          · have := rise_lt HR.out h hz HY.out; omega
          · obtain rfl : k = (i + j) / 2 := by omega
            have := Option.some.inj (hz.symm.trans HY.out); omega, HI.out.2⟩
        clear hd
        go_wp2_with fail
        refine (HL.out _).mono ?_
        rintro e w1 ⟨rfl, rfl⟩
        go_wp2
        go_round
        case rel => exact ⟨(i + j) / 2 + 1, j, by omega, by omega, by go_num, rfl, HI2.out⟩
        case measure => simp [intOf]; omega
      · have hd : decide (y < x) = false := by simpa using hyx
        have HL := hide (fun w => less32 y x w)
        rw [hd] at HL
        have HI2 : Hid (LowInv l x i ((i + j) / 2)) := hide ⟨HI.out.1, fun k z hk hz => by
          rcases Nat.lt_or_ge ((i + j) / 2) k with h | h
          · have := rise_lt HR.out h HY.out hz; omega
          · obtain rfl : k = (i + j) / 2 := by omega
            have := Option.some.inj (hz.symm.trans HY.out); omega⟩
        clear hd
        go_wp2_with fail
        refine (HL.out _).mono ?_
        rintro e w1 ⟨rfl, rfl⟩
        go_wp2
        go_round
        case rel => exact ⟨i, (i + j) / 2, by omega, by omega, rfl, by go_num, HI2.out⟩
        case measure => simp [intOf]; omega
    · obtain rfl : i = j := by omega
      have hlow := hide (lowN_of (by rw [HU.out.1]; exact hj) HI.out.1 HI.out.2)
      by_cases hi : i < n
      · obtain ⟨g, o, y, rfl, hg, hy, hy2, hc⟩ := HU.out.at_ hi
        have hf := hide (found_at HR.out hy HI.out.1 HI.out.2)
        clear hy
        by_cases hyx : y = x
        · have he : ((y : Int) == (x : Int)) = true := by simp [hyx]
          have HF : Hid (decide (x ∈ l) = true) := hide (by rw [hf.out]; simp [hyx])
          clear hyx
          go_wp2
          go_ret2
          exact ⟨by rw [hlow.out, HF.out]; rfl, rfl⟩
        · have he : ((y : Int) == (x : Int)) = false := by simp; omega
          have HF : Hid (decide (x ∈ l) = false) := hide (by rw [hf.out]; simp [hyx])
          clear hyx
          go_wp2_with fail
          refine (isNaNs32 y _).mono ?_
          rintro e w1 ⟨rfl, rfl⟩
          go_wp2
          go_ret2
          exact ⟨by rw [hlow.out, HF.out]; rfl, rfl⟩
      · obtain rfl : i = n := by omega
        have HF := hide (found_no (l := l) (x := x) (by rw [HU.out.1]; exact HI.out.1))
        go_wp2
        go_ret2
        exact ⟨by rw [hlow.out, HF.out]; rfl, rfl⟩
set_option maxHeartbeats 400000 in
theorem ahas_any (A : Option Addr) (n c : Nat) (l : List Nat) (x : Nat) (w : World) (h : U32s w A n c l) (hr : Rise l) (hn : n ≤ 100000) :
    Calls Tryd.prog 114 #[.slice A n c, .int .u32 x] w fun e w' => e = .returned (.bool (decide (x ∈ l))) ∧ w = w' := by
  have HB := hide (fun w h => binSearch_any A n c l x w h hr hn)
  have HU := hide h
  clear h hr
  go_enter Tryd.func114, Tryd.ntmps114
  go_wp2_with fail
  refine (HB.out _ HU.out).mono ?_
  rintro e w1 ⟨rfl, rfl⟩
  go_wp2
  go_ret
  exact ⟨rfl, rfl⟩
set_option maxHeartbeats 400000 in
theorem aHas_any (A : Option Addr) (n c : Nat) (l : List Nat) (x : Nat) (w : World) (h : U32s w A n c l) (hr : Rise l) (hn : n ≤ 100000) :
    Calls Tryd.prog 80 #[.slice A n c, .int .u32 x] w fun e w' => e = .returned (.bool (decide (x ∈ l))) ∧ w = w' := by
  have HB := hide (fun w h => ahas_any A n c l x w h hr hn)
  have HU := hide h
  clear h hr
  go_enter Tryd.func80, Tryd.ntmps80
  go_wp2_with fail
  refine (HB.out _ HU.out).mono ?_
  rintro e w1 ⟨rfl, rfl⟩
  go_wp2
  go_ret
  exact ⟨rfl, rfl⟩
/-- Whether all of one list lie in another. -/
def allIn (l r : List Nat) : Bool := l.all fun x => r.contains x
set_option maxHeartbeats 1000000 in
theorem within_any (A : Option Addr) (n c : Nat) (l : List Nat) (B : Option Addr) (m d : Nat) (r : List Nat) (w : World) (h : U32s w A n c l) (h' : U32s w B m d r) (hr : Rise r) (hm : m ≤ 100000) :
    Calls Tryd.prog 65 #[.slice A n c, .slice B m d] w fun e w' => e = .returned (.bool (allIn l r)) ∧ w = w' := by
  have hm1 := h.2.2.1
  have hn1 := h.2.1
  unfold maxLen at hm1
  have HB := hide (fun x w h => ahas_any B m d r x w h hr hm)
  have HU := hide h
  have HV := hide h'
  clear h h' hr
  go_enter Tryd.func65, Tryd.ntmps65
  go_wp2
  go_loop [9] (fun i => ∃ k : Nat, k ≤ n ∧ i = .int .i64 k ∧ allIn (l.take k) r = true) (fun i => n - (intOf i).toNat)
  case atStart => exact ⟨0, Nat.zero_le _, rfl, by simp [allIn]⟩
  case round =>
    obtain ⟨k, hk, rfl, hall⟩ := hrel
    have HN := hide hall
    clear hall
    by_cases hlt : k < n
    · obtain ⟨g, o, x, rfl, hg, hx, hx2, hc⟩ := HU.out.at_ hlt
      by_cases hxr : x ∈ r
      · have hd := hide (show decide (x ∈ r) = true by simpa using hxr)
        have hn3 := hide (show allIn (l.take (k + 1)) r = true by unfold allIn; rw [take_snoc_eq hx, List.all_append, show ((l.take k).all fun x => r.contains x) = true from HN.out]; simpa using hxr)
        clear hx hxr
        go_wp2_with fail
        refine (HB.out _ _ HV.out).mono ?_
        rintro e w1 ⟨rfl, rfl⟩
        rw [hd.out]
        go_wp2
        go_round
        case rel => exact ⟨k + 1, by omega, by go_num, hn3.out⟩
        case measure => simp [intOf]; omega
      · have hd := hide (show decide (x ∈ r) = false by simpa using hxr)
        have hn3 := hide (show allIn l r = false by
          unfold allIn; rw [List.all_eq_false]; exact ⟨x, List.mem_of_getElem? hx, by simpa using hxr⟩)
        clear hx hxr
        go_wp2_with fail
        refine (HB.out _ _ HV.out).mono ?_
        rintro e w1 ⟨rfl, rfl⟩
        rw [hd.out]
        go_wp2
        go_ret
        exact ⟨ret_bool hn3.out.symm, rfl⟩
    · obtain rfl : k = n := by omega
      have hf := hide (show allIn l r = true by
        have := HN.out
        rwa [List.take_of_length_le (by rw [HU.out.1]; exact Nat.le_refl _)] at this)
      go_wp2
      go_ret
      exact ⟨ret_bool hf.out.symm, rfl⟩
theorem reads_one {w : World} {g : Nat} {u : Value} (h : w.cell? ⟨g, 0, none⟩ = some u) : Reads w w.heap.size 1 (some ⟨g, 0, none⟩) 1 [u] :=
  ⟨rfl, fun _ => ⟨_, rfl, World.block_lt_of_cell? w _ h, fun j v hv => by
    cases j with
    | zero => cases hv; exact h
    | succ j => simp at hv⟩⟩
theorem reads_nil (w : World) (B size : Nat) (A : Option Addr) : Reads w B size A 0 [] := ⟨by simp, fun h => absurd h (by omega)⟩
theorem U32s.drop_ {w : World} {g o n c : Nat} {l : List Nat} (h : U32s w (some ⟨g, o, none⟩) n c l) {k : Nat} (hk : k < n) : Reads w w.heap.size 1 (some ⟨g, o + k, none⟩) (n - k) (u32c (l.drop k)) := by
  refine ⟨by simp [u32c, h.1], fun _ => ?_⟩
  obtain ⟨g', o', hA, hg, hc⟩ := h.2.2.2.2 (by omega)
  cases hA
  refine ⟨_, rfl, hg, fun j u hu => ?_⟩
  simp only [u32c, List.getElem?_map, Option.map_eq_some_iff, List.getElem?_drop] at hu
  obtain ⟨x, hx, rfl⟩ := hu
  have := hc (k + j) x hx
  rw [show (⟨g, o + k, none⟩ : Addr).add j = ⟨g, o + (k + j), none⟩ by unfold Addr.add; split <;> simp_all [Nat.add_assoc]]
  exact this
theorem Reads.keepB {w w' : World} {B size n : Nat} {A : Option Addr} {xs : List Value} (h : Reads w B size A n xs) (hb : Below B w w') : Reads w' B size A n xs := h.below hb
theorem putN_eq {l : List Nat} {x : Nat} (h : x ∉ l) : putN l x = l.take (lowN l x) ++ x :: l.drop (lowN l x) := by
  unfold putN lowN
  rw [if_neg (by simpa using h)]
  have e := List.takeWhile_append_dropWhile (p := fun y => decide (y < x)) (l := l)
  have h1 : l.take (l.takeWhile (fun y => decide (y < x))).length = l.takeWhile (fun y => decide (y < x)) := by
    have := congrArg (List.take (l.takeWhile (fun y => decide (y < x))).length) e
    rw [List.take_left' rfl] at this
    exact this.symm
  have h2 : l.drop (l.takeWhile (fun y => decide (y < x))).length = l.dropWhile (fun y => decide (y < x)) := by
    have := congrArg (List.drop (l.takeWhile (fun y => decide (y < x))).length) e
    rw [List.drop_left' rfl] at this
    exact this.symm
  rw [h1, h2]

theorem step_append_one {P : Program} {w : World} {ops : Array Oper} {o : Oper} {a : Act} {K : Act → World → Prop} {Q : Exit → Act → World → Prop} {E : Prop} (hgd : o.guard = none) (s x : Operand) (t : TypeId)
    (ho : o.op = .call { callee := .builtin .append, args := #[s, x], argTypes := #[t, t] })
    (base : Nat) (e : TypeId) (i : TypeInfo) (z : Value) (bytes : Nat) (ht : P.underlying t = some (.slice e)) (hi : P.info? e = some i) (hz : i.zero = some z)
    (hsize : i.size = 1) (hby : i.bytes = bytes) (hzs : z.cells.size = 1)
    (v : Value) (n : Nat) (xs : List Value) (hs : a.eval s = v) (hown : w.ownsRow base e 1 v n xs)
    (g c : Nat) (u : Value) (hx : a.eval x = .slice (some ⟨g, 0, none⟩) 1 c) (hc : w.cell? ⟨g, 0, none⟩ = some u) (h1 : u.oneCell' = true)
    (h63 : n + 1 ≤ maxLen) (hbytes : (n + 1) * bytes ≤ 140737488355328) (hbase : base ≤ w.heap.size)
    (h : ∀ v' w', w'.ownsRow base e 1 v' (n + 1) (xs ++ [u]) → w.grownBy w' v.ownBlock → (v'.ownBlock = v.ownBlock ∨ v'.ownBlock = some w.heap.size) → K (a.put o.dst v') w') :
    if Region.wanted o (yielded ops a.tmps) = true then Oper.wp P o a w K Q else E :=
  step_append_any w hgd s x t ho base e i z 1 bytes ht hi hz hsize hby hzs (by decide) v n xs hs hown w.heap.size (some ⟨g, 0, none⟩) 1 c [u] hx (reads_one hc) (by simpa using h1) h63 hbytes hbase h
theorem own_made0 (w : World) : (w.alloc (.cells #[] 22)).ownsRow w.heap.size 22 1 (.slice (some ⟨w.heap.size, 0, none⟩) 0 0) 0 [] := World.ownsRow_made _ _ _ (Nat.le_refl _) (by simp [maxLen]) (by simp)
theorem own_made1 (w : World) (o : Obj) : ((w.alloc o).alloc (.cells #[] 22)).ownsRow w.heap.size 22 1 (.slice (some ⟨w.heap.size + 1, 0, none⟩) 0 0) 0 [] := by
  have := World.ownsRow_made (base := w.heap.size) (e := 22) (size := 1) (w.alloc o) #[] 0 (by simp) (by simp [maxLen]) (by simp)
  simpa using this
theorem lowN_first : ∀ {l : List Nat} {x i : Nat}, i ≤ l.length → (∀ k y, k < i → l[k]? = some y → y < x) → (∀ y, l[i]? = some y → ¬ y < x) → lowN l x = i
  | [], x, i, h, _, _ => by simp [lowN]; simp at h; omega
  | z :: l, x, 0, h, h1, h2 => by
    have := h2 z rfl
    unfold lowN
    rw [List.takeWhile_cons_of_neg (by simpa using this)]; rfl
  | z :: l, x, i + 1, h, h1, h2 => by
    have := h1 0 z (by omega) rfl
    have ih := lowN_first (l := l) (x := x) (i := i) (by simp at h; omega) (fun k y hk hy => h1 (k + 1) y (by omega) (by simpa using hy)) (fun y hy => h2 y (by simpa using hy))
    unfold lowN at ih ⊢
    rw [List.takeWhile_cons_of_pos (by simpa using this), List.length_cons, ih]
theorem put_end {w3 : World} {base k m x : Nat} {v3 : Value} {l : List Nat} (hx : x < 4294967296) (hl : ∀ y ∈ l, y < 4294967296) (hp : putN l x = l.take (lowN l x) ++ x :: l.drop (lowN l x)) (hk : lowN l x = k) (hm : 0 < m)
    (h : w3.ownsRow base 22 1 v3 m ([] ++ u32c (l.take k) ++ [.int .u32 (x : Int)] ++ u32c (l.drop k))) : ∃ g3 c3, v3 = .slice (some ⟨g3, 0, none⟩) m c3 ∧ U32s w3 (some ⟨g3, 0, none⟩) m c3 (putN l x) := by
  obtain ⟨A, c3, rfl⟩ := own_slice h
  obtain ⟨g3, cap, hv, _, _⟩ := h.form hm
  cases hv
  have e : [] ++ u32c (l.take k) ++ [.int .u32 (x : Int)] ++ u32c (l.drop k) = u32c (putN l x) := by rw [hp, hk]; simp [u32c]
  rw [e] at h
  refine ⟨g3, _, rfl, U32s.of_own h fun y hy => ?_⟩
  rcases (putN_mem l x y).1 hy with rfl | hy
  · exact hx
  · exact hl y hy
set_option maxRecDepth 100000 in
set_option maxHeartbeats 4000000 in
theorem refPut_any (g o n c : Nat) (l : List Nat) (x : Nat) (hx : x < 4294967296) (w : World) (h : U32s w (some ⟨g, o, none⟩) n c l) (hn : n ≤ 100000) :
    Calls Tryd.prog 82 #[.slice (some ⟨g, o, none⟩) n c, .int .u32 x] w fun e w' => ∃ g' o' n' c', e = .returned (.slice (some ⟨g', o', none⟩) n' c') ∧ U32s w' (some ⟨g', o', none⟩) n' c' (putN l x) ∧ Below w.heap.size w w' := by
  have hm := h.2.2.1
  have hnc := h.2.1
  unfold maxLen at hm
  have HU := hide h
  by_cases hin : x ∈ l
  · have hd := hide (show decide (x ∈ l) = true by simpa using hin)
    have hp := hide (show putN l x = l by unfold putN; rw [if_pos (by simpa using hin)])
    clear h hin
    go_enter Tryd.func82, Tryd.ntmps82
    go_wp2_with fail
    refine (refHas_any _ _ _ _ x _ HU.out).mono ?_
    rintro e w1 ⟨rfl, rfl⟩
    rw [hd.out]
    go_wp2
    go_ret
    exact ⟨_, _, _, _, rfl, by rw [hp.out]; exact HU.out, Below.refl _ _⟩
  · have hd := hide (show decide (x ∈ l) = false by simpa using hin)
    have hp := hide (putN_eq hin)
    obtain ⟨i0, hi, hz0, hz1, hz2⟩ := info_parts info32
    clear h hin
    go_enter Tryd.func82, Tryd.ntmps82
    go_wp2_with fail
    refine (refHas_any _ _ _ _ x _ HU.out).mono ?_
    rintro e w1 ⟨rfl, rfl⟩
    rw [hd.out]
    go_wp2
    go_loop [5] (fun i => ∃ k : Nat, k ≤ n ∧ i = .int .i64 k ∧ ∀ j y, j < k → l[j]? = some y → y < x) (fun i => n - (intOf i).toNat)
    case atStart => exact ⟨0, Nat.zero_le _, rfl, by omega⟩
    case round =>
      obtain ⟨k, hk, rfl, hlow⟩ := hrel
      have HN := hide hlow
      clear hlow
      have hTK := (HU.out.take_ hk).reads
      have HTK := hide hTK
      have HBW := hide (Below.refl w.heap.size w)
      clear hTK
      by_cases hlt : k < n
      · obtain ⟨g', o', y, hA, hg, hy, hy2, hc⟩ := HU.out.at_ hlt
        cases hA
        have HY := hide hy
        clear hy
        have HDK := hide (HU.out.drop_ hlt)
        by_cases hyx : y < x
        · go_wp2
          go_round
          case rel => exact ⟨k + 1, by omega, by go_num, fun j z hj hz => by
            rcases Nat.lt_or_ge j k with h | h
            · exact HN.out j z h hz
            · obtain rfl : j = k := by omega
              have := Option.some.inj (hz.symm.trans HY.out); omega⟩
          case measure => simp [intOf]; omega
        · go_wp2
          have hi0 : (0 : Int) ≤ (k : Int) := by omega
          have hi1 : (k : Int) ≤ (n : Int) := by omega
          have hi2 : (k : Int) ≤ (c : Int) := by omega
          have hi3 : (k : Int) < (c : Int) := by omega
          have hi4 : ¬ c = k := by omega
          have HK : Hid (lowN l x = k) := hide (lowN_first (by rw [HU.out.1]; omega) HN.out (fun z hz => by have := Option.some.inj (hz.symm.trans HY.out); omega))
          have hi5 : (n : Int) ≤ (c : Int) := by omega
          go_region_law (first
            | (refine step_append_any _ (by rfl) (.tmp 24) (.tmp 27) 27 (by rfl) w.heap.size 22 i0 _ 1 4 Tryd.underlying27 hi hz0 hz1 hz2 rfl (by decide) _ 0 [] (by rfl) ?_ w.heap.size _ _ _ (u32c (l.take k)) (by rfl) ?_ (u32c_one _) ?_ ?_ ?_ ?_
               · first | exact (own_made0 w).drew | exact ((own_made0 w).alloc _).drew | exact (own_made1 w _).drew
               · exact HTK.out.keepB (by repeat (first | exact Below.refl _ _ | exact HBW.out | refine Below.drew ?_ | refine Below.alloc ?_ (by first | exact Nat.le_refl _ | (simp; done) | (simp; omega) | omega) _))
               · unfold maxLen; omega
               · omega
               · refine Below.size (?_ : Below w.heap.size w _); repeat (first | exact Below.refl _ _ | exact HBW.out | refine Below.drew ?_ | refine Below.alloc ?_ (by first | exact Nat.le_refl _ | (simp; done) | (simp; omega) | omega) _)
               intro v1 w1 hown1 hgrow1 _; have hbw1 : Below w.heap.size w w1 := (by refine Below.grown ?_ hgrow1 ?_ ?_; (repeat (first | exact Below.refl _ _ | exact HBW.out | refine Below.drew ?_ | refine Below.alloc ?_ (by first | exact Nat.le_refl _ | (simp; done) | (simp; omega) | omega) _)); (refine Below.size (?_ : Below w.heap.size w _); repeat (first | exact Below.refl _ _ | exact HBW.out | refine Below.drew ?_ | refine Below.alloc ?_ (by first | exact Nat.le_refl _ | (simp; done) | (simp; omega) | omega) _)); (intro k hk; cases hk; first | exact Nat.le_refl _ | exact Nat.le_succ _)); have HBW := hide hbw1; have HG1 := hide hgrow1; have HO1 := hide hown1; have hlw := hbw1.size; have hgs := hgrow1.size; clear hown1 hgrow1 hbw1)
            | (refine step_append_one (by rfl) (.tmp 28) (.tmp 30) 27 (by rfl) w.heap.size 22 i0 _ 4 Tryd.underlying27 hi hz0 hz1 hz2 rfl _ (0 + k) ([] ++ u32c (l.take k)) (by rfl) ?_ _ _ (.int .u32 (x : Int)) (by rfl) ?_ (by rfl) ?_ ?_ ?_ ?_
               · first | exact HO1.out | exact HO1.out.alloc _ | exact HO1.out.drew | exact (HO1.out.alloc _).drew
               · first | (simp; done) | (rw [HG1.out.cell_far _ (by show _ < (World.alloc _ _).heap.size; first | (simp; done) | (simp; omega)) (show some (w.heap.size + 1) ≠ some w.heap.size by simp)]; simp; done) | (rw [HG1.out.cell_far _ (by show _ < (World.alloc _ _).heap.size; first | (simp; done) | (simp; omega)) (show some w.heap.size ≠ some (w.heap.size + 1) by simp)]; simp; done)
               · unfold maxLen; omega
               · omega
               · refine Below.size (?_ : Below w.heap.size w _); repeat (first | exact Below.refl _ _ | exact HBW.out | refine Below.drew ?_ | refine Below.alloc ?_ (by first | exact Nat.le_refl _ | (simp; done) | (simp; omega) | omega) _)
               intro v2 w2 hown2 hgrow2 _; have hbw2 : Below w.heap.size w w2 := (by refine Below.grown ?_ hgrow2 ?_ ?_; (repeat (first | exact Below.refl _ _ | exact HBW.out | refine Below.drew ?_ | refine Below.alloc ?_ (by first | exact Nat.le_refl _ | (simp; done) | (simp; omega) | omega) _)); (refine Below.size (?_ : Below w.heap.size w _); repeat (first | exact Below.refl _ _ | exact HBW.out | refine Below.drew ?_ | refine Below.alloc ?_ (by first | exact Nat.le_refl _ | (simp; done) | (simp; omega) | omega) _)); (intro k hk; have := HO1.out.lt k hk; omega)); have HBW := hide hbw2; have HO2 := hide hown2; have hlw2 := hbw2.size; clear hown2 hgrow2 hbw2)
            | (refine step_append_any _ (by rfl) (.tmp 31) (.tmp 34) 27 (by rfl) w.heap.size 22 i0 _ 1 4 Tryd.underlying27 hi hz0 hz1 hz2 rfl (by decide) _ (0 + k + 1) ([] ++ u32c (l.take k) ++ [.int .u32 (x : Int)]) (by rfl) ?_ w.heap.size _ _ _ (u32c (l.drop k)) (by rfl) ?_ (u32c_one _) ?_ ?_ ?_ ?_
               · exact HO2.out
               · exact HDK.out.keepB (by repeat (first | exact Below.refl _ _ | exact HBW.out | refine Below.drew ?_ | refine Below.alloc ?_ (by first | exact Nat.le_refl _ | (simp; done) | (simp; omega) | omega) _))
               · unfold maxLen; omega
               · omega
               · refine Below.size (?_ : Below w.heap.size w _); repeat (first | exact Below.refl _ _ | exact HBW.out | refine Below.drew ?_ | refine Below.alloc ?_ (by first | exact Nat.le_refl _ | (simp; done) | (simp; omega) | omega) _)
               intro v3 w3 hown3 hgrow3 _; have hbw3 : Below w.heap.size w w3 := (by refine Below.grown ?_ hgrow3 ?_ ?_; (repeat (first | exact Below.refl _ _ | exact HBW.out | refine Below.drew ?_ | refine Below.alloc ?_ (by first | exact Nat.le_refl _ | (simp; done) | (simp; omega) | omega) _)); (refine Below.size (?_ : Below w.heap.size w _); repeat (first | exact Below.refl _ _ | exact HBW.out | refine Below.drew ?_ | refine Below.alloc ?_ (by first | exact Nat.le_refl _ | (simp; done) | (simp; omega) | omega) _)); (intro k hk; have := HO2.out.lt k hk; omega)); have HBW := hide hbw3; have HO3 := hide hown3; clear hown3 hgrow3 hbw3)
            | fail)
          all_goals
            obtain ⟨g3, c3, rfl, hu3⟩ := put_end hx HU.out.2.2.2.1 hp.out HK.out (by omega) HO3.out
            have HU3 := hide hu3
            clear hu3
            go_wp2
            go_ret
            exact ⟨g3, 0, _, c3, rfl, by simpa using HU3.out, HBW.out⟩
      · obtain rfl : k = n := by omega
        have HDK : Hid (∀ A, Reads w w.heap.size 1 A 0 (u32c (l.drop k))) := hide (fun A => by
          rw [List.drop_of_length_le (by rw [HU.out.1]; exact Nat.le_refl _)]; exact reads_nil _ _ _ _)
        have HK : Hid (lowN l x = k) := hide (lowN_first (by rw [HU.out.1]; exact Nat.le_refl _) HN.out (fun y hy => by
          have := (List.getElem?_eq_some_iff.1 hy).1; have := HU.out.1; omega))
        go_wp2
        have hi0 : (0 : Int) ≤ (k : Int) := by omega
        have hi2 : (k : Int) ≤ (c : Int) := by omega
        go_region_law (first
          | (refine step_append_any _ (by rfl) (.tmp 24) (.tmp 27) 27 (by rfl) w.heap.size 22 i0 _ 1 4 Tryd.underlying27 hi hz0 hz1 hz2 rfl (by decide) _ 0 [] (by rfl) ?_ w.heap.size _ _ _ (u32c (l.take k)) (by rfl) ?_ (u32c_one _) ?_ ?_ ?_ ?_
             · first | exact (own_made0 w).drew | exact ((own_made0 w).alloc _).drew | exact (own_made1 w _).drew
             · exact HTK.out.keepB (by repeat (first | exact Below.refl _ _ | exact HBW.out | refine Below.drew ?_ | refine Below.alloc ?_ (by first | exact Nat.le_refl _ | (simp; done) | (simp; omega) | omega) _))
             · unfold maxLen; omega
             · omega
             · refine Below.size (?_ : Below w.heap.size w _); repeat (first | exact Below.refl _ _ | exact HBW.out | refine Below.drew ?_ | refine Below.alloc ?_ (by first | exact Nat.le_refl _ | (simp; done) | (simp; omega) | omega) _)
             intro v1 w1 hown1 hgrow1 _; have hbw1 : Below w.heap.size w w1 := (by refine Below.grown ?_ hgrow1 ?_ ?_; (repeat (first | exact Below.refl _ _ | exact HBW.out | refine Below.drew ?_ | refine Below.alloc ?_ (by first | exact Nat.le_refl _ | (simp; done) | (simp; omega) | omega) _)); (refine Below.size (?_ : Below w.heap.size w _); repeat (first | exact Below.refl _ _ | exact HBW.out | refine Below.drew ?_ | refine Below.alloc ?_ (by first | exact Nat.le_refl _ | (simp; done) | (simp; omega) | omega) _)); (intro k hk; cases hk; first | exact Nat.le_refl _ | exact Nat.le_succ _)); have HBW := hide hbw1; have HG1 := hide hgrow1; have HO1 := hide hown1; have hlw := hbw1.size; have hgs := hgrow1.size; clear hown1 hgrow1 hbw1)
          | (refine step_append_one (by rfl) (.tmp 28) (.tmp 30) 27 (by rfl) w.heap.size 22 i0 _ 4 Tryd.underlying27 hi hz0 hz1 hz2 rfl _ (0 + k) ([] ++ u32c (l.take k)) (by rfl) ?_ _ _ (.int .u32 (x : Int)) (by rfl) ?_ (by rfl) ?_ ?_ ?_ ?_
             · first | exact HO1.out | exact HO1.out.alloc _ | exact HO1.out.drew | exact (HO1.out.alloc _).drew
             · first | (simp; done) | (rw [HG1.out.cell_far _ (by show _ < (World.alloc _ _).heap.size; first | (simp; done) | (simp; omega)) (show some (w.heap.size + 1) ≠ some w.heap.size by simp)]; simp; done) | (rw [HG1.out.cell_far _ (by show _ < (World.alloc _ _).heap.size; first | (simp; done) | (simp; omega)) (show some w.heap.size ≠ some (w.heap.size + 1) by simp)]; simp; done)
             · unfold maxLen; omega
             · omega
             · refine Below.size (?_ : Below w.heap.size w _); repeat (first | exact Below.refl _ _ | exact HBW.out | refine Below.drew ?_ | refine Below.alloc ?_ (by first | exact Nat.le_refl _ | (simp; done) | (simp; omega) | omega) _)
             intro v2 w2 hown2 hgrow2 _; have hbw2 : Below w.heap.size w w2 := (by refine Below.grown ?_ hgrow2 ?_ ?_; (repeat (first | exact Below.refl _ _ | exact HBW.out | refine Below.drew ?_ | refine Below.alloc ?_ (by first | exact Nat.le_refl _ | (simp; done) | (simp; omega) | omega) _)); (refine Below.size (?_ : Below w.heap.size w _); repeat (first | exact Below.refl _ _ | exact HBW.out | refine Below.drew ?_ | refine Below.alloc ?_ (by first | exact Nat.le_refl _ | (simp; done) | (simp; omega) | omega) _)); (intro k hk; have := HO1.out.lt k hk; omega)); have HBW := hide hbw2; have HO2 := hide hown2; have hlw2 := hbw2.size; clear hown2 hgrow2 hbw2)
          | (refine step_append_any _ (by rfl) (.tmp 31) (.tmp 34) 27 (by rfl) w.heap.size 22 i0 _ 1 4 Tryd.underlying27 hi hz0 hz1 hz2 rfl (by decide) _ (0 + k + 1) ([] ++ u32c (l.take k) ++ [.int .u32 (x : Int)]) (by rfl) ?_ w.heap.size _ _ _ (u32c (l.drop k)) (by rfl) ?_ (u32c_one _) ?_ ?_ ?_ ?_
             · exact HO2.out
             · exact (HDK.out _).keepB (by repeat (first | exact Below.refl _ _ | exact HBW.out | refine Below.drew ?_ | refine Below.alloc ?_ (by first | exact Nat.le_refl _ | (simp; done) | (simp; omega) | omega) _))
             · unfold maxLen; omega
             · omega
             · refine Below.size (?_ : Below w.heap.size w _); repeat (first | exact Below.refl _ _ | exact HBW.out | refine Below.drew ?_ | refine Below.alloc ?_ (by first | exact Nat.le_refl _ | (simp; done) | (simp; omega) | omega) _)
             intro v3 w3 hown3 hgrow3 _; have hbw3 : Below w.heap.size w w3 := (by refine Below.grown ?_ hgrow3 ?_ ?_; (repeat (first | exact Below.refl _ _ | exact HBW.out | refine Below.drew ?_ | refine Below.alloc ?_ (by first | exact Nat.le_refl _ | (simp; done) | (simp; omega) | omega) _)); (refine Below.size (?_ : Below w.heap.size w _); repeat (first | exact Below.refl _ _ | exact HBW.out | refine Below.drew ?_ | refine Below.alloc ?_ (by first | exact Nat.le_refl _ | (simp; done) | (simp; omega) | omega) _)); (intro k hk; have := HO2.out.lt k hk; omega)); have HBW := hide hbw3; have HO3 := hide hown3; clear hown3 hgrow3 hbw3)
          | fail)
        all_goals
          obtain ⟨g3, c3, rfl, hu3⟩ := put_end hx HU.out.2.2.2.1 hp.out HK.out (by omega) HO3.out
          have HU3 := hide hu3
          clear hu3
          go_wp2
          all_goals
            go_ret
            exact ⟨g3, 0, _, c3, rfl, by simpa using HU3.out, HBW.out⟩
end Go.Proofs.YtiibglkiakhfgaaDoor
