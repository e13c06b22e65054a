import Derived.Test.YtiibglkiakhfgaaDoorLines
import Derived.Test.YtiibglkiakhfgaaDoorLongPure
set_option linter.unusedSimpArgs false
set_option linter.unusedVariables false
namespace Go.Proofs.YtiibglkiakhfgaaDoor
open Go.RowKit
/-! ### Texts that come back from what they are written as: plain -/

/-- A byte that may stand in a word. -/
def inB (x : UInt8) : Bool := insideB (x.toNat : Int)
/-- A word: not empty, of bytes that may stand in one. -/
def WOk (w : List UInt8) : Prop := w ≠ [] ∧ ∀ x ∈ w, inB x = true

theorem byteAt_str (l : List UInt8) (k : Nat) : byteAt (str l) k = match l[k]? with | some x => (x.toNat : Int) | none => 0 := by
  unfold byteAt
  by_cases h : k < (str l).size
  · have h2 : k < l.length := by rw [str_size] at h; exact h
    rw [dif_pos h, List.getElem?_eq_getElem h2]
    simp [str, ByteArray.getElem_eq_getElem_data]
  · have h2 : ¬ k < l.length := by rw [str_size] at h; exact h
    rw [dif_neg h, List.getElem?_eq_none (by omega)]
theorem byteAt_app (a : List UInt8) (x : UInt8) (r : List UInt8) : byteAt (str (a ++ x :: r)) a.length = (x.toNat : Int) := by
  rw [byteAt_str]; simp
theorem inside_not_blank {c : Int} (h : insideB c = true) : blankB c = false ∧ c ≠ 35 ∧ c ≠ 10 ∧ c ≠ 32 := by
  unfold insideB at h
  simp at h
  obtain ⟨⟨h1, h2⟩, h3⟩ := h
  refine ⟨?_, h3, by omega, by omega⟩
  unfold blankB
  have e1 : (c == 32) = false := by simp; omega
  have e2 : (c == 9) = false := by simp; omega
  rw [e1, e2]; rfl

theorem wordEnd_app : ∀ (w a r : List UInt8), (∀ x ∈ w, inB x = true) → (r = [] ∨ ∃ r', r = 32 :: r') → wordEnd (str (a ++ (w ++ r))) a.length = a.length + w.length
  | [], a, r, _, hr => by
    rw [wordEnd_not]
    · simp
    · intro h
      rcases hr with rfl | ⟨r', rfl⟩
      · rw [str_size] at h; simp at h
      · rw [List.nil_append, byteAt_app]; rfl
  | x :: w, a, r, hw, hr => by
    have e : a ++ (x :: w ++ r) = (a ++ [x]) ++ (w ++ r) := by simp
    have h0 : byteAt (str (a ++ (x :: w ++ r))) a.length = (x.toNat : Int) := by rw [List.cons_append, byteAt_app]
    rw [wordEnd_in _ _ (by rw [str_size]; simp) (by rw [h0]; exact hw x (by simp)), e]
    have ih := wordEnd_app w (a ++ [x]) r (fun y hy => hw y (by simp [hy])) hr
    rw [List.length_append] at ih
    simp only [List.length_cons, List.length_nil] at ih ⊢
    rw [ih]; omega

theorem str_extract (b w r : List UInt8) : (str (b ++ (w ++ r))).extract b.length (b.length + w.length) = str w := by
  apply ByteArray.ext
  rw [ByteArray.data_extract]
  simp [str, List.extract]

/-- One word, then a blank or the end. -/
theorem cutW_step (b w r : List UInt8) (n : Nat) (hw : WOk w) (hr : r = [] ∨ ∃ r', r = 32 :: r') (hn : n ≠ 64) :
    cutW (str (b ++ (w ++ r))) b.length n = ((b.length, b.length + w.length) :: (cutW (str (b ++ (w ++ r))) (b.length + w.length) (n + 1)).1, (cutW (str (b ++ (w ++ r))) (b.length + w.length) (n + 1)).2) := by
  obtain ⟨x, w', rfl⟩ : ∃ x w', w = x :: w' := by
    cases w with
    | nil => exact absurd rfl hw.1
    | cons x w' => exact ⟨x, w', rfl⟩
  have hx : byteAt (str (b ++ (x :: w' ++ r))) b.length = (x.toNat : Int) := by rw [List.cons_append, byteAt_app]
  have hi : insideB (x.toNat : Int) = true := hw.2 x (by simp)
  have hsk : skipTo (str (b ++ (x :: w' ++ r))) b.length = b.length := skipTo_not _ _ (fun _ => by rw [hx]; exact (inside_not_blank hi).1)
  have hwe := wordEnd_app (x :: w') b r hw.2 hr
  have h1 : skipTo (str (b ++ (x :: w' ++ r))) b.length < (str (b ++ (x :: w' ++ r))).size ∧ byteAt (str (b ++ (x :: w' ++ r))) (skipTo (str (b ++ (x :: w' ++ r))) b.length) ≠ 35 := by
    rw [hsk, hx]
    exact ⟨by rw [str_size]; simp, (inside_not_blank hi).2.1⟩
  rw [cutW_word _ _ _ h1 (by rw [hsk, hwe]; simp) hn, hsk, hwe]

theorem joinTail_form (ws : List (List UInt8)) : Lib.joinTail [32] ws = [] ∨ ∃ r', Lib.joinTail [32] ws = 32 :: r' := by
  cases ws with
  | nil => left; simp [Lib.joinTail]
  | cons w ws => right; exact ⟨_, by simp [Lib.joinTail]; rfl⟩

/-- What was joined is cut into the same words. -/
theorem cut_tail : ∀ (ws : List (List UInt8)) (a : List UInt8) (n : Nat), (∀ w ∈ ws, WOk w) → n + ws.length ≤ 64 →
    (cutW (str (a ++ Lib.joinTail [32] ws)) a.length n).1.map (fun p => (str (a ++ Lib.joinTail [32] ws)).extract p.1 p.2) = ws.map str ∧ (cutW (str (a ++ Lib.joinTail [32] ws)) a.length n).2 = (0, 0)
  | [], a, n, _, _ => by
    have e : a ++ Lib.joinTail [32] ([] : List (List UInt8)) = a := by simp [Lib.joinTail]
    rw [e, cutW_end]
    · exact ⟨rfl, rfl⟩
    · rw [skipTo_not _ _ (fun h => by rw [str_size] at h; omega)]
      rintro ⟨h, _⟩
      rw [str_size] at h; omega
  | w :: ws, a, n, hw, hn => by
    have e : a ++ Lib.joinTail [32] (w :: ws) = (a ++ [32]) ++ (w ++ Lib.joinTail [32] ws) := by simp [Lib.joinTail]
    have e2 : a ++ Lib.joinTail [32] (w :: ws) = a ++ 32 :: (w ++ Lib.joinTail [32] ws) := by simp [Lib.joinTail]
    have hb : cutW (str (a ++ Lib.joinTail [32] (w :: ws))) a.length n = cutW (str (a ++ Lib.joinTail [32] (w :: ws))) (a.length + 1) n :=
      cutW_blank _ _ _ (by rw [e2, str_size]; simp) (by rw [e2, byteAt_app]; rfl)
    simp only [List.length_cons] at hn
    have hst := cutW_step (a ++ [32]) w (Lib.joinTail [32] ws) n (hw w (by simp)) (joinTail_form ws) (by omega)
    have ih := cut_tail ws (a ++ [32] ++ w) (n + 1) (fun x hx => hw x (by simp [hx])) (by omega)
    have e3 : a ++ [32] ++ w ++ Lib.joinTail [32] ws = (a ++ [32]) ++ (w ++ Lib.joinTail [32] ws) := by simp
    have hl1 : (a ++ [32]).length = a.length + 1 := by simp
    have hl2 : (a ++ [32] ++ w).length = a.length + 1 + w.length := by simp; omega
    rw [e3, hl2] at ih
    rw [hl1] at hst
    have hx := str_extract (a ++ [32]) w (Lib.joinTail [32] ws)
    rw [hl1] at hx
    rw [hb, e, hst]
    refine ⟨?_, ih.2⟩
    rw [List.map_cons, List.map_cons, ih.1, hx]

/-- The texts of a line's words. -/
def wtexts (p : List UInt8) : List (List UInt8) := (cutR (str p)).map (fun q => ((str p).extract q.1 q.2).data.toList)
theorem wtexts_len (p : List UInt8) : (wtexts p).length = (cutR (str p)).length := by simp [wtexts]
theorem wlist_texts (p : List UInt8) : (wlist (str p) (cutR (str p))).map (·.1) = (wtexts p).map str := by
  unfold wlist wtexts
  rw [List.map_map, List.map_map]
  exact List.map_congr_left (fun q _ => (str_of _).symm)

theorem cut_jw (ws : List (List UInt8)) (hw : ∀ w ∈ ws, WOk w) (hn : ws.length ≤ 64) : wtexts (jw ws) = ws ∧ (cutF (str (jw ws))).2 = 0 := by
  have key : (cutW (str (jw ws)) 0 0).1.map (fun p => (str (jw ws)).extract p.1 p.2) = ws.map str ∧ (cutW (str (jw ws)) 0 0).2 = (0, 0) := by
    cases ws with
    | nil =>
      have h := cut_tail [] [] 0 (by simp) (by simp)
      simpa [Lib.joinTail, jw, Lib.join_nil] using h
    | cons w ws =>
      have e : jw (w :: ws) = [] ++ (w ++ Lib.joinTail [32] ws) := by unfold jw; rw [Lib.join_cons]; rfl
      simp only [List.length_cons] at hn
      have hst := cutW_step [] w (Lib.joinTail [32] ws) 0 (hw w (by simp)) (joinTail_form ws) (by omega)
      have ih := cut_tail ws w 1 (fun x hx => hw x (by simp [hx])) (by omega)
      have hx := str_extract [] w (Lib.joinTail [32] ws)
      simp only [List.length_nil, Nat.zero_add, List.nil_append] at hst ih hx
      rw [e, List.nil_append, hst]
      refine ⟨?_, ih.2⟩
      rw [List.map_cons, List.map_cons, ih.1, hx]
  have hf : (cutF (str (jw ws))).2 = 0 := by unfold cutF; rw [key.2]
  refine ⟨?_, hf⟩
  have hr : cutR (str (jw ws)) = (cutW (str (jw ws)) 0 0).1 := by unfold cutR; rw [key.2]; rfl
  unfold wtexts
  rw [hr]
  have := congrArg (List.map (fun b : ByteArray => b.data.toList)) key.1
  rw [List.map_map, List.map_map] at this
  refine Eq.trans this ?_
  exact (List.map_congr_left (fun x _ => str_data x)).trans (List.map_id ws)

theorem wordEnd_inside (s : ByteArray) (i : Nat) : ∀ k, i ≤ k → k < wordEnd s i → insideB (byteAt s k) = true := by
  intro k h1 h2
  rw [wordEnd] at h2
  split at h2
  · rename_i h
    by_cases hk : k = i
    · subst hk; exact h.2
    · exact wordEnd_inside s (i + 1) k (by omega) h2
  · omega
termination_by s.size - i

theorem cutW_words (s : ByteArray) (i n : Nat) : ∀ p ∈ (cutW s i n).1, i ≤ p.1 ∧ p.1 < p.2 ∧ p.2 ≤ s.size ∧ ∀ k, p.1 ≤ k → k < p.2 → insideB (byteAt s k) = true := by
  intro p hp
  rw [cutW] at hp
  split at hp
  · rename_i h
    split at hp
    · rename_i h2
      split at hp
      · simp at hp
      · have hg := skipTo_ge s i
        have hle := wordEnd_le s (skipTo s i) (by omega)
        simp only [List.mem_cons] at hp
        rcases hp with rfl | hp
        · exact ⟨hg, h2, hle, wordEnd_inside s (skipTo s i)⟩
        · have := cutW_words s (wordEnd s (skipTo s i)) (n + 1) p hp
          exact ⟨by omega, this.2⟩
    · simp at hp
  · simp at hp
termination_by s.size - i
decreasing_by have := skipTo_ge s i; have := wordEnd_le s (skipTo s i) (by omega); omega

theorem cutW_sum (s : ByteArray) (i n : Nat) (hi : i ≤ s.size) : ((cutW s i n).1.map (fun p => p.2 - p.1)).sum + i ≤ s.size := by
  rw [cutW]
  split
  · rename_i h
    split
    · rename_i h2
      split
      · simp; omega
      · have hg := skipTo_ge s i
        have hle := wordEnd_le s (skipTo s i) (by omega)
        have := cutW_sum s (wordEnd s (skipTo s i)) (n + 1) hle
        simp only [List.map_cons, List.sum_cons]
        omega
    · simp; omega
  · simp; omega
termination_by s.size - i
decreasing_by have := skipTo_ge s i; have := wordEnd_le s (skipTo s i) (by omega); omega

theorem cutR_words (p : List UInt8) : ∀ q ∈ cutR (str p), q.1 < q.2 ∧ q.2 ≤ p.length ∧ ∀ k, q.1 ≤ k → k < q.2 → insideB (byteAt (str p) k) = true := by
  intro q hq
  unfold cutR at hq
  split at hq
  · have := cutW_words (str p) 0 0 q hq
    rw [str_size] at this
    exact ⟨this.2.1, this.2.2.1, this.2.2.2⟩
  · simp at hq

theorem ext_list (p : List UInt8) (a b : Nat) : ((str p).extract a b).data.toList = (p.drop a).take (b - a) := by
  rw [ByteArray.data_extract]; simp [str, List.extract]
theorem wtexts_ok (p : List UInt8) : ∀ w ∈ wtexts p, WOk w := by
  intro w hw
  unfold wtexts at hw
  rw [List.mem_map] at hw
  obtain ⟨q, hq, rfl⟩ := hw
  obtain ⟨h1, h2, h3⟩ := cutR_words p q hq
  rw [ext_list]
  constructor
  · intro h
    have := congrArg List.length h
    rw [List.length_take, List.length_drop] at this
    simp at this; omega
  · intro x hx
    obtain ⟨k, hk, rfl⟩ := List.getElem_of_mem hx
    rw [List.length_take, List.length_drop] at hk
    have := h3 (q.1 + k) (by omega) (by omega)
    rw [byteAt_str, List.getElem?_eq_getElem (by omega)] at this
    rw [List.getElem_take, List.getElem_drop]
    exact this
theorem wtexts_sum (p : List UInt8) : ((wtexts p).map List.length).sum ≤ p.length := by
  have h : ∀ l : List (Nat × Nat), (∀ q ∈ l, q.1 < q.2 ∧ q.2 ≤ p.length) → ((l.map (fun q => ((str p).extract q.1 q.2).data.toList)).map List.length).sum = (l.map (fun q => q.2 - q.1)).sum := by
    intro l hl
    rw [List.map_map]
    congr 1
    refine List.map_congr_left (fun q hq => ?_)
    obtain ⟨h1, h2⟩ := hl q hq
    show (((str p).extract q.1 q.2).data.toList).length = _
    rw [ext_list, List.length_take, List.length_drop]; omega
  unfold wtexts
  rw [h _ (fun q hq => ⟨(cutR_words p q hq).1, (cutR_words p q hq).2.1⟩)]
  unfold cutR
  split
  · have := cutW_sum (str p) 0 0 (Nat.zero_le _)
    rw [str_size] at this; omega
  · simp
theorem joinTail_len : ∀ ws : List (List UInt8), (Lib.joinTail [32] ws).length = (ws.map List.length).sum + ws.length
  | [] => by simp [Lib.joinTail]
  | w :: ws => by
    have := joinTail_len ws
    simp [Lib.joinTail] at this ⊢
    omega
theorem jw_len2 (ws : List (List UInt8)) : (jw ws).length ≤ (ws.map List.length).sum + ws.length := by
  cases ws with
  | nil => simp [jw, Lib.join_nil]
  | cons w ws =>
    unfold jw
    rw [Lib.join_cons, List.length_append, joinTail_len]
    simp; omega
theorem sum_ge (ws : List (List UInt8)) (h : ∀ w ∈ ws, WOk w) : ws.length ≤ (ws.map List.length).sum := by
  induction ws with
  | nil => simp
  | cons w ws ih =>
    have h1 := ih (fun x hx => h x (by simp [hx]))
    have h2 := (h w (by simp)).1
    have : w.length ≠ 0 := fun e => h2 (List.eq_nil_of_length_eq_zero e)
    simp; omega

/-- A line as it is written. -/
def lineT (p : List UInt8) : List UInt8 := jw (wtexts p) ++ [10]
theorem lineT_len (p : List UInt8) : (lineT p).length ≤ 2 * p.length + 1 := by
  have h1 := jw_len2 (wtexts p)
  have h2 := sum_ge (wtexts p) (wtexts_ok p)
  have h3 := wtexts_sum p
  unfold lineT
  simp; omega
def linesT (ps : List (List UInt8)) : List UInt8 := (ps.map lineT).flatten
theorem linesT_snoc (ps : List (List UInt8)) (p : List UInt8) : linesT (ps ++ [p]) = linesT ps ++ lineT p := by simp [linesT]
theorem pieces_sum (c : UInt8) : ∀ l : List UInt8, ((pieces c l).map (fun p => p.length + 1)).sum = l.length + 1
  | [] => by simp [pieces]
  | x :: l => by
    have ih := pieces_sum c l
    unfold pieces
    split
    · simp; omega
    · cases h : pieces c l with
      | nil => exact absurd h (pieces_ne c l)
      | cons a r =>
        rw [h] at ih
        simp at ih ⊢; omega
theorem keep_sum : ∀ (k : Nat) (ps : List (List UInt8)), (linesT ((keepN k ps).map (·.2))).length ≤ 2 * (ps.map (fun p => p.length + 1)).sum
  | _, [] => by simp [keepN, linesT]
  | k, p :: ps => by
    have ih := keep_sum (k + 1) ps
    have hl := lineT_len p
    rw [keepN]
    split
    · simp at ih ⊢; omega
    · simp [linesT] at ih ⊢; omega
theorem jw_no10 (ws : List (List UInt8)) (h : ∀ w ∈ ws, WOk w) : (10 : UInt8) ∉ jw ws := by
  have hw : ∀ w, WOk w → (10 : UInt8) ∉ w := fun w hw hm => by
    have := hw.2 10 hm
    revert this; decide
  have ht : ∀ ws : List (List UInt8), (∀ w ∈ ws, WOk w) → (10 : UInt8) ∉ Lib.joinTail [32] ws := by
    intro ws
    induction ws with
    | nil => simp [Lib.joinTail]
    | cons w ws ih =>
      intro h
      have h1 := ih (fun x hx => h x (by simp [hx]))
      have h2 := hw w (h w (by simp))
      simp [Lib.joinTail] at h1 ⊢
      exact ⟨h2, h1⟩
  cases ws with
  | nil => simp [jw, Lib.join_nil]
  | cons w ws =>
    unfold jw
    rw [Lib.join_cons, List.mem_append, not_or]
    exact ⟨hw w (h w (by simp)), ht ws (fun x hx => h x (by simp [hx]))⟩
theorem linesT_pieces : ∀ ps : List (List UInt8), pieces 10 (linesT ps) = ps.map (fun p => jw (wtexts p)) ++ [[]]
  | [] => by simp [linesT, pieces]
  | p :: ps => by
    have e : linesT (p :: ps) = jw (wtexts p) ++ 10 :: linesT ps := by simp [linesT, lineT]
    rw [e, pieces_cons_no (jw_no10 _ (wtexts_ok p)), linesT_pieces ps]; rfl
theorem cut_none : cutR (str []) = [] ∧ (cutF (str [])).2 = 0 := cut_e
theorem jwp_ne {p : List UInt8} (h : cutR (str p) ≠ []) (h64 : (cutR (str p)).length ≤ 64) : cutR (str (jw (wtexts p))) ≠ [] := by
  have hj := (cut_jw (wtexts p) (wtexts_ok p) (by rw [wtexts_len]; exact h64)).1
  intro e
  have := wtexts_len (jw (wtexts p))
  rw [hj, wtexts_len, e] at this
  exact h (List.eq_nil_of_length_eq_zero this)
theorem cutR_len64 (s : ByteArray) : (cutR s).length ≤ 64 := by
  unfold cutR
  split
  · have := cutW_len s 0 0 (by omega); omega
  · simp
theorem back_keep : ∀ (ps : List (List UInt8)) (k : Nat), (∀ p ∈ ps, cutR (str p) ≠ []) → keepN k (ps.map (fun p => jw (wtexts p)) ++ [[]]) = (ps.map (fun p => jw (wtexts p))).mapIdx (fun i q => (k + i + 1, q))
  | [], k, _ => by simp [keepN, cut_none.1]
  | p :: ps, k, h => by
    rw [List.map_cons, List.cons_append, keepN, if_neg (jwp_ne (h p (by simp)) (cutR_len64 _)), back_keep ps (k + 1) (fun x hx => h x (by simp [hx]))]
    rw [List.mapIdx_cons]
    simp only [Nat.add_zero, List.singleton_append]
    congr 1
    congr 1
    funext i q
    rw [show k + 1 + i + 1 = k + (i + 1) + 1 by omega]
theorem back_good (ps : List (List UInt8)) : ∀ x ∈ ps.map (fun p => jw (wtexts p)) ++ [[]], (cutF (str x)).2 = 0 := by
  intro x hx
  rcases List.mem_append.1 hx with hx | hx
  · rw [List.mem_map] at hx
    obtain ⟨p, _, rfl⟩ := hx
    exact (cut_jw (wtexts p) (wtexts_ok p) (by rw [wtexts_len]; exact cutR_len64 _)).2
  · rw [List.mem_singleton.1 hx]; exact cut_none.2
theorem keepN_ne : ∀ (k : Nat) (ps : List (List UInt8)), ∀ q ∈ keepN k ps, cutR (str q.2) ≠ []
  | _, [], q, hq => by simp [keepN] at hq
  | k, p :: ps, q, hq => by
    rw [keepN] at hq
    rcases List.mem_append.1 hq with hq | hq
    · split at hq
      · simp at hq
      · rw [List.mem_singleton.1 hq]; assumption
    · exact keepN_ne (k + 1) ps q hq
theorem take_snoc_g {α : Type} {l : List α} {k : Nat} {x : α} (h : l[k]? = some x) : l.take (k + 1) = l.take k ++ [x] := by rw [List.take_add_one, h]; rfl
/-- How far the reference has gone: the pieces behind it, where the next one begins, how far that has been seen. -/
def RL (s : List UInt8) (f i : Nat) (done : List (List UInt8)) : Prop := f ≤ i ∧ i ≤ s.length ∧ pieces 10 s = done ++ pieces 10 (s.drop f) ∧ (10 : UInt8) ∉ (s.drop f).take (i - f)
theorem RL.start (s : List UInt8) : RL s 0 0 [] := ⟨Nat.le_refl _, Nat.zero_le _, rfl, by simp⟩
theorem RL.step {s : List UInt8} {f i : Nat} {done : List (List UInt8)} (h : RL s f i done) {x : UInt8} (hx : s[i]? = some x) (h10 : x ≠ 10) : RL s f (i + 1) done := by
  obtain ⟨h1, h2, h3, h4⟩ := h
  have hi : i < s.length := (List.getElem?_eq_some_iff.1 hx).1
  refine ⟨by omega, by omega, h3, ?_⟩
  have e : i + 1 - f = (i - f) + 1 := by omega
  have hg : (s.drop f)[i - f]? = some x := by rw [List.getElem?_drop]; rw [show f + (i - f) = i by omega]; exact hx
  rw [e, take_snoc_g hg, List.mem_append, not_or]
  exact ⟨h4, by simp; exact fun h => h10 h.symm⟩
theorem RL.cut {s : List UInt8} {f i : Nat} {done : List (List UInt8)} (h : RL s f i done) (hx : s[i]? = some 10) : RL s (i + 1) (i + 1) (done ++ [(s.drop f).take (i - f)]) := by
  obtain ⟨h1, h2, h3, h4⟩ := h
  have hi : i < s.length := (List.getElem?_eq_some_iff.1 hx).1
  refine ⟨Nat.le_refl _, by omega, ?_, by simp⟩
  have hg : (s.drop f)[i - f]? = some 10 := by rw [List.getElem?_drop]; rw [show f + (i - f) = i by omega]; exact hx
  have hd : s.drop f = (s.drop f).take (i - f) ++ 10 :: s.drop (i + 1) := by
    have hl : i - f < (s.drop f).length := by rw [List.length_drop]; omega
    conv => lhs; rw [← List.take_append_drop (i - f) (s.drop f)]
    congr 1
    rw [List.drop_eq_getElem_cons hl, List.drop_drop]
    have : (s.drop f)[i - f] = 10 := by
      have := List.getElem?_eq_getElem hl
      rw [hg] at this; injection this with this; exact this.symm
    rw [this, show f + (i - f + 1) = i + 1 by omega]
  rw [h3, List.append_assoc]
  congr 1
  conv => lhs; rw [hd]
  rw [pieces_cons_no h4]; rfl
theorem RL.done {s : List UInt8} {f : Nat} {done : List (List UInt8)} (h : RL s f s.length done) : pieces 10 s = done ++ [(s.drop f).take (s.length - f)] := by
  obtain ⟨h1, h2, h3, h4⟩ := h
  rw [h3]
  congr 1
  have e : (s.drop f).take (s.length - f) = s.drop f := List.take_of_length_le (by simp)
  rw [e] at h4 ⊢
  exact pieces_no h4
theorem RL.len {s : List UInt8} {f i : Nat} {done : List (List UInt8)} (h : RL s f i done) : done.length ≤ s.length + 1 := by
  have h1 := pieces_len 10 s
  rw [h.2.2.1] at h1
  simp at h1; omega
/-- The first line that errs is one. -/
theorem first_bad {α : Type} {p : α → Prop} {l a b : List α} {x y : α} {c d : List α} (h1 : l = a ++ x :: c) (h2 : l = b ++ y :: d) (ha : ∀ z ∈ a, p z) (hb : ∀ z ∈ b, p z) (hx : ¬ p x) (hy : ¬ p y) : a = b ∧ x = y := by
  subst h1
  induction a generalizing b with
  | nil =>
    cases b with
    | nil => simp at h2; exact ⟨rfl, h2.1⟩
    | cons z b => simp at h2; rw [h2.1] at hx; exact absurd (hb z (by simp)) hx
  | cons z a ih =>
    cases b with
    | nil => simp at h2; rw [← h2.1] at hy; exact absurd (ha z (by simp)) hy
    | cons u b =>
      simp at h2
      obtain ⟨rfl, h2⟩ := h2
      obtain ⟨rfl, rfl⟩ := ih (fun q hq => ha q (by simp [hq])) (fun q hq => hb q (by simp [hq])) h2
      exact ⟨rfl, rfl⟩

/-- A list of lines that lies in memory, the words of each too. -/
def LinesAt (w : World) (A : Option Addr) (n : Nat) (rs : List LRow) : Prop :=
  rs.length = n ∧ (0 < n → ∃ g, A = some ⟨g, 0, none⟩ ∧ g < w.heap.size ∧ ∀ (k : Nat) (r : LRow), rs[k]? = some r → w.cell? ⟨g, k * 2, none⟩ = some (.int .i64 (r.n : Int)) ∧ w.cell? ⟨g, k * 2 + 1, none⟩ = some r.val) ∧
  ∀ r ∈ rs, WordsAt w r.A (cutR (str r.p)).length (wlist (str r.p) (cutR (str r.p)))
theorem lcells_at (rs : List LRow) (k : Nat) (r : LRow) (h : rs[k]? = some r) : (lcells rs)[k * 2]? = some (.int .i64 (r.n : Int)) ∧ (lcells rs)[k * 2 + 1]? = some r.val := by
  induction rs generalizing k with
  | nil => simp at h
  | cons q l ih =>
    cases k with
    | zero => simp at h; subst h; simp [lcells, LRow.cells]
    | succ k =>
      have := ih k (by simpa using h)
      have e : (k + 1) * 2 = k * 2 + 2 := by omega
      rw [e]
      simpa [lcells, LRow.cells] using this
theorem linesAt_of {w : World} {base n c : Nat} {A : Option Addr} {rs : List LRow} (h : w.ownsRow base 62 2 (.slice A n c) n (lcells rs)) (hn : rs.length = n) (hw : LWords base w rs) : LinesAt w A n rs := by
  refine ⟨hn, fun h0 => ?_, fun r hr => wordsAt_of_own (hw r hr)⟩
  rcases h.2 with ⟨hv, h1⟩ | ⟨g, cap, cur, hv, _⟩
  · have h2 := h.1
    rw [h1] at h2
    simp at h2; omega
  · injection hv with hA
    subst hA
    have hlt := (h.lt g (by simp [Value.ownBlock])).2
    refine ⟨g, rfl, hlt, fun k r hk => ?_⟩
    obtain ⟨a, b⟩ := lcells_at rs k r hk
    have h1 := h.cells (g := g) rfl _ _ a
    have h2 := h.cells (g := g) rfl _ _ b
    have e : ∀ j, (⟨g, 0, none⟩ : Addr).add j = ⟨g, j, none⟩ := fun j => by unfold Addr.add; split <;> simp_all
    rw [e] at h1 h2
    exact ⟨h1, h2⟩
theorem LinesAt.below {w w' : World} {A : Option Addr} {n : Nat} {rs : List LRow} (h : LinesAt w A n rs) (hb : Below w.heap.size w w') : LinesAt w' A n rs := by
  refine ⟨h.1, fun hn => ?_, fun r hr => (h.2.2 r hr).below hb⟩
  obtain ⟨g, hA, hg, hc⟩ := h.2.1 hn
  refine ⟨g, hA, Nat.lt_of_lt_of_le hg hb.size, fun k r hk => ?_⟩
  obtain ⟨a, b⟩ := hc k r hk
  exact ⟨(hb.cell (by exact hg)).trans a, (hb.cell (by exact hg)).trans b⟩
theorem LinesAt.at_ {w : World} {A : Option Addr} {n : Nat} {rs : List LRow} (h : LinesAt w A n rs) {k : Nat} (hk : k < n) :
    ∃ g r, A = some ⟨g, 0, none⟩ ∧ g < w.heap.size ∧ rs[k]? = some r ∧ w.cell? ⟨g, k * 2, none⟩ = some (.int .i64 (r.n : Int)) ∧ w.cell? ⟨g, k * 2 + 1, none⟩ = some r.val ∧ WordsAt w r.A (cutR (str r.p)).length (wlist (str r.p) (cutR (str r.p))) := by
  obtain ⟨g, hA, hg, hc⟩ := h.2.1 (by omega)
  have hx : rs[k]? = some (rs[k]'(by rw [h.1]; exact hk)) := List.getElem?_eq_getElem _
  obtain ⟨a, b⟩ := hc k _ hx
  exact ⟨g, _, hA, hg, hx, a, b, h.2.2 _ (List.getElem_mem _)⟩
/-- What the lines of a text come to. -/
def LinesQ (s : List UInt8) (w : World) (e : Ending) (w' : World) : Prop :=
  Below w.heap.size w w' ∧
  ((∃ pre p post, pieces 10 s = pre ++ p :: post ∧ (∀ x ∈ pre, (cutF (str x)).2 = 0) ∧ (cutF (str p)).2 ≠ 0 ∧
      e = .returned (.tuple #[.slice none 0 0, .agg #[.int .i64 ((pre.length + 1 : Nat) : Int), .int .i64 ((cutF (str p)).1 : Nat), .int .i64 ((cutF (str p)).2 : Nat)]])) ∨
   (∃ (A : Option Addr) (c : Nat) (rs : List LRow), (∀ x ∈ pieces 10 s, (cutF (str x)).2 = 0) ∧ rs.map (fun r => (r.n, r.p)) = keepN 0 (pieces 10 s) ∧
      e = .returned (.tuple #[.slice A rs.length c, .agg #[.int .i64 0, .int .i64 0, .int .i64 0]]) ∧ LinesAt w' A rs.length rs))
theorem lines_anyQ (s : List UInt8) (hs : s.length ≤ 100000) (hc : s.count 10 ≤ 2000) (w : World) : Calls Tryd.prog 26 #[.string (str s)] w (LinesQ s w) := by
  refine (lines_any s hs hc w).mono ?_
  rintro e w' ⟨hb, h | ⟨A, c, rs, h1, h2, h3, h4, h5⟩⟩
  · exact ⟨hb, .inl h⟩
  · exact ⟨hb, .inr ⟨A, c, rs, h1, h2, h3, linesAt_of h4 rfl h5⟩⟩
end Go.Proofs.YtiibglkiakhfgaaDoor
