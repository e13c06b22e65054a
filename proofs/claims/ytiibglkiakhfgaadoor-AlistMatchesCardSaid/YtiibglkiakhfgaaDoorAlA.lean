import Derived.Test.YtiibglkiakhfgaaDoorLexJoin
import Derived.Test.YtiibglkiakhfgaaDoorCommAllB
import Derived.OwnWalk
set_option linter.unusedSimpArgs false
set_option linter.unusedVariables false
namespace Go.Proofs.YtiibglkiakhfgaaDoor
open Go.RowKit
/-! ### Patterns of pieces: plain -/

def starP (t : Int × Nat) : Bool := t.1 == 3
def oneP (t : Int × Nat) (item : List Nat) : Bool := (t.1 == 2) || ((t.1 == 1) && item.contains t.2)
/-- Whether the first i pieces are the first k items. -/
def Mt (t : Nat → Int × Nat) (l : Nat → List Nat) : Nat → Nat → Bool
  | 0, 0 => true
  | 0, _ + 1 => false
  | i + 1, 0 => starP (t i) && Mt t l i 0
  | i + 1, k + 1 => if starP (t i) = true then Mt t l i (k + 1) || Mt t l (i + 1) k else Mt t l i k && oneP (t i) (l k)
theorem Mt_star {t : Nat → Int × Nat} {l : Nat → List Nat} {i : Nat} (h : starP (t i) = true) : ∀ k, Mt t l i k = true → Mt t l (i + 1) k = true
  | 0, h1 => by rw [Mt, h, h1]; rfl
  | k + 1, h1 => by rw [Mt, if_pos h, h1]; rfl
theorem Mt_congr {t t' : Nat → Int × Nat} {l l' : Nat → List Nat} : ∀ (i k : Nat), (∀ j, j < i → t j = t' j) → (∀ j, j < k → l j = l' j) → Mt t l i k = Mt t' l' i k
  | 0, 0, _, _ => by rw [Mt, Mt]
  | 0, k + 1, _, _ => by rw [Mt, Mt]
  | i + 1, 0, h, _ => by rw [Mt, Mt, h i (by omega), Mt_congr i 0 (fun j hj => h j (by omega)) (fun j hj => by omega)]
  | i + 1, k + 1, h, h2 => by
    rw [Mt, Mt, h i (by omega), h2 k (by omega), Mt_congr i (k + 1) (fun j hj => h j (by omega)) h2, Mt_congr i k (fun j hj => h j (by omega)) (fun j hj => h2 j (by omega)), Mt_congr (i + 1) k h (fun j hj => h2 j (by omega))]

/-- Whether behind k items the next piece may be the i-th: a star may have been passed already. -/
def Ap (t : Nat → Int × Nat) (l : Nat → List Nat) (n i k : Nat) : Bool := Mt t l i k || (decide (i < n) && starP (t i) && Mt t l (i + 1) k)
theorem Ap_last (t : Nat → Int × Nat) (l : Nat → List Nat) (n k : Nat) : Ap t l n n k = Mt t l n k := by simp [Ap]
/-- The row behind an item, ahead of the passing. -/
def Bt (t : Nat → Int × Nat) (l : Nat → List Nat) (n k : Nat) : Nat → Bool
  | 0 => decide (0 < n) && starP (t 0) && Ap t l n 0 k
  | i + 1 => (decide (i + 1 < n) && starP (t (i + 1)) && Ap t l n (i + 1) k) || (Ap t l n i k && !starP (t i) && oneP (t i) (l k))
theorem pass0 (t : Nat → Int × Nat) (l : Nat → List Nat) (n : Nat) : ∀ i, i ≤ n → Ap t l n i 0 = Mt t l i 0 := by
  intro i hi
  unfold Ap
  cases hs : starP (t i) <;> cases hm : Mt t l i 0 <;> simp [Mt, hs, hm]
theorem pass0_succ (t : Nat → Int × Nat) (l : Nat → List Nat) (n i : Nat) (hi : i < n) : Ap t l n (i + 1) 0 = (false || (Ap t l n i 0 && starP (t i))) := by
  rw [pass0 t l n _ hi, pass0 t l n _ (by omega), Mt, Bool.false_or, Bool.and_comm]
theorem passK_zero (t : Nat → Int × Nat) (l : Nat → List Nat) (n k : Nat) : Ap t l n 0 (k + 1) = Bt t l n k 0 := by
  unfold Bt Ap
  have h := fun h => Mt_star (t := t) (l := l) (i := 0) h k
  cases hs : starP (t 0)
  · simp [Mt]
  · have h := h hs
    cases hm : Mt t l 0 k <;> cases hm1 : Mt t l 1 k <;> simp [Mt, hs, hm1, hm] at h ⊢
theorem passK_succ (t : Nat → Int × Nat) (l : Nat → List Nat) (n k i : Nat) (hi : i < n) : Ap t l n (i + 1) (k + 1) = (Bt t l n k (i + 1) || (Ap t l n i (k + 1) && starP (t i))) := by
  have h1 := fun h => Mt_star (t := t) (l := l) (i := i) h (k + 1)
  have h2 := fun h => Mt_star (t := t) (l := l) (i := i + 1) h k
  have e1 : Mt t l (i + 1) (k + 1) = if starP (t i) = true then Mt t l i (k + 1) || Mt t l (i + 1) k else Mt t l i k && oneP (t i) (l k) := by rw [Mt]
  have e2 : Mt t l (i + 1 + 1) (k + 1) = if starP (t (i + 1)) = true then Mt t l (i + 1) (k + 1) || Mt t l (i + 1 + 1) k else Mt t l (i + 1) k && oneP (t (i + 1)) (l k) := by rw [Mt]
  unfold Bt Ap
  rw [decide_eq_true hi]
  clear hi
  by_cases hdd : i + 1 < n <;>
  cases hs : starP (t i) <;> cases hs2 : starP (t (i + 1)) <;> rw [hs] at e1 h1 <;> rw [hs2] at e2 h2 <;> simp only [if_true, if_false, Bool.false_eq_true] at e1 e2 <;>
    rw [e2] <;> (try rw [e1]) <;> cases ha : Mt t l i k <;> cases hb : Mt t l i (k + 1) <;> cases hc : Mt t l (i + 1) k <;> cases hd : Mt t l (i + 1 + 1) k <;> cases ho : oneP (t i) (l k) <;>
    simp_all
theorem Mt_one_star {t : Nat → Int × Nat} {l : Nat → List Nat} (h : starP (t 0) = true) : ∀ k, Mt t l 1 k = true
  | 0 => by rw [Mt, h, Mt]; rfl
  | k + 1 => by rw [Mt, if_pos h, Mt_one_star h k, Bool.or_true]
/-- A star ahead. -/
theorem Mt_ahead {t t' : Nat → Int × Nat} {l : Nat → List Nat} (h0 : starP (t' 0) = true) (h : ∀ i, t' (i + 1) = t i) : ∀ (i k : Nat), Mt t l i k = true → Mt t' l (i + 1) k = true
  | 0, k, _ => Mt_one_star h0 k
  | i + 1, 0, hm => by
    rw [Mt] at hm ⊢
    rw [h]
    simp only [Bool.and_eq_true] at hm ⊢
    exact ⟨hm.1, Mt_ahead h0 h i 0 hm.2⟩
  | i + 1, k + 1, hm => by
    rw [Mt] at hm ⊢
    rw [h]
    split at hm
    · rename_i hs
      rw [if_pos hs]
      simp only [Bool.or_eq_true] at hm ⊢
      rcases hm with hm | hm
      · exact .inl (Mt_ahead h0 h i (k + 1) hm)
      · exact .inr (Mt_ahead h0 h (i + 1) k hm)
    · rename_i hs
      rw [if_neg hs]
      simp only [Bool.and_eq_true] at hm ⊢
      exact ⟨Mt_ahead h0 h i k hm.1, hm.2⟩

def tkP (ts : List (Int × Nat)) (i : Nat) : Int × Nat := ts.getD i (0, 0)
def itP (ls : List (List Nat)) (k : Nat) : List Nat := ls.getD k []
def MatchP (ts : List (Int × Nat)) (ls : List (List Nat)) : Bool := Mt (tkP ts) (itP ls) ts.length ls.length
theorem match_star (ls : List (List Nat)) : MatchP [(3, 0)] ls = true := Mt_one_star rfl _
theorem match_ahead {ts : List (Int × Nat)} {ls : List (List Nat)} (h : MatchP ts ls = true) : MatchP ((3, 0) :: ts) ls = true :=
  Mt_ahead (t' := tkP ((3, 0) :: ts)) rfl (fun i => by simp [tkP]) _ _ h
theorem match_behind {ts : List (Int × Nat)} {ls : List (List Nat)} (h : MatchP ts ls = true) : MatchP (ts ++ [(3, 0)]) ls = true := by
  unfold MatchP
  rw [List.length_append]
  refine Mt_star (by simp [tkP, starP]) _ ?_
  rw [← h]
  exact Mt_congr _ _ (fun j hj => by simp [tkP, List.getD, List.getElem?_append_left hj]) (fun _ _ => rfl)
attribute [local go_sem] Oper.semAt_some
/-! ### Pieces and items in memory -/
def tokc (ts : List (Int × Nat)) : List Value := ts.flatMap fun t => [.int .i64 t.1, .int .u32 (t.2 : Int)]
theorem tokc_len (ts : List (Int × Nat)) : (tokc ts).length = ts.length * 2 := by
  induction ts with
  | nil => rfl
  | cons p l ih => simp only [tokc, List.flatMap_cons, List.length_append, List.length_cons, List.length_nil] at ih ⊢; omega
theorem tokc_at (ts : List (Int × Nat)) (k : Nat) (t : Int × Nat) (h : ts[k]? = some t) : (tokc ts)[k * 2]? = some (.int .i64 t.1) ∧ (tokc ts)[k * 2 + 1]? = some (.int .u32 (t.2 : Int)) := by
  induction ts generalizing k with
  | nil => simp at h
  | cons q l ih =>
    cases k with
    | zero => simp at h; subst h; simp [tokc]
    | succ k =>
      have := ih k (by simpa using h)
      have e : (k + 1) * 2 = k * 2 + 2 := by omega
      rw [e]
      simpa [tokc] using this
theorem tokc_app (a b : List (Int × Nat)) : tokc (a ++ b) = tokc a ++ tokc b := by simp [tokc]
theorem tokc_one (ts : List (Int × Nat)) : ∀ u ∈ tokc ts, u.oneCell' = true := by
  intro u hu
  simp only [tokc, List.mem_flatMap] at hu
  obtain ⟨t, _, ht⟩ := hu
  simp at ht
  rcases ht with rfl | rfl <;> rfl
theorem tokInfo : (Tryd.prog.info? 83).map (fun i => (i.zero, i.size, i.bytes)) = some (some (.agg #[.int .i64 0, .int .u32 0]), 2, 16) := by kernel_rfl
theorem boolInfo : (Tryd.prog.info? 4).map (fun i => (i.zero, i.size, i.bytes)) = some (some (.bool false), 1, 1) := by kernel_rfl
theorem sliceInfo : (Tryd.prog.info? 27).map (fun i => (i.zero, i.size, i.bytes)) = some (some (.slice none 0 0), 1, 24) := by kernel_rfl

/-- Pieces, in a row of a call's own. -/
def TokAt (w : World) (A : Option Addr) (n c : Nat) (ts : List (Int × Nat)) : Prop :=
  ts.length = n ∧ n ≤ c ∧ c ≤ maxLen ∧ (∀ t ∈ ts, t.2 < 4294967296) ∧
    (0 < n → ∃ g, A = some ⟨g, 0, none⟩ ∧ g < w.heap.size ∧ ∀ (k : Nat) (t : Int × Nat), ts[k]? = some t → w.cell? ⟨g, k * 2, none⟩ = some (.int .i64 t.1) ∧ w.cell? ⟨g, k * 2 + 1, none⟩ = some (.int .u32 (t.2 : Int)))
theorem TokAt.below {w w' : World} {A : Option Addr} {n c : Nat} {ts : List (Int × Nat)} (h : TokAt w A n c ts) (hb : Below w.heap.size w w') : TokAt w' A n c ts := by
  refine ⟨h.1, h.2.1, h.2.2.1, h.2.2.2.1, fun hn => ?_⟩
  obtain ⟨g, hA, hg, hc⟩ := h.2.2.2.2 hn
  refine ⟨g, hA, Nat.lt_of_lt_of_le hg hb.size, fun k t hk => ?_⟩
  obtain ⟨a, b⟩ := hc k t hk
  exact ⟨(hb.cell (by exact hg)).trans a, (hb.cell (by exact hg)).trans b⟩
theorem TokAt.at_ {w : World} {A : Option Addr} {n c : Nat} {ts : List (Int × Nat)} (h : TokAt w A n c ts) {k : Nat} (hk : k < n) :
    ∃ (g : Nat) (kd : Int) (x : Nat), A = some ⟨g, 0, none⟩ ∧ g < w.heap.size ∧ ts[k]? = some (kd, x) ∧ tkP ts k = (kd, x) ∧ x < 4294967296 ∧ w.cell? ⟨g, k * 2, none⟩ = some (.int .i64 kd) ∧ w.cell? ⟨g, k * 2 + 1, none⟩ = some (.int .u32 (x : Int)) := by
  obtain ⟨g, hA, hg, hc⟩ := h.2.2.2.2 (by omega)
  have hx : ts[k]? = some (ts[k]'(by rw [h.1]; exact hk)) := List.getElem?_eq_getElem _
  obtain ⟨a, b⟩ := hc k _ hx
  refine ⟨g, _, _, hA, hg, hx, ?_, h.2.2.2.1 _ (List.getElem_mem _), a, b⟩
  unfold tkP List.getD
  rw [hx]; rfl
theorem TokAt.of_own {w : World} {base n c : Nat} {A : Option Addr} {ts : List (Int × Nat)} (h : w.ownsRow base 83 2 (.slice A n c) n (tokc ts)) (hb : ∀ t ∈ ts, t.2 < 4294967296) : TokAt w A n c ts := by
  have hl : ts.length = n := by have := h.1; rw [tokc_len] at this; omega
  rcases h.2 with ⟨hv, h0⟩ | ⟨g, cap, cur, hv, _, hh, hnc, hm, _⟩
  · injection hv with e1 e2 e3
    subst e2 e3
    exact ⟨hl, Nat.le_refl _, by simp [maxLen], hb, fun h => by omega⟩
  · injection hv with e1 _ e3
    subst e1 e3
    refine ⟨hl, hnc, hm, hb, fun _ => ⟨g, rfl, (Array.getElem?_eq_some_iff.1 hh).1, fun k t hk => ?_⟩⟩
    obtain ⟨a, b⟩ := tokc_at ts k t hk
    have h1 := h.cells (g := g) rfl _ _ a
    have h2 := h.cells (g := g) rfl _ _ b
    have e : ∀ j, (⟨g, 0, none⟩ : Addr).add j = ⟨g, j, none⟩ := fun j => by unfold Addr.add; split <;> simp_all
    rw [e] at h1 h2
    exact ⟨h1, h2⟩
/-- Items: lists of numbers. -/
def ItemsAt (w : World) (A : Option Addr) (n c : Nat) (ls : List (List Nat)) : Prop :=
  ls.length = n ∧ n ≤ c ∧ c ≤ maxLen ∧
    (0 < n → ∃ g o, A = some ⟨g, o, none⟩ ∧ g < w.heap.size ∧ ∀ (k : Nat) (x : List Nat), ls[k]? = some x → ∃ B m d, w.cell? ⟨g, o + k, none⟩ = some (.slice B m d) ∧ U32s w B m d x)
theorem ItemsAt.below {w w' : World} {A : Option Addr} {n c : Nat} {ls : List (List Nat)} (h : ItemsAt w A n c ls) (hb : Below w.heap.size w w') : ItemsAt w' A n c ls := by
  refine ⟨h.1, h.2.1, h.2.2.1, fun hn => ?_⟩
  obtain ⟨g, o, hA, hg, hc⟩ := h.2.2.2 hn
  refine ⟨g, o, hA, Nat.lt_of_lt_of_le hg hb.size, fun k x hk => ?_⟩
  obtain ⟨B, m, d, a, b⟩ := hc k x hk
  exact ⟨B, m, d, (hb.cell (by exact hg)).trans a, b.below hb⟩
theorem ItemsAt.at_ {w : World} {A : Option Addr} {n c : Nat} {ls : List (List Nat)} (h : ItemsAt w A n c ls) {k : Nat} (hk : k < n) :
    ∃ (g o : Nat) (x : List Nat) (B : Option Addr) (m d : Nat), A = some ⟨g, o, none⟩ ∧ g < w.heap.size ∧ ls[k]? = some x ∧ itP ls k = x ∧ w.cell? ⟨g, o + k, none⟩ = some (.slice B m d) ∧ U32s w B m d x := by
  obtain ⟨g, o, hA, hg, hc⟩ := h.2.2.2 (by omega)
  have hx : ls[k]? = some (ls[k]'(by rw [h.1]; exact hk)) := List.getElem?_eq_getElem _
  obtain ⟨B, m, d, a, b⟩ := hc k _ hx
  refine ⟨g, o, _, B, m, d, hA, hg, hx, ?_, a, b⟩
  unfold itP List.getD
  rw [hx]; rfl

/-! ### Small functions -/
set_option maxHeartbeats 400000 in
theorem index32_any (A : Option Addr) (n c : Nat) (l : List Nat) (x : Nat) (w : World) (h : U32s w A n c l) :
    Calls Tryd.prog 207 #[.slice A n c, .int .u32 x] w fun e w' => ∃ i : Int, e = .returned (.int .i64 i) ∧ decide (0 ≤ i) = decide (x ∈ l) ∧ w = w' := by
  have hm := h.2.2.1
  have hnc := h.2.1
  unfold maxLen at hm
  have HU := hide h
  clear h
  go_enter Tryd.func207, Tryd.ntmps207
  go_wp2
  go_loop [8] (fun i => ∃ k : Nat, k ≤ n ∧ i = .int .i64 k ∧ x ∉ l.take k) (fun i => n - (intOf i).toNat)
  case atStart => exact ⟨0, Nat.zero_le _, rfl, by simp⟩
  case round =>
    obtain ⟨k, hk, rfl, hno⟩ := hrel
    have HN := hide hno
    clear hno
    by_cases hlt : k < n
    · obtain ⟨g, o, y, rfl, hg, hy, hy2, hc⟩ := HU.out.at_ hlt
      by_cases hxy : x = y
      · have hin := hide (show decide ((0 : Int) ≤ (k : Int)) = decide (x ∈ l) by
          have : x ∈ l := List.mem_of_getElem? (hxy ▸ hy)
          simp [this])
        have he : ((x : Int) == (y : Int)) = true := by rw [hxy]; simp
        clear hxy hy
        go_wp2
        go_ret
        exact ⟨_, rfl, by first | exact hin.out | exact decide_eq_decide.1 hin.out, rfl⟩
      · have he : ((x : Int) == (y : Int)) = false := by simp; omega
        have hn2 := hide (show x ∉ l.take (k + 1) by
          rw [List.take_add_one, hy]
          have := HN.out
          simp only [List.mem_append, Option.toList_some, List.mem_singleton, not_or]
          exact ⟨this, hxy⟩)
        clear hxy hy
        go_wp2
        go_round
        case rel => exact ⟨k + 1, by omega, by go_num, hn2.out⟩
        case measure => simp [intOf]; omega
    · obtain rfl : k = n := by omega
      have hf := hide (show decide ((0 : Int) ≤ -1) = decide (x ∈ l) by
        have := HN.out
        rw [List.take_of_length_le (by rw [HU.out.1]; exact Nat.le_refl _)] at this
        simpa using this)
      go_wp2
      go_ret
      exact ⟨_, rfl, by first | exact hf.out | exact decide_eq_decide.1 hf.out, rfl⟩
theorem contains32_any (A : Option Addr) (n c : Nat) (l : List Nat) (x : Nat) (w : World) (h : U32s w A n c l) :
    Calls Tryd.prog 176 #[.slice A n c, .int .u32 x] w fun e w' => e = .returned (.bool (l.contains x)) ∧ w = w' := by
  have HI := hide (index32_any A n c l x w h)
  clear h
  go_enter Tryd.func176, Tryd.ntmps176
  go_wp2_with fail
  refine HI.out.mono ?_
  rintro e w1 ⟨i, rfl, hd, rfl⟩
  have HD := hide hd
  clear hd
  go_wp2
  go_ret
  exact ⟨ret_bool (by rw [HD.out]; simp), rfl⟩
theorem refHas_cont (A : Option Addr) (n c : Nat) (l : List Nat) (x : Nat) (w : World) (h : U32s w A n c l) :
    Calls Tryd.prog 25 #[.slice A n c, .int .u32 x] w fun e w' => e = .returned (.bool (l.contains x)) ∧ w = w' := by
  have := refHas_any A n c l x w h
  rwa [show decide (x ∈ l) = l.contains x by simp] at this

set_option maxHeartbeats 1000000 in
theorem one_any (kd : Int) (x : Nat) (A : Option Addr) (n c : Nat) (l : List Nat) (w : World) (h : U32s w A n c l) :
    Calls Tryd.prog 109 #[.agg #[.int .i64 kd, .int .u32 x], .slice A n c] w fun e w' => e = .returned (.bool (oneP (kd, x) l)) ∧ Below w.heap.size w w' := by
  have hal : Below w.heap.size w (w.alloc (.cells #[.int .i64 kd, .int .u32 (x : Int)] 83)) := (Below.refl _ w).alloc (Nat.le_refl _) _
  have HC := hide (refHas_cont A n c l x _ (h.below hal))
  have HB := hide hal
  clear h hal
  cases h2 : ((kd : Int) == 2)
  · cases h1 : ((kd : Int) == 1)
    · have HR := hide (show oneP (kd, x) l = false by simp [oneP, h2, h1])
      go_enter Tryd.func109, Tryd.ntmps109
      go_wp2
      go_ret
      exact ⟨ret_bool HR.out.symm, HB.out⟩
    · have HR := hide (show oneP (kd, x) l = l.contains x by simp [oneP, h2, h1])
      go_enter Tryd.func109, Tryd.ntmps109
      go_wp2_with fail
      refine HC.out.mono ?_
      rintro e w1 ⟨rfl, rfl⟩
      obtain ⟨b, hb⟩ : ∃ b, l.contains x = b := ⟨_, rfl⟩
      rw [hb] at HR ⊢
      clear hb
      go_wp2
      go_ret
      exact ⟨ret_bool HR.out.symm, HB.out⟩
  · have HR := hide (show oneP (kd, x) l = true by simp [oneP, h2])
    go_enter Tryd.func109, Tryd.ntmps109
    go_wp2
    go_ret
    exact ⟨ret_bool HR.out.symm, HB.out⟩
def takeP (t : Int × Nat) (l : List Nat) : Bool := starP t || oneP t l
set_option maxHeartbeats 1000000 in
theorem takes_any (kd : Int) (x : Nat) (A : Option Addr) (n c : Nat) (l : List Nat) (w : World) (h : U32s w A n c l) :
    Calls Tryd.prog 147 #[.agg #[.int .i64 kd, .int .u32 x], .slice A n c] w fun e w' => e = .returned (.bool (takeP (kd, x) l)) ∧ Below w.heap.size w w' := by
  have hal : Below w.heap.size w (w.alloc (.cells #[.int .i64 kd, .int .u32 (x : Int)] 83)) := (Below.refl _ w).alloc (Nat.le_refl _) _
  have HC := hide (contains32_any A n c l x _ (h.below hal))
  have HB := hide hal
  clear h hal
  cases h2 : ((kd : Int) == 2)
  · cases h3 : ((kd : Int) == 3)
    · cases h1 : ((kd : Int) == 1)
      · have HR := hide (show takeP (kd, x) l = false by simp [takeP, starP, oneP, h2, h1, h3])
        go_enter Tryd.func147, Tryd.ntmps147
        go_wp2
        go_ret
        exact ⟨ret_bool HR.out.symm, HB.out⟩
      · have HR := hide (show takeP (kd, x) l = l.contains x by simp [takeP, starP, oneP, h2, h1, h3])
        go_enter Tryd.func147, Tryd.ntmps147
        go_wp2_with fail
        refine HC.out.mono ?_
        rintro e w1 ⟨rfl, rfl⟩
        obtain ⟨b, hb⟩ : ∃ b, l.contains x = b := ⟨_, rfl⟩
        rw [hb] at HR ⊢
        clear hb
        go_wp2
        go_ret
        exact ⟨ret_bool HR.out.symm, HB.out⟩
    · have HR := hide (show takeP (kd, x) l = true by simp [takeP, starP, h3])
      go_enter Tryd.func147, Tryd.ntmps147
      go_wp2
      go_ret
      exact ⟨ret_bool HR.out.symm, HB.out⟩
  · have HR := hide (show takeP (kd, x) l = true by simp [takeP, oneP, h2])
    go_enter Tryd.func147, Tryd.ntmps147
    go_wp2
    go_ret
    exact ⟨ret_bool HR.out.symm, HB.out⟩
end Go.Proofs.YtiibglkiakhfgaaDoor
set_option linter.unusedSimpArgs false
set_option linter.unusedVariables false
namespace Go.Proofs.YtiibglkiakhfgaaDoor
open Go.RowKit
attribute [local go_sem] Oper.semAt_some
/-- Pieces that came in. -/
def TokR (w : World) (A : Option Addr) (n c : Nat) (ts : List (Int × Nat)) : Prop :=
  ts.length = n ∧ n ≤ c ∧ c ≤ maxLen ∧ (∀ t ∈ ts, t.2 < 4294967296) ∧ Reads w w.heap.size 2 A n (tokc ts)
theorem TokR.take_ {w : World} {A : Option Addr} {n c : Nat} {ts : List (Int × Nat)} (h : TokR w A n c ts) {m : Nat} (hm : m ≤ n) : Reads w w.heap.size 2 A m (tokc (ts.take m)) := by
  obtain ⟨h1, h2, h3, h4, h5⟩ := h
  refine ⟨by rw [tokc_len, List.length_take]; omega, fun h0 => ?_⟩
  obtain ⟨ad, hA, hb, hc⟩ := h5.2 (by omega)
  refine ⟨ad, hA, hb, fun j u hu => hc j u ?_⟩
  have e : tokc ts = tokc (ts.take m) ++ tokc (ts.drop m) := by rw [← tokc_app, List.take_append_drop]
  rw [e, List.getElem?_append_left (List.getElem?_eq_some_iff.1 hu).1]
  exact hu
theorem rule_end {w X w1 : World} {c0 c1 v : Value} {n : Nat} {xs : List Value} (hb0 : Below w.heap.size w X) (hg : X.grownBy w1 (some (w.heap.size + 2))) (hk : Blk w1 (w.heap.size + 1) 78 #[c0, c1]) (ho : w1.ownsRow w.heap.size 83 2 v n xs) (b v' : Value) :
    Blk ((w1.setCell ⟨w.heap.size + 1, 0, none⟩ b).setCell ⟨w.heap.size + 1, 1, none⟩ v') (w.heap.size + 1) 78 #[b, v'] ∧
    ((w1.setCell ⟨w.heap.size + 1, 0, none⟩ b).setCell ⟨w.heap.size + 1, 1, none⟩ v').ownsRow w.heap.size 83 2 v n xs ∧
    Below w.heap.size w ((w1.setCell ⟨w.heap.size + 1, 0, none⟩ b).setCell ⟨w.heap.size + 1, 1, none⟩ v') := by
  have hne := own_blk_ne ho hk (by decide)
  refine ⟨(hk.set_ 0 b).set_ 1 v', own_set (own_set ho hne b) hne v', ?_⟩
  have hb : Below w.heap.size w w1 := hb0.grown hg hb0.size (fun k hk => by cases hk; omega)
  exact (hb.setCell (p := ⟨w.heap.size + 1, 0, none⟩) (by show w.heap.size ≤ w.heap.size + 1; omega) b).setCell (p := ⟨w.heap.size + 1, 1, none⟩) (by show w.heap.size ≤ w.heap.size + 1; omega) v'
set_option maxRecDepth 100000 in
set_option maxHeartbeats 2000000 in
theorem rule_any (b : Bool) (A : Option Addr) (n c : Nat) (ts : List (Int × Nat)) (w : World) (h : TokR w A n c ts) :
    Calls Tryd.prog 54 #[.agg #[.bool b, .slice A n c]] w fun e w' => ∃ v, e = .returned (.agg #[.bool b, v]) ∧ w'.ownsRow w.heap.size 83 2 v (ts.take 32).length (tokc (ts.take 32)) ∧ Below w.heap.size w w' := by
  obtain ⟨i0, hi, hz0, hz1, hz2⟩ := info_parts tokInfo
  have hn := h.2.2.1
  have hnc := h.2.1
  unfold maxLen at hn
  obtain ⟨m, hm, hmn, hm32, hml⟩ : ∃ m, (ts.take 32).length = m ∧ m ≤ n ∧ m ≤ 32 ∧ ((32 < n ∧ m = 32) ∨ (n ≤ 32 ∧ m = n)) := ⟨_, rfl, by rw [List.length_take, h.1]; omega, by rw [List.length_take]; omega, by rw [List.length_take, h.1]; omega⟩
  have HR : Hid (Reads w w.heap.size 2 A m (tokc (ts.take 32))) := hide (by
    have h1 := h.take_ hmn
    rcases hml with ⟨_, h2⟩ | ⟨h2, h3⟩
    · rw [h2] at h1 ⊢; exact h1
    · have e1 : ts.take 32 = ts := List.take_of_length_le (by rw [h.1]; exact h2)
      have e2 : ts.take m = ts := List.take_of_length_le (by rw [h.1]; omega)
      rw [e1]; rw [e2] at h1; exact h1)
  have HX0 : Hid ((((w.alloc (.cells #[.bool b, .slice A n c] 78)).alloc (.cells #[.bool false, .slice none 0 0] 78)).alloc (.cells #[] 83)).ownsRow w.heap.size 83 2 (.slice (some ⟨w.heap.size + 2, 0, none⟩) 0 0) 0 []) := hide (by
    have := World.ownsRow_made (base := w.heap.size) (e := 83) (size := 2) ((w.alloc (.cells #[.bool b, .slice A n c] 78)).alloc (.cells #[.bool false, .slice none 0 0] 78)) #[] 0 (by simp; omega) (by simp [maxLen]) (by simp)
    simpa using this)
  have HB0 : Hid (Below w.heap.size w (((w.alloc (.cells #[.bool b, .slice A n c] 78)).alloc (.cells #[.bool false, .slice none 0 0] 78)).alloc (.cells #[] 83))) := hide ((((Below.refl _ w).alloc (Nat.le_refl _) _).alloc (by simp) _).alloc (by simp; omega) _)
  have HK : Hid (Blk (((w.alloc (.cells #[.bool b, .slice A n c] 78)).alloc (.cells #[.bool false, .slice none 0 0] 78)).alloc (.cells #[] 83)) (w.heap.size + 1) 78 #[.bool false, .slice none 0 0]) := hide ((blk_new' 78 #[.bool false, .slice none 0 0] (by simp)).alloc _)
  have HK0 : Hid (Blk (((w.alloc (.cells #[.bool b, .slice A n c] 78)).alloc (.cells #[.bool false, .slice none 0 0] 78)).alloc (.cells #[] 83)) w.heap.size 78 #[.bool b, .slice A n c]) := hide (((Blk.new w 78 #[.bool b, .slice A n c]).alloc _).alloc _)
  clear h
  rw [hm]
  clear hm
  have hmc : (m : Int) ≤ (c : Int) := by omega
  have hm0 : (0 : Int) ≤ (m : Int) := by omega
  rcases hml with ⟨h32, hme⟩ | ⟨h32, hme⟩
  · subst hme
    have hd : decide ((32 : Int) < (n : Int)) = true := by simp; omega
    have hc32 : (32 : Int) ≤ (c : Int) := by omega
    clear h32
    go_enter Tryd.func54, Tryd.ntmps54
    go_wp2
    go_region_law (first
      | (refine step_append_any _ (by rfl) (.tmp 11) (.tmp 15) 75 (by rfl) w.heap.size 83 i0 _ 2 16 Tryd.underlying75 hi hz0 hz1 hz2 rfl (by decide) (.slice (some ⟨w.heap.size + 2, 0, none⟩) 0 0) 0 [] (by rfl) ?_ w.heap.size _ _ _ (tokc (ts.take 32)) (by rfl) ?_ (tokc_one _) ?_ ?_ ?_ ?_
         · first | exact HX0.out | exact HX0.out.drew
         · exact HR.out.keepB (by first | exact HB0.out | exact HB0.out.drew)
         · unfold maxLen; omega
         · omega
         · simp; omega
         intro v1 w1 hown1 hgrow1 _; rw [Nat.zero_add, List.nil_append] at hown1; have hk1 : Blk w1 (w.heap.size + 1) 78 #[.bool false, .slice none 0 0] := (by refine Blk.grown (by first | exact HK.out | exact HK.out.drew) hgrow1 (by simp [Value.ownBlock])); have hk0 : Blk w1 w.heap.size 78 #[.bool b, .slice A n c] := (by refine Blk.grown (by first | exact HK0.out | exact HK0.out.drew) hgrow1 (by simp [Value.ownBlock])); have x0 := hk0.cell 0; have x1 := hk0.cell 1; have z0 := hk1.cell 0; have z1 := hk1.cell 1; have y0 := hk1.frozen 0; have y1 := hk1.frozen 1; have zl := hk1.lt; have HO1 := hide hown1; have HG1 := hide hgrow1; have HK1 := hide hk1; obtain ⟨A1, c1, rfl⟩ := own_slice hown1; clear hown1 hgrow1 hk1 hk0)
      | fail)
    all_goals
      have HE := hide (rule_end (by first | exact HB0.out | exact HB0.out.drew) HG1.out HK1.out HO1.out (.bool b) (.slice A1 32 c1))
      go_wp2
      have y0 := HE.out.1.cell 0
      have y1 := HE.out.1.cell 1
      refine bodyPost_ret (v := .agg #[.bool b, .slice A1 32 c1]) (by simp [results, Tryd.results54, go_sem, y0, y1]) rfl ⟨_, rfl, HE.out.2.1, HE.out.2.2⟩
  · subst hme
    have hd : decide ((32 : Int) < (m : Int)) = false := by simp; omega
    clear h32
    go_enter Tryd.func54, Tryd.ntmps54
    go_wp2
    go_region_law (first
      | (refine step_append_any _ (by rfl) (.tmp 11) (.tmp 15) 75 (by rfl) w.heap.size 83 i0 _ 2 16 Tryd.underlying75 hi hz0 hz1 hz2 rfl (by decide) (.slice (some ⟨w.heap.size + 2, 0, none⟩) 0 0) 0 [] (by rfl) ?_ w.heap.size _ _ _ (tokc (ts.take 32)) (by rfl) ?_ (tokc_one _) ?_ ?_ ?_ ?_
         · first | exact HX0.out | exact HX0.out.drew
         · exact HR.out.keepB (by first | exact HB0.out | exact HB0.out.drew)
         · unfold maxLen; omega
         · omega
         · simp; omega
         intro v1 w1 hown1 hgrow1 _; rw [Nat.zero_add, List.nil_append] at hown1; have hk1 : Blk w1 (w.heap.size + 1) 78 #[.bool false, .slice none 0 0] := (by refine Blk.grown (by first | exact HK.out | exact HK.out.drew) hgrow1 (by simp [Value.ownBlock])); have hk0 : Blk w1 w.heap.size 78 #[.bool b, .slice A m c] := (by refine Blk.grown (by first | exact HK0.out | exact HK0.out.drew) hgrow1 (by simp [Value.ownBlock])); have x0 := hk0.cell 0; have x1 := hk0.cell 1; have z0 := hk1.cell 0; have z1 := hk1.cell 1; have y0 := hk1.frozen 0; have y1 := hk1.frozen 1; have zl := hk1.lt; have HO1 := hide hown1; have HG1 := hide hgrow1; have HK1 := hide hk1; obtain ⟨A1, c1, rfl⟩ := own_slice hown1; clear hown1 hgrow1 hk1 hk0)
      | fail)
    all_goals
      have HE := hide (rule_end (by first | exact HB0.out | exact HB0.out.drew) HG1.out HK1.out HO1.out (.bool b) (.slice A1 m c1))
      go_wp2
      have y0 := HE.out.1.cell 0
      have y1 := HE.out.1.cell 1
      refine bodyPost_ret (v := .agg #[.bool b, .slice A1 m c1]) (by simp [results, Tryd.results54, go_sem, y0, y1]) rfl ⟨_, rfl, HE.out.2.1, HE.out.2.2⟩
end Go.Proofs.YtiibglkiakhfgaaDoor
set_option linter.unusedSimpArgs false
set_option linter.unusedVariables false
namespace Go.Proofs.YtiibglkiakhfgaaDoor
open Go.RowKit
attribute [local go_sem] Oper.semAt_some
theorem own_other {w w3 : World} {o : Obj} {base base' size size' n n' : Nat} {e e' : TypeId} {v v' : Value} {xs xs' : List Value} (h : w.ownsRow base e size v n xs) (h2 : w.ownsRow base' e' size' v' n' xs') (hne : e ≠ e')
    (hg : (w.alloc o).grownBy w3 v'.ownBlock) : w3.ownsRow base e size v n xs := by
  refine (h.alloc o).kept hg ?_
  rcases h.2 with ⟨e1, _⟩ | ⟨g, cap, cur, e1, _, hgc, _⟩
  · left; rw [e1]; rfl
  · right
    rcases h2.2 with ⟨e2, _⟩ | ⟨g', cap', cur', e2, _, hgc', _⟩
    · rw [e1, e2]; simp [Value.ownBlock]
    · rw [e1, e2]
      intro hh
      have : g = g' := by simpa [Value.ownBlock] using hh
      subst this
      rw [hgc] at hgc'
      injection hgc' with hgc'
      injection hgc' with _ h3
      exact hne h3
/-- Lists of a call's own, by their headers. -/
def OwnLs (base : Nat) (w : World) (hs : List Value) (ls : List (List Nat)) : Prop :=
  hs.length = ls.length ∧ ∀ (k : Nat) (x : List Nat), ls[k]? = some x → ∃ B d, hs[k]? = some (.slice B x.length d) ∧ w.ownsRow base 22 1 (.slice B x.length d) x.length (u32c x)
theorem OwnLs.below {base : Nat} {w w' : World} {hs : List Value} {ls : List (List Nat)} (h : OwnLs base w hs ls) (hb : Below w.heap.size w w') : OwnLs base w' hs ls :=
  ⟨h.1, fun k x hk => by obtain ⟨B, d, h1, h2⟩ := h.2 k x hk; exact ⟨B, d, h1, own_below h2 hb⟩⟩
theorem OwnLs.put {base : Nat} {w w3 : World} {o : Obj} {hs : List Value} {ls : List (List Nat)} {B : Option Addr} {d n base' : Nat} {x : List Nat} {v : Value} {xs : List Value} (h : OwnLs base w hs ls) (hv : w.ownsRow base' 27 1 v n xs)
    (hx : w.ownsRow base 22 1 (.slice B x.length d) x.length (u32c x)) (hg : (w.alloc o).grownBy w3 v.ownBlock) : OwnLs base w3 (hs ++ [.slice B x.length d]) (ls ++ [x]) := by
  refine ⟨by simp [h.1], fun k y hk => ?_⟩
  by_cases hl : k < ls.length
  · rw [List.getElem?_append_left hl] at hk
    obtain ⟨B', d', h1, h2⟩ := h.2 k y hk
    exact ⟨B', d', by rw [List.getElem?_append_left (by rw [h.1]; exact hl)]; exact h1, own_other h2 hv (by decide) hg⟩
  · have hl2 : k < (ls ++ [x]).length := (List.getElem?_eq_some_iff.1 hk).1
    have hk0 : k = ls.length := by simp at hl2; omega
    subst hk0
    simp at hk
    subst hk
    exact ⟨B, d, by rw [← h.1]; simp, own_other hx hv (by decide) hg⟩
theorem itemsAt_of {base n c base' : Nat} {w : World} {A : Option Addr} {hs : List Value} {ls : List (List Nat)} (h : OwnLs base w hs ls) (hv : w.ownsRow base' 27 1 (.slice A n c) n hs) (hb : ∀ x ∈ ls, ∀ y ∈ x, y < 4294967296) : ItemsAt w A n c ls := by
  have hl : ls.length = n := by have := hv.1; rw [← h.1]; omega
  have hcell : ∀ g, A = some ⟨g, 0, none⟩ → ∀ (k : Nat) (x : List Nat), ls[k]? = some x → ∃ B m d, w.cell? ⟨g, 0 + k, none⟩ = some (.slice B m d) ∧ U32s w B m d x := fun g hA k x hk => by
    obtain ⟨B, d, h1, h2⟩ := h.2 k x hk
    subst hA
    have := hv.cells (g := g) rfl k _ h1
    rw [show (⟨g, 0, none⟩ : Addr).add k = ⟨g, 0 + k, none⟩ by unfold Addr.add; split <;> simp_all] at this
    exact ⟨B, _, d, this, U32s.of_own h2 (hb x (List.mem_of_getElem? hk))⟩
  rcases hv.2 with ⟨e, h0⟩ | ⟨g, cap, cur, e, _, hh, hnc, hm, _⟩
  · injection e with e1 e2 e3
    subst e2 e3
    exact ⟨hl, Nat.le_refl _, by simp [maxLen], fun h => by omega⟩
  · injection e with e1 _ e3
    subst e1 e3
    exact ⟨hl, hnc, hm, fun _ => ⟨g, 0, rfl, (Array.getElem?_eq_some_iff.1 hh).1, hcell g rfl⟩⟩

def cut10 (ls : List (List Nat)) : List (List Nat) := (ls.take 20).map (·.take 10)
theorem cut10_len (ls : List (List Nat)) : (cut10 ls).length ≤ 20 := by unfold cut10; rw [List.length_map]; exact List.length_take_le _ _
set_option maxRecDepth 100000 in
set_option maxHeartbeats 2000000 in
theorem items_few (A : Option Addr) (n c : Nat) (ls : List (List Nat)) (w : World) (h : ItemsAt w A n c ls) :
    Calls Tryd.prog 55 #[.slice A n c] w fun e w' => ∃ B m d, e = .returned (.slice B m d) ∧ ItemsAt w' B m d (cut10 ls) ∧ Below w.heap.size w w' := by
  obtain ⟨i0, hi, hz0, hz1, hz2⟩ := info_parts sliceInfo
  have hn := h.2.2.1
  have hnc := h.2.1
  unfold maxLen at hn
  have HA := hide h
  clear h
  go_enter Tryd.func55, Tryd.ntmps55
  go_wp2
  go_loopw [3, 4] (fun v i wr => ∃ (k : Nat) (hs : List Value), k ≤ n ∧ k ≤ 20 ∧ i = .int .i64 (k : Nat) ∧ wr.ownsRow w.heap.size 27 1 v k hs ∧ OwnLs w.heap.size wr hs ((ls.take k).map (·.take 10)) ∧ (∀ x ∈ (ls.take k).map (·.take 10), ∀ y ∈ x, y < 4294967296) ∧ (∃ A c, v = .slice A k c) ∧ Below w.heap.size w wr) (fun _ i _ => 20 - (intOf i).toNat)
  case atStart =>
    exact ⟨0, [], by omega, by omega, rfl, World.ownsRow_made _ _ _ (Nat.le_refl _) (by simp [maxLen]) (by simp), ⟨rfl, by simp⟩, by simp, ⟨_, _, rfl⟩, (Below.refl _ _).alloc (Nat.le_refl _) _⟩
  case round =>
    obtain ⟨k, hs, hk, hk20, rfl, hown, hls, hlt32, ⟨A', c', rfl⟩, hb⟩ := hrel
    have HO := hide hown
    have HLs := hide hls
    have H32 := hide hlt32
    have HBl := hide hb
    have HA2 := hide (HA.out.below hb)
    have hsz := hb.size
    clear hown hls hlt32 hb
    by_cases hgo : k < n ∧ k < 20
    · obtain ⟨hlt, hl20⟩ := hgo
      obtain ⟨g, o, x, B, m, d, rfl, hg, hx, _, hc, hU⟩ := HA2.out.at_ hlt
      have HU := hide hU
      have hd2 : decide ((k : Int) < 20) = true := by simp; omega
      obtain ⟨y, hy⟩ : ∃ y, x.take 10 = y := ⟨_, rfl⟩
      have HSn := hide (show (ls.take (k + 1)).map (·.take 10) = (ls.take k).map (·.take 10) ++ [y] by rw [take_snoc_g hx, ← hy]; simp)
      have HF : Hid (Calls Tryd.prog 22 #[.slice B m d, .int .i64 10] wr fun e w' => ∃ v, e = .returned v ∧ Own32 wr w' v y) := hide (by rw [← hy]; exact few_any B m d x 10 (by omega) wr hU)
      have HY := hide hy
      clear hx hU hy
      go_wp2_with fail
      refine HF.out.mono ?_
      rintro e w2 ⟨v2, rfl, hv2, hb2⟩
      obtain ⟨B2, d2, rfl⟩ := own_slice hv2
      have HV2 : Hid (w2.ownsRow w.heap.size 22 1 (.slice B2 y.length d2) y.length (u32c y)) := hide (own_low (base := w.heap.size) (base' := wr.heap.size - w.heap.size) (by rw [Nat.add_sub_cancel' hsz]; exact hv2))
      have HO2 := hide (own_below HO.out hb2)
      have HLs2 := hide (HLs.out.below hb2)
      have HB2 := hide (HBl.out.trans (hb2.mono hsz))
      have hs2 := (HBl.out.trans (hb2.mono hsz)).size
      clear hv2 hb2
      go_wp2_with (at_builtin; refine wpList_append_any _ rfl (.tmp 16) (.tmp 22) 76 rfl w.heap.size 27 i0 _ 1 24 Tryd.underlying76 hi hz0 hz1 hz2 rfl (by decide) (.slice A' k c') k hs rfl (HO2.out.alloc _) (w2.heap.size + 1) (some ⟨w2.heap.size, 0, none⟩) 1 1 [.slice B2 y.length d2] rfl ((reads_oneS (by simp)).more (by simp)) (by simp [Value.oneCell']) (by unfold maxLen; omega) (by omega) (by simp; omega) ?_; intro v' w3 hown' hgrow hat; have HO3 := hide hown'; have HG3 := hide hgrow; clear hown' hgrow hat)
      have HB3 : Hid (Below w.heap.size w w3) := hide (Below.grown (HB2.out.alloc (by omega) (.cells #[.slice B2 y.length d2] 27)) HG3.out (by simp; omega) (fun k hk => (HO2.out.lt k hk).1))
      have HL3 : Hid (OwnLs w.heap.size w3 (hs ++ [.slice B2 y.length d2]) ((ls.take (k + 1)).map (·.take 10))) := hide (by rw [HSn.out]; exact HLs2.out.put HO2.out HV2.out HG3.out)
      have HV : Hid (∃ A c, v' = .slice A (k + 1) c) := hide (own_slice HO3.out)
      go_roundw
      case rel => exact ⟨k + 1, _, by omega, by omega, by go_num, HO3.out, HL3.out, by
        rw [HSn.out]
        intro u hu
        rcases List.mem_append.1 hu with hu | hu
        · exact H32.out u hu
        · rw [List.mem_singleton.1 hu]
          exact fun z hz => HU.out.2.2.2.1 z (List.mem_of_mem_take (by rw [HY.out]; exact hz)), HV.out, HB3.out⟩
      case measure => simp [intOf]; omega
    · have hor : (decide (k < n) = false) ∨ (decide (k < n) = true ∧ decide ((k : Int) < 20) = false) := by
        by_cases h1 : k < n
        · right; exact ⟨by simpa using h1, by simp; omega⟩
        · left; simpa using h1
      have HE : Hid ((ls.take k).map (·.take 10) = cut10 ls) := hide (by
        unfold cut10
        by_cases h1 : k < n
        · obtain rfl : k = 20 := by omega
          rfl
        · have h2 := HA2.out.1
          rw [List.take_of_length_le (by omega), List.take_of_length_le (by omega)])
      clear hgo
      have HI : Hid (ItemsAt wr A' k c' (cut10 ls)) := hide (by rw [← HE.out]; exact itemsAt_of HLs.out HO.out H32.out)
      rcases hor with h1 | ⟨h1, h2⟩
      all_goals
        go_wp2
        go_ret
        exact ⟨_, _, _, rfl, HI.out, HBl.out⟩
end Go.Proofs.YtiibglkiakhfgaaDoor
set_option linter.unusedSimpArgs false
set_option linter.unusedVariables false
namespace Go.Proofs.YtiibglkiakhfgaaDoor
open Go.RowKit
/-- A row behind the passing. -/
def passP (t : Nat → Int × Nat) (b : Nat → Bool) : Nat → Bool
  | 0 => b 0
  | i + 1 => b (i + 1) || (passP t b i && starP (t i))
/-- What the row is while it is being passed: i pieces are through. -/
def midP (t : Nat → Int × Nat) (b : Nat → Bool) (i j : Nat) : Bool := if j ≤ i then passP t b j else b j
theorem midP_zero (t : Nat → Int × Nat) (b : Nat → Bool) (j : Nat) : midP t b 0 j = b j := by
  unfold midP
  split
  · obtain rfl : j = 0 := by omega
    rfl
  · rfl
theorem midP_last (t : Nat → Int × Nat) (b : Nat → Bool) {n j : Nat} (h : j ≤ n) : midP t b n j = passP t b j := by rw [midP, if_pos h]
theorem midP_succ (t : Nat → Int × Nat) (b : Nat → Bool) (i j : Nat) : midP t b (i + 1) j = if j = i + 1 then (midP t b i (i + 1) || (midP t b i i && starP (t i))) else midP t b i j := by
  unfold midP
  by_cases h : j = i + 1
  · subst h; rw [if_pos (Nat.le_refl _), if_pos rfl, if_neg (by omega), if_pos (Nat.le_refl _), passP]
  · rw [if_neg h]
    by_cases h2 : j ≤ i
    · rw [if_pos h2, if_pos (by omega)]
    · rw [if_neg h2, if_neg (by omega)]
/-- The next row, while it is being filled. -/
def nxP (t : Nat → Int × Nat) (a : Nat → Bool) (item : List Nat) : Nat → Nat → Bool
  | 0, _ => false
  | i + 1, j => if (a i && (starP (t i) || oneP (t i) item)) = true ∧ j = (if starP (t i) = true then i else i + 1) then true else nxP t a item i j
theorem nxP_eq (t : Nat → Int × Nat) (a : Nat → Bool) (item : List Nat) : ∀ (i j : Nat), nxP t a item i j = ((decide (j < i) && starP (t j) && a j) || (decide (0 < j) && decide (j ≤ i) && a (j - 1) && !starP (t (j - 1)) && oneP (t (j - 1)) item))
  | 0, j => by
    rw [nxP]
    cases j with
    | zero => simp
    | succ j => simp
  | i + 1, j => by
    rw [nxP, nxP_eq t a item i j]
    by_cases h1 : j = i
    · subst h1
      cases hs : starP (t j) <;> cases ha : a j <;> cases ho : oneP (t j) item <;> simp
    · by_cases h2 : j = i + 1
      · subst h2
        have e0 : decide (i + 1 < i) = false := by simp
        have e3 : decide (i + 1 ≤ i) = false := by simp
        rw [e0, e3, Nat.add_sub_cancel]
        cases hs : starP (t i) <;> cases ha : a i <;> cases ho : oneP (t i) item <;> simp
      · have e1 : decide (j < i + 1) = decide (j < i) := by apply decide_eq_decide.2; omega
        have e2 : decide (j ≤ i + 1) = decide (j ≤ i) := by apply decide_eq_decide.2; omega
        rw [e1, e2, if_neg]
        intro ⟨_, h⟩
        split at h <;> omega
theorem nxP_Bt (t : Nat → Int × Nat) (l : Nat → List Nat) (n k : Nat) {j : Nat} (hj : j ≤ n) : nxP t (fun i => Ap t l n i k) (l k) n j = Bt t l n k j := by
  rw [nxP_eq]
  cases j with
  | zero => simp [Bt]
  | succ j => 
    rw [Bt, decide_eq_true (show 0 < j + 1 by omega), decide_eq_true hj]
    simp
theorem pass_congr (t : Nat → Int × Nat) {b b' : Nat → Bool} {n : Nat} (h : ∀ j, j ≤ n → b j = b' j) : ∀ j, j ≤ n → passP t b j = passP t b' j
  | 0, h0 => by rw [passP, passP, h 0 h0]
  | j + 1, h1 => by rw [passP, passP, h _ h1, pass_congr t h j (by omega)]
theorem passP_zero (t : Nat → Int × Nat) (l : Nat → List Nat) (n : Nat) : ∀ j, j ≤ n → passP t (fun j => decide (j = 0)) j = Ap t l n j 0
  | 0, h => by rw [pass0 t l n 0 h]; simp [passP, Mt]
  | j + 1, h => by rw [passP, passP_zero t l n j (by omega), pass0_succ t l n j (by omega)]; simp
theorem passP_Bt (t : Nat → Int × Nat) (l : Nat → List Nat) (n k : Nat) : ∀ j, j ≤ n → passP t (Bt t l n k) j = Ap t l n j (k + 1)
  | 0, h => by rw [passP, passK_zero]
  | j + 1, h => by rw [passP, passP_Bt t l n k j (by omega), passK_succ t l n k j (by omega)]
attribute [local go_sem] Oper.semAt_some
/-! ### Rows of answers -/
def brow (b : Nat → Bool) (n : Nat) : List Value := (List.range n).map fun j => .bool (b j)
theorem brow_at (b : Nat → Bool) {n j : Nat} (h : j < n) : (brow b n)[j]? = some (.bool (b j)) := by
  unfold brow
  rw [List.getElem?_map, List.getElem?_range h]; rfl
theorem brow_set {b b' : Nat → Bool} {n j : Nat} {v : Bool} (h : ∀ i, i < n → b' i = if i = j then v else b i) : (brow b n).set j (.bool v) = brow b' n := by
  apply List.ext_getElem?
  intro i
  by_cases hi : i < n
  · rw [brow_at b' hi, h i hi, List.getElem?_set]
    by_cases hij : j = i
    · subst hij
      simp [brow, hi]
    · rw [if_neg hij, if_neg (fun e => hij e.symm), brow_at b hi]
  · rw [List.getElem?_eq_none (by simp [brow]; omega), List.getElem?_eq_none (by simp [brow]; omega)]
theorem brow_congr {b b' : Nat → Bool} {n : Nat} (h : ∀ i, i < n → b' i = b i) : brow b' n = brow b n :=
  List.map_congr_left fun i hi => by rw [h i (List.mem_range.1 hi)]
theorem brow_made (n : Nat) : (madeCells (Value.bool false).cells (n * 1)).toList = brow (fun _ => false) n := by
  have e : ∀ a : Nat, [Value.bool false][a % 1]?.getD default = Value.bool false := fun a => by rw [Nat.mod_one]; rfl
  simp [madeCells, Value.cells, brow, e]
/-- A row of answers of the call's own. -/
def RowB (base : Nat) (w : World) (g c N : Nat) (b : Nat → Bool) : Prop := w.ownsRow base 4 1 (.slice (some ⟨g, 0, none⟩) N c) N (brow b N) ∧ g < w.heap.size ∧ base ≤ g ∧ N ≤ c
theorem RowB.cell {base g c N : Nat} {w : World} {b : Nat → Bool} (h : RowB base w g c N b) {j : Nat} (hj : j < N) : w.cell? ⟨g, j, none⟩ = some (.bool (b j)) := by
  rw [h.1.cellAt j (by omega), brow_at b hj]
theorem RowB.frozen {base g c N : Nat} {w : World} {b : Nat → Bool} (h : RowB base w g c N b) (j : Nat) : w.frozen? ⟨g, j, none⟩ = false := h.1.frozenAt j
theorem RowB.set {base g c N j : Nat} {w : World} {b b' : Nat → Bool} {v : Bool} (h : RowB base w g c N b) (hb : ∀ i, i < N → b' i = if i = j then v else b i) : RowB base (w.setCell ⟨g, j, none⟩ (.bool v)) g c N b' := by
  obtain ⟨h1, h2, h3, h4⟩ := h
  have := (h1.stored j (.bool v)).1
  rw [brow_set hb] at this
  exact ⟨this, by simpa [World.setCell] using h2, h3, h4⟩
theorem RowB.far {base g c N p i : Nat} {w : World} {b : Nat → Bool} (h : RowB base w g c N b) (hne : g ≠ p) (u : Value) : RowB base (w.setCell ⟨p, i, none⟩ u) g c N b :=
  ⟨own_set h.1 (by simp [Value.ownBlock]; exact hne) u, by simpa [World.setCell] using h.2.1, h.2.2⟩
theorem RowB.alloc {base g c N : Nat} {w : World} {b : Nat → Bool} (h : RowB base w g c N b) (o : Obj) : RowB base (w.alloc o) g c N b :=
  ⟨h.1.alloc o, by have := h.2.1; simp; omega, h.2.2⟩
theorem RowB.below {base g c N : Nat} {w w' : World} {b : Nat → Bool} (h : RowB base w g c N b) (hb : Below w.heap.size w w') : RowB base w' g c N b :=
  ⟨own_below h.1 hb, Nat.lt_of_lt_of_le h.2.1 hb.size, h.2.2⟩
theorem RowB.congr {base g c N : Nat} {w : World} {b b' : Nat → Bool} (h : RowB base w g c N b) (hb : ∀ i, i < N → b' i = b i) : RowB base w g c N b' := by
  obtain ⟨h1, h2⟩ := h
  rw [← brow_congr hb] at h1
  exact ⟨h1, h2⟩
theorem RowB.ne {base g c N p : Nat} {t : TypeId} {cs : Array Value} {w : World} {b : Nat → Bool} (h : RowB base w g c N b) (hp : Blk w p t cs) (ht : 4 ≠ t) : g ≠ p := fun e => own_blk_ne h.1 hp ht (by rw [e]; rfl)
theorem RowB.made {base g N : Nat} {w : World} (h : w.ownsRow base 4 1 (.slice (some ⟨g, 0, none⟩) N N) N (madeCells (Value.bool false).cells (N * 1)).toList) : RowB base w g N N (fun _ => false) := by
  have h1 := h
  rw [brow_made] at h1
  rcases h.2 with ⟨e, _⟩ | ⟨g', cap, cur, e, hb, hgc, _⟩
  · cases e
  · simp at e
    obtain ⟨rfl, _⟩ := e
    exact ⟨h1, (Array.getElem?_eq_some_iff.1 hgc).1, hb, Nat.le_refl _⟩
/-- A row and the two variables of the closure. -/
structure PsSt (base : Nat) (w : World) (p q g c n : Nat) (A : Option Addr) (ca : Nat) (b : Nat → Bool) : Prop where
  tk : Blk w p 75 #[.slice A n ca]
  at_ : Blk w q 125 #[.slice (some ⟨g, 0, none⟩) (n + 1) c]
  row : RowB base w g c (n + 1) b
theorem PsSt.set {base p q g c n ca j : Nat} {w : World} {A : Option Addr} {b b' : Nat → Bool} {v : Bool} (h : PsSt base w p q g c n A ca b) (hb : ∀ i, i < n + 1 → b' i = if i = j then v else b i) :
    PsSt base (w.setCell ⟨g, j, none⟩ (.bool v)) p q g c n A ca b' :=
  ⟨h.tk.far (by exact fun e => h.row.ne h.tk (by decide) e.symm) _, h.at_.far (by exact fun e => h.row.ne h.at_ (by decide) e.symm) _, h.row.set hb⟩
theorem PsSt.alloc {base p q g c n ca : Nat} {w : World} {A : Option Addr} {b : Nat → Bool} (h : PsSt base w p q g c n A ca b) (o : Obj) : PsSt base (w.alloc o) p q g c n A ca b :=
  ⟨h.tk.alloc o, h.at_.alloc o, h.row.alloc o⟩
theorem PsSt.below {base p q g c n ca : Nat} {w w' : World} {A : Option Addr} {b : Nat → Bool} (h : PsSt base w p q g c n A ca b) (hb : Below w.heap.size w w') : PsSt base w' p q g c n A ca b :=
  ⟨h.tk.below hb h.tk.lt, h.at_.below hb h.at_.lt, h.row.below hb⟩
theorem PsSt.congr {base p q g c n ca : Nat} {w : World} {A : Option Addr} {b b' : Nat → Bool} (h : PsSt base w p q g c n A ca b) (hb : ∀ i, i < n + 1 → b' i = b i) : PsSt base w p q g c n A ca b' :=
  ⟨h.tk, h.at_, h.row.congr hb⟩
theorem PsSt.drewN {base p q g c n ca : Nat} {w : World} {A : Option Addr} {b : Nat → Bool} (h : PsSt base w p q g c n A ca b) (k : Nat) : PsSt base (w.drewN k) p q g c n A ca b := ⟨h.tk, h.at_, h.row⟩
theorem PsSt.drew {base p q g c n ca : Nat} {w : World} {A : Option Addr} {b : Nat → Bool} (h : PsSt base w p q g c n A ca b) : PsSt base w.drew p q g c n A ca b := ⟨h.tk, h.at_, h.row⟩

set_option maxRecDepth 100000 in
set_option maxHeartbeats 4000000 in
theorem pass_any (p q g c n ca : Nat) (A : Option Addr) (ts : List (Int × Nat)) (b : Nat → Bool) (w0 w : World) (hT : TokAt w0 A n ca ts) (hB : Below w0.heap.size w0 w) (h : PsSt w0.heap.size w p q g c n A ca b) (hn : n ≤ 100) :
    Calls Tryd.prog 146 #[.pointer (some ⟨p, 0, none⟩), .pointer (some ⟨q, 0, none⟩)] w fun e w' => e = .returned (.tuple #[]) ∧ PsSt w0.heap.size w' p q g c n A ca (passP (tkP ts) b) ∧ Below w0.heap.size w0 w' := by
  obtain ⟨t, ht⟩ : ∃ t, tkP ts = t := ⟨_, rfl⟩
  rw [ht]
  have HTe := hide ht
  have HT := hide hT
  have HB := hide hB
  have HP := hide h
  have x0 := blk_read h.tk (i := 0) (v := .slice A n ca) rfl
  clear ht hT hB h
  go_enter Tryd.func146, Tryd.ntmps146
  go_wp2
  go_loopw [6] (fun i wr => ∃ k : Nat, k ≤ n ∧ i = .int .i64 (k : Nat) ∧ PsSt w0.heap.size wr p q g c n A ca (midP t b k) ∧ Below w0.heap.size w0 wr) (fun i _ => n - (intOf i).toNat)
  case atStart => exact ⟨0, by omega, rfl, HP.out.congr (fun i hi => midP_zero t b i), HB.out⟩
  case round =>
    obtain ⟨k, hk, rfl, hp, hb⟩ := hrel
    have HPk := hide hp
    have HBk := hide hb
    have HTk := hide (HT.out.below hb)
    have hsz := hb.size
    by_cases hlt : k < n
    · obtain ⟨gt, kd, x, rfl, hg, -, hti, hx32, cK, cX⟩ := HTk.out.at_ hlt
      rw [HTe.out] at hti
      obtain ⟨st, hst⟩ : ∃ st : Bool, ((kd : Int) == 3) = st := ⟨_, rfl⟩
      have HSt : Hid (starP (t k) = st) := hide (by rw [hti]; exact hst)
      obtain ⟨b1, hb1⟩ : ∃ b1, midP t b k (k + 1) = b1 := ⟨_, rfl⟩
      obtain ⟨b0, hb0⟩ : ∃ b0, midP t b k k = b0 := ⟨_, rfl⟩
      have c1 := hp.row.cell (j := k + 1) (by omega)
      have c0 := hp.row.cell (j := k) (by omega)
      rw [hb1] at c1
      rw [hb0] at c0
      have cq := blk_read hp.at_ (i := 0) (v := .slice (some ⟨g, 0, none⟩) (n + 1) c) rfl
      have f1 := hp.row.frozen (k + 1)
      have lg := hp.row.2.1
      have lq := hp.at_.lt
      have lc := hp.row.2.2.2
      have HM : Hid (∀ i, i < n + 1 → midP t b (k + 1) i = if i = k + 1 then (b1 || (b0 && st)) else midP t b k i) := hide (fun i hi => by rw [midP_succ, hb1, hb0, HSt.out])
      have i1 : (k : Int) + 1 < ((n + 1 : Nat) : Int) := by omega
      have i2 : (0 : Int) ≤ (k : Int) + 1 := by omega
      have i3 : ((k : Int) + 1).toNat = k + 1 := by omega
      have i4 : (k : Int) < ((n + 1 : Nat) : Int) := by omega
      have i5 : IntKind.wrap .i64 ((k : Int) + 1) = (k : Int) + 1 := by simp [IntKind.wrap, IntKind.bits, IntKind.signed]; omega
      clear hp hb hb1 hb0 hti
      have HE := hide (fun (o : Obj) (v : Bool) (hv : (b1 || (b0 && st)) = v) => (show PsSt w0.heap.size ((wr.setCell ⟨g, k + 1, none⟩ (.bool v)).alloc o).drew p q g c n (some ⟨gt, 0, none⟩) ca (midP t b (k + 1)) from ((HPk.out.set (fun i hi => by rw [← hv]; exact HM.out i hi)).alloc o).drew))
      have HG := hide (fun (o : Obj) (v : Bool) => (show Below w0.heap.size w0 ((wr.setCell ⟨g, k + 1, none⟩ (.bool v)).alloc o).drew from ((HBk.out.setCell (p := ⟨g, k + 1, none⟩) HPk.out.row.2.2.1 _).alloc (by simpa [World.setCell] using hsz) o).drew))
      cases b1 <;> cases b0 <;> cases st <;>
        (go_wp2
         go_region
         go_wp2
         go_roundw
         case rel => exact ⟨k + 1, by omega, by go_num, HE.out _ _ rfl, HG.out _ _⟩
         case measure => simp [intOf]; omega)
    · obtain rfl : k = n := by omega
      clear hp hb
      go_wp2
      go_end0
      exact ⟨rfl, HPk.out.congr (fun i hi => (midP_last t b (by omega)).symm), HBk.out⟩

theorem code_gen7 {P : Program} {c : Code} {Q : Exit → Act → World → Prop} {a : Act} {w : World} (I : World → Prop) (h0 : I w) (h : ∀ w3, I w3 → c.wp P Q a w3) : c.wp P Q a w := h w h0
structure InSt (base : Nat) (w0 w : World) (p q g c n : Nat) (A : Option Addr) (ca : Nat) (a : Nat → Bool) (gn cn : Nat) (b : Nat → Bool) : Prop where
  ps : PsSt base w p q g c n A ca a
  nx : RowB base w gn cn (n + 1) b
  bel : Below base w0 w
  ne : gn ≠ g
theorem InSt.below {base p q g c n ca gn cn : Nat} {w0 w w' : World} {A : Option Addr} {a b : Nat → Bool} (h : InSt base w0 w p q g c n A ca a gn cn b) (hb : Below w.heap.size w w') (hs : base ≤ w.heap.size) : InSt base w0 w' p q g c n A ca a gn cn b :=
  ⟨h.ps.below hb, h.nx.below hb, h.bel.trans (hb.mono hs), h.ne⟩
theorem InSt.set {base p q g c n ca gn cn j : Nat} {w0 w : World} {A : Option Addr} {a b b' : Nat → Bool} {v : Bool} (h : InSt base w0 w p q g c n A ca a gn cn b) (hb : ∀ i, i < n + 1 → b' i = if i = j then v else b i) :
    InSt base w0 (w.setCell ⟨gn, j, none⟩ (.bool v)) p q g c n A ca a gn cn b' :=
  ⟨⟨h.ps.tk.far (by exact fun e => h.nx.ne h.ps.tk (by decide) e.symm) _, h.ps.at_.far (by exact fun e => h.nx.ne h.ps.at_ (by decide) e.symm) _, h.ps.row.far (fun e => h.ne e.symm) _⟩, h.nx.set hb, h.bel.setCell (p := ⟨gn, j, none⟩) h.nx.2.2.1 _, h.ne⟩
set_option maxRecDepth 100000 in
set_option maxHeartbeats 4000000 in
theorem match_any (A B : Option Addr) (n c m d : Nat) (ts : List (Int × Nat)) (ls : List (List Nat)) (w : World) (ht : TokAt w A n c ts) (hl : ItemsAt w B m d ls) (hn : n ≤ 100) (hm : m ≤ 100) :
    Calls Tryd.prog 110 #[.slice A n c, .slice B m d] w fun e w' => e = .returned (.bool (MatchP ts ls)) ∧ Below w.heap.size w w' := by
  obtain ⟨i0, hi, hz0, hz1, hz2⟩ := info_parts boolInfo
  obtain ⟨t, hte⟩ : ∃ t, tkP ts = t := ⟨_, rfl⟩
  obtain ⟨l, hle⟩ : ∃ l, itP ls = l := ⟨_, rfl⟩
  have HR : Hid (MatchP ts ls = Mt t l n m) := hide (by unfold MatchP; rw [hte, hle, ht.1, hl.1])
  have HTe := hide hte
  have HLe := hide hle
  have HT := hide ht
  have HL := hide hl
  clear hte hle ht hl
  go_enter Tryd.func110, Tryd.ntmps110
  go_wp2_with (at_make; refine wpList_make_full _ rfl _ _ 125 rfl w.heap.size 4 i0 _ 1 Tryd.underlying125 hi hz0 hz1 .i64 .i64 _ _ (n + 1) rfl rfl (by go_num) (by go_num) (by rw [hz2]; omega) (by unfold maxLen; omega) (by simp) ?_; intro w2 hown2 hg2; have hrow : RowB w.heap.size w2 (w.heap.size + 1) (n + 1) (n + 1) (fun _ => false) := RowB.made (by simpa using hown2); have cz := hrow.cell (j := 0) (by omega); have fz := hrow.frozen 0; have lz := hrow.2.1; have HR2 := hide hrow; have HG2 := hide hg2; clear hown2 hg2 hrow)
  have HPs : Hid (PsSt w.heap.size ((w2.setCell ⟨w.heap.size + 1, 0, none⟩ (.bool true)).alloc (.cells #[.slice (some ⟨w.heap.size + 1, 0, none⟩) (n + 1) (n + 1)] 125)) w.heap.size w2.heap.size (w.heap.size + 1) (n + 1) n A c (fun j => decide (j = 0))) := hide (by
    refine ⟨(((Blk.new w 75 #[.slice A n c]).grown HG2.out (by simp)).far (by simp) _).alloc _, blk_new' 125 _ (by simp [World.setCell]), (HR2.out.set (b' := fun j => decide (j = 0)) (fun i hi => ?_)).alloc _⟩
    by_cases h0 : i = 0 <;> simp [h0])
  have HBs : Hid (Below w.heap.size w ((w2.setCell ⟨w.heap.size + 1, 0, none⟩ (.bool true)).alloc (.cells #[.slice (some ⟨w.heap.size + 1, 0, none⟩) (n + 1) (n + 1)] 125))) := hide (by
    have h1 : Below w.heap.size w w2 := Below.grown ((Below.refl _ w).alloc (Nat.le_refl _) _) HG2.out (by simp) (fun k hk => by cases hk)
    exact (h1.setCell (p := ⟨w.heap.size + 1, 0, none⟩) (by show w.heap.size ≤ w.heap.size + 1; omega) _).alloc (by have := h1.size; simpa [World.setCell] using this) _)
  have HP0 := hide (pass_any w.heap.size w2.heap.size (w.heap.size + 1) (n + 1) n c A ts _ w _ HT.out HBs.out HPs.out hn)
  obtain ⟨q, hq⟩ : ∃ q, w2.heap.size = q := ⟨_, rfl⟩
  go_wp2_with fail
  refine HP0.out.mono ?_
  rintro e w3 ⟨rfl, hp3, hb3⟩
  rw [HTe.out] at hp3
  have HP3 : Hid (PsSt w.heap.size w3 w.heap.size q (w.heap.size + 1) (n + 1) n A c (fun j => Ap t l n j 0)) := hide (by rw [← hq]; exact hp3.congr (fun i hi => (passP_zero t l n i (by omega)).symm))
  have HB3 := hide hb3
  have hqs : w.heap.size ≤ q := by omega
  rw [hq]
  clear hq hp3 hb3 cz fz lz
  go_wp2
  go_loopw [23] (fun i wr => ∃ (k g c' : Nat), k ≤ m ∧ i = .int .i64 (k : Nat) ∧ PsSt w.heap.size wr w.heap.size q g c' n A c (fun j => Ap t l n j k) ∧ Below w.heap.size w wr) (fun i _ => m - (intOf i).toNat)
  case atStart => exact ⟨0, _, _, by omega, rfl, HP3.out, HB3.out⟩
  case round =>
    obtain ⟨k, g, c', hk, rfl, hp, hb⟩ := hrel
    have HPk := hide hp
    have HBk := hide hb
    have hsz := hb.size
    by_cases hlt : k < m
    · obtain ⟨gi, oi, y, Bi, qi, di, rfl, hgi, -, hyi, cI0, hU0⟩ := HL.out.at_ hlt
      rw [HLe.out] at hyi
      have HYi := hide hyi
      have HU := hide hU0
      have cI := (hb.cell (p := ⟨gi, oi + k, none⟩) hgi).trans cI0
      have x0 := blk_read hp.tk (i := 0) (v := .slice A n c) rfl
      have lp := hp.tk.lt
      have hk1 : (k : Int) < (m : Int) := by omega
      clear hyi cI0 hU0 hp hb
      go_wp2_with (at_make; refine wpList_make_full _ rfl _ _ 125 rfl w.heap.size 4 i0 _ 1 Tryd.underlying125 hi hz0 hz1 .i64 .i64 _ _ (n + 1) rfl rfl (by go_num) (by go_num) (by rw [hz2]; omega) (by unfold maxLen; omega) hsz ?_; intro w4 hown4 hg4; have hb4 : Below wr.heap.size wr w4 := Below.grown (Below.refl _ _) hg4 (Nat.le_refl _) (fun k hk => by cases hk); have x4 := (hb4.cell (p := ⟨w.heap.size, 0, none⟩) lp).trans x0; have HIn : Hid (InSt w.heap.size w w4 w.heap.size q g c' n A c (fun j => Ap t l n j k) wr.heap.size (n + 1) (fun _ => false)) := hide ⟨HPk.out.below hb4, RowB.made hown4, HBk.out.trans (hb4.mono hsz), by have := HPk.out.row.2.1; omega⟩; clear hown4 hg4 hb4)
      obtain ⟨gn, hgn⟩ : ∃ gn, wr.heap.size = gn := ⟨_, rfl⟩
      rw [hgn] at HIn ⊢
      obtain ⟨av, hav⟩ : ∃ av : Nat → Bool, (fun j => Ap t l n j k) = av := ⟨_, rfl⟩
      rw [hav] at HIn
      have HAv := hide hav
      clear hgn hav x4 x0 cI lp
      obtain ⟨wq, hwq⟩ : ∃ wq : World, wq = wr := ⟨_, rfl⟩
      subst hwq
      go_loopw [33] (fun i' wi => ∃ (i : Nat), i ≤ n ∧ i' = .int .i64 (i : Nat) ∧ InSt w.heap.size w wi w.heap.size q g c' n A c av gn (n + 1) (nxP t av y i)) (fun i _ => n - (intOf i).toNat)
      case atStart => exact ⟨0, by omega, rfl, HIn.out.ps, HIn.out.nx.congr (fun _ _ => by rw [nxP]), HIn.out.bel, HIn.out.ne⟩
      case round =>
        obtain ⟨i, hi', rfl, hIn⟩ := hrel
        have HIr := hide hIn
        have hsi := hIn.bel.size
        by_cases hli : i < n
        · obtain ⟨gt, kd, x, rfl, hg, -, hti, hx32, cK0, cX0⟩ := HT.out.at_ hli
          rw [HTe.out] at hti
          have cK := (hIn.bel.cell (p := ⟨gt, i * 2, none⟩) hg).trans cK0
          have cX := (hIn.bel.cell (p := ⟨gt, i * 2 + 1, none⟩) hg).trans cX0
          obtain ⟨ai, hai⟩ : ∃ ai, av i = ai := ⟨_, rfl⟩
          obtain ⟨st, hst⟩ : ∃ st : Bool, ((kd : Int) == 3) = st := ⟨_, rfl⟩
          obtain ⟨tk, htk⟩ : ∃ tk, takeP (kd, x) y = tk := ⟨_, rfl⟩
          have HN : Hid (∀ j, nxP t av y (i + 1) j = if (ai && tk) = true ∧ j = (if st = true then i else i + 1) then true else nxP t av y i j) := hide (fun j => by
            rw [nxP, hai, hti, ← htk, ← hst]; rfl)
          have HOne : Hid (∀ W, Below w.heap.size w W → Calls Tryd.prog 147 #[.agg #[.int .i64 kd, .int .u32 x], .slice Bi qi di] W fun e w'' => e = .returned (.bool tk) ∧ Below W.heap.size W w'') := hide (fun W hW => by
            have := takes_any kd x Bi qi di y W (HU.out.below hW)
            rwa [htk] at this)
          clear cK0 cX0 hti htk
          have HAl : Hid (InSt w.heap.size w (wr.alloc (.cells #[.int .i64 kd, .int .u32 (x : Int)] 83)) w.heap.size q g c' n (some ⟨gt, 0, none⟩) c av gn (n + 1) (nxP t av y i) ∧ Blk (wr.alloc (.cells #[.int .i64 kd, .int .u32 (x : Int)] 83)) wr.heap.size 83 #[.int .i64 kd, .int .u32 (x : Int)]) := hide ⟨HIr.out.below (Below.alloc (Below.refl _ wr) (Nat.le_refl _) _) hsi, Blk.new wr _ _⟩
          have cq := blk_read hIn.ps.at_ (i := 0) (v := .slice (some ⟨g, 0, none⟩) (n + 1) c') rfl
          have ca := hIn.ps.row.cell (j := i) (by omega)
          rw [hai] at ca
          have lc := hIn.ps.row.2.2.2
          have lq := hIn.ps.at_.lt
          have lg := hIn.ps.row.2.1
          have i4 : (i : Int) < ((n + 1 : Nat) : Int) := by omega
          clear hai hIn
          cases ai
          · go_wp2
            go_roundw
            case rel => exact ⟨i + 1, by omega, by go_num, HAl.out.1.ps, HAl.out.1.nx.congr (fun j _ => by rw [HN.out]; simp), HAl.out.1.bel, HAl.out.1.ne⟩
            case measure => simp [intOf]; omega
          · go_wp2_with fail
            refine (HOne.out _ HAl.out.1.bel).mono ?_
            rintro e w5 ⟨rfl, hb5⟩
            have HI5 := hide (HAl.out.1.below hb5 HAl.out.1.bel.size)
            have HK5 := hide (HAl.out.2.below hb5 HAl.out.2.lt)
            have k0 := HK5.out.cell 0
            have k1 := HK5.out.cell 1
            have hs5 := HI5.out.bel.size
            have fn := HI5.out.nx.frozen i
            have fn1 := HI5.out.nx.frozen (i + 1)
            have cn := HI5.out.nx.cell (j := i) (by omega)
            have cn1 := HI5.out.nx.cell (j := i + 1) (by omega)
            obtain ⟨o0, ho0⟩ : ∃ o0, nxP t av y i i = o0 := ⟨_, rfl⟩
            obtain ⟨o1, ho1⟩ : ∃ o1, nxP t av y i (i + 1) = o1 := ⟨_, rfl⟩
            rw [ho0] at cn
            rw [ho1] at cn1
            have i1 : (i : Int) + 1 < ((n + 1 : Nat) : Int) := by omega
            have i2 : (0 : Int) ≤ (i : Int) + 1 := by omega
            have i3 : ((i : Int) + 1).toNat = i + 1 := by omega
            have i5 : IntKind.wrap .i64 ((i : Int) + 1) = (i : Int) + 1 := by simp [IntKind.wrap, IntKind.bits, IntKind.signed]; omega
            clear hb5 ho0 ho1
            cases tk
            · go_wp2
              go_roundw
              case rel => exact ⟨i + 1, by omega, by go_num, HI5.out.ps, HI5.out.nx.congr (fun j _ => by rw [HN.out]; simp), HI5.out.bel, HI5.out.ne⟩
              case measure => simp [intOf]; omega
            · cases st
              · go_wp2
                go_roundw
                case rel => exact ⟨i + 1, by omega, by go_num, HI5.out.set (fun j _ => by rw [HN.out]; simp)⟩
                case measure => simp [intOf]; omega
              · go_wp2
                go_roundw
                case rel => exact ⟨i + 1, by omega, by go_num, HI5.out.set (fun j _ => by rw [HN.out]; simp)⟩
                case measure => simp [intOf]; omega
        · obtain rfl : i = n := by omega
          have HE : Hid (RowB w.heap.size wr gn (i + 1) (i + 1) (Bt t l i k)) := hide (HIr.out.nx.congr (fun j hj => by
            rw [← HAv.out, ← HYi.out]; exact (nxP_Bt t l i k (by omega)).symm))
          have fq := HIr.out.ps.at_.frozen 0
          have cq := blk_read HIr.out.ps.at_ (i := 0) (v := .slice (some ⟨g, 0, none⟩) (i + 1) c') rfl
          have lq := HIr.out.ps.at_.lt
          have HPs4 : Hid (PsSt w.heap.size (wr.setCell ⟨q, 0, none⟩ (.slice (some ⟨gn, 0, none⟩) (i + 1) (i + 1))) w.heap.size q gn (i + 1) i A c (Bt t l i k)) := hide ⟨HIr.out.ps.tk.far (by intro e; exact HIr.out.ps.tk.ne_ HIr.out.ps.at_ (by decide) e) _, HIr.out.ps.at_.set0 rfl, HE.out.far (by intro e; exact HE.out.ne HIr.out.ps.at_ (by decide) e) _⟩
          have HBs4 : Hid (Below w.heap.size w (wr.setCell ⟨q, 0, none⟩ (.slice (some ⟨gn, 0, none⟩) (i + 1) (i + 1)))) := hide (HIr.out.bel.setCell (p := ⟨q, 0, none⟩) hqs _)
          have HPc := hide (pass_any w.heap.size q gn (i + 1) i c A ts _ w _ HT.out HBs4.out HPs4.out hn)
          clear hIn
          go_wp2_with fail
          refine HPc.out.mono ?_
          rintro e w6 ⟨rfl, hp6, hb6⟩
          rw [HTe.out] at hp6
          have HP6 : Hid (PsSt w.heap.size w6 w.heap.size q gn (i + 1) i A c (fun j => Ap t l i j (k + 1))) := hide (hp6.congr (fun j hj => (passP_Bt t l i k j (by omega)).symm))
          have HB6 := hide hb6
          clear hp6 hb6
          go_wp2
          go_roundw
          case rel => exact ⟨k + 1, _, _, by omega, by go_num, HP6.out, HB6.out⟩
          case measure => simp [intOf]; omega
    · obtain rfl : k = m := by omega
      have cq := blk_read hp.at_ (i := 0) (v := .slice (some ⟨g, 0, none⟩) (n + 1) c') rfl
      have cn := hp.row.cell (j := n) (by omega)
      have ct := blk_read hp.tk (i := 0) (v := .slice A n c) rfl
      have lc := hp.row.2.2.2
      obtain ⟨r, hr⟩ : ∃ r, Ap t l n n k = r := ⟨_, rfl⟩
      rw [hr] at cn
      have HRr : Hid (MatchP ts ls = r) := hide (by rw [HR.out, ← Ap_last t l n k, hr])
      have i4 : (n : Int) < ((n + 1 : Nat) : Int) := by omega
      clear hp hb hr
      go_wp2
      go_ret
      exact ⟨ret_bool HRr.out.symm, HBk.out⟩
end Go.Proofs.YtiibglkiakhfgaaDoor
