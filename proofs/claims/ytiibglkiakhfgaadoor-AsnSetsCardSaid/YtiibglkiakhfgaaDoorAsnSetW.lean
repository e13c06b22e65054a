import Derived.Test.YtiibglkiakhfgaaDoorAsnSort
import Derived.Test.YtiibglkiakhfgaaDoorShFmt
set_option linter.unusedSimpArgs false
set_option linter.unusedVariables false
namespace Go.Proofs.YtiibglkiakhfgaaDoor
open Go.RowKit
open Go.Sort (swp insInner insOuter insertionSort)
set_option maxHeartbeats 1000000 in
theorem clone_any (g o n c : Nat) (l : List Nat) (w : World) (h : U32s w (some ⟨g, o, none⟩) n c l) (hn : n ≤ 10000) :
    Calls Tryd.prog 124 #[.slice (some ⟨g, o, none⟩) n c] w fun e w' => ∃ v, e = .returned v ∧ Own32 w w' v l := by
  obtain ⟨i0, hi, hz0, hz1, hz2⟩ := info_parts info32
  have HR := hide h.reads
  have HL := hide h.1
  have hnil := fun w => Lib.run_eql_slice_nil (P := Tryd.prog) w
  clear h
  go_enter Tryd.func124, Tryd.ntmps124
  go_wp2_with (at_builtin; refine wpList_append_any _ rfl (.tmp 5) (.tmp 6) 27 rfl w.heap.size 22 i0 _ 1 4 Tryd.underlying27 hi hz0 hz1 hz2 rfl (by decide) (.slice (some ⟨w.heap.size, 0, none⟩) 0 0) 0 [] rfl (own_made0 w) w.heap.size (some ⟨g, o, none⟩) n c (u32c l) rfl (HR.out.alloc (Nat.le_refl _) _) (u32c_one _) (by unfold maxLen; omega) (by omega) (by simp) ?_; intro v' w1 hown' hgrow _)
  go_ret
  refine ⟨_, rfl, ?_, ?_⟩
  · rw [HL.out]; simpa using hown'
  · exact ((Below.refl _ _).alloc (Nat.le_refl _) _).grown hgrow (by simp) (fun k hk => by simp [Value.ownBlock] at hk; omega)

theorem builder_ws (B b : Nat) (bs : List Value) (s : ByteArray) (w : World) (h : Lib.IsBuilder 112 5 B b bs w) (hlen : bs.length + s.size ≤ 140737488355328) (hBw : B ≤ w.heap.size) :
    Calls Tryd.prog 99 #[.pointer (some ⟨b, 0, none⟩), .string s] w fun e w' => e = .returned (.tuple #[.int .i64 s.size, .nilIface]) ∧ (Lib.BuilderAt 112 5 B b (.pointer (some ⟨b, 0, none⟩)) (bs ++ Lib.strCells s) w' ∧ Below B w w') :=
  Any.Builder_WriteString { Tryd.lays156 with } Tryd.Builder_Extra_156 B b bs s w h hlen hBw
theorem builder_str (B b : Nat) (l : List UInt8) (w : World) (h : Lib.IsBuilder 112 5 B b (Lib.byteCells l) w) (h0 : l ≠ []) :
    Calls Tryd.prog 101 #[.pointer (some ⟨b, 0, none⟩)] w fun e w' => e = .returned (.string ⟨l.toArray⟩) ∧ Below B w w' := Any.Builder_String { Tryd.lays156 with } Tryd.Builder_Extra_156 B b l w h h0
set_option maxHeartbeats 1000000 in
theorem sort_small (base g cap : Nat) (d : Array Nat) (w : World) (h : RowN base g cap w d) (hsz : d.size ≤ 12) :
    Calls Tryd.prog 125 #[.slice (some ⟨g, 0, none⟩) d.size cap] w fun e w' => e = .returned (.tuple #[]) ∧ RowN base g cap w' (insertionSort ltN d 0 d.size) ∧ Below base w w' := by
  have HI := hide (insSort_any base g cap 0 d.size d w h (Nat.zero_le _) (Nat.le_refl _) (by omega))
  obtain ⟨n, hn⟩ : ∃ n, d.size = n := ⟨_, rfl⟩
  rw [hn] at HI hsz ⊢
  clear h hn
  have HL := hide (fun w => Tryd.bits_Len (n : Int) w (by omega) (by omega))
  obtain ⟨q, hq⟩ : ∃ q, Lib.bitLen (n : Int).toNat = q := ⟨_, rfl⟩
  rw [hq] at HL
  clear hq
  have HP : Hid (Calls Tryd.prog 158 #[.slice (some ⟨g, 0, none⟩) n cap, .int .i64 0, .int .i64 n, .int .i64 q] w fun e w' => e = .returned (.tuple #[]) ∧ RowN base g cap w' (insertionSort ltN d 0 n) ∧ Below base w w') := hide (by
    go_enter Tryd.func158, Tryd.ntmps158
    go_wp2
    refine wp_loop_rounds 1 ?_; rw [rounds_succ]
    go_wp2_with fail
    refine HI.out.mono ?_
    rintro e w1 ⟨rfl, hr, hb⟩
    have HR := hide hr
    have HB := hide hb
    clear hr hb
    go_wp2
    refine bodyPost_ret (results_none rfl _ _ _) rfl ?_
    exact ⟨rfl, HR.out, HB.out⟩)
  go_enter Tryd.func125, Tryd.ntmps125
  go_wp2_with fail
  refine (HL.out _).mono ?_
  rintro e w1 ⟨rfl, rfl⟩
  go_wp2_with fail
  refine HP.out.mono ?_
  rintro e w1 ⟨rfl, hr, hb⟩
  have HR := hide hr
  have HB := hide hb
  clear hr hb
  go_wp2
  go_end0
  exact ⟨rfl, HR.out, HB.out⟩
set_option maxHeartbeats 1000000 in
theorem fmtU_small (n : Nat) (h : n < 100) (w : World) : Calls Tryd.prog 180 #[.int .u64 n, .int .i64 10] w fun e w' => e = .returned (.string (str (Lib.decDigits n))) ∧ w = w' := by
  have HS := hide (fun w => Tryd.internal_strconv_small n h w)
  have HF : Hid (∀ w, Calls Tryd.prog 209 #[.int .u64 n, .int .i64 10] w fun e w' => e = .returned (.string (str (Lib.decDigits n))) ∧ w = w') := hide (fun w => by
    go_enter Tryd.func209, Tryd.ntmps209
    go_wp2_with fail
    refine (HS.out _).mono ?_
    rintro e w1 ⟨rfl, rfl⟩
    go_wp2
    go_ret
    exact ⟨rfl, rfl⟩)
  go_enter Tryd.func180, Tryd.ntmps180
  go_wp2_with fail
  refine (HF.out _).mono ?_
  rintro e w1 ⟨rfl, rfl⟩
  go_wp2
  go_ret
  exact ⟨rfl, rfl⟩
/-- Numbers' digits, a blank between. -/
def jn (l : List Nat) : List UInt8 := l.foldl (fun acc x => (if acc = [] then [] else acc ++ [32]) ++ Lib.decDigits x) []
theorem jn_snoc (l : List Nat) (x : Nat) : jn (l ++ [x]) = (if jn l = [] then [] else jn l ++ [32]) ++ Lib.decDigits x := by
  unfold jn; rw [List.foldl_append]; rfl
theorem jn_nil (l : List Nat) : jn l = [] ↔ l = [] := by
  constructor
  · intro h
    rcases List.eq_nil_or_concat l with rfl | ⟨l', x, rfl⟩
    · rfl
    · rw [List.concat_eq_append, jn_snoc] at h
      exact absurd (List.append_eq_nil_iff.1 h).2 (dec_ne x)
  · rintro rfl; rfl
theorem jn_len_aux : ∀ (l : List Nat) (acc : List UInt8), (∀ x ∈ l, x < 4294967296) → (l.foldl (fun acc x => (if acc = [] then [] else acc ++ [32]) ++ Lib.decDigits x) acc).length ≤ acc.length + 11 * l.length
  | [], acc, _ => by simp
  | x :: l, acc, h => by
    have h1 := jn_len_aux l ((if acc = [] then [] else acc ++ [32]) ++ Lib.decDigits x) (fun y hy => h y (by simp [hy]))
    have h2 := dec_len x 9 (by have := h x (by simp); omega)
    rw [List.foldl_cons]
    refine Nat.le_trans h1 ?_
    rw [List.length_append, List.length_cons]
    split
    · simp; omega
    · simp; omega
theorem jn_len (l : List Nat) (h : ∀ x ∈ l, x < 4294967296) : (jn l).length ≤ 11 * l.length := by
  have := jn_len_aux l [] h
  simpa [jn] using this
theorem bytes_app (a b : List UInt8) : Lib.byteCells a ++ Lib.strCells (str b) = Lib.byteCells (a ++ b) := by simp [Lib.byteCells, Lib.strCells, str]
set_option maxRecDepth 100000 in
set_option maxHeartbeats 2000000 in
theorem asnText_small (A : Option Addr) (n c : Nat) (l : List Nat) (w : World) (h : U32s w A n c l) (hn : 0 < n) (hn2 : n ≤ 1000) (hsm : ∀ x ∈ l, x < 100) :
    Calls Tryd.prog 154 #[.slice A n c] w fun e w' => e = .returned (.string (str (jn l))) ∧ Below w.heap.size w w' := by
  have HA := hide (U32lo.start h)
  have hm := h.2.2.1
  have hnc := h.2.1
  unfold maxLen at hm
  have HSm := hide hsm
  have hne : ((n : Int) == 0) = false := by simp; omega
  have HB0 : Hid (Lib.IsBuilder 112 5 w.heap.size w.heap.size (Lib.byteCells (jn (l.take 0))) (w.alloc (.cells #[.pointer none, .slice none 0 0] 112))) := hide (Lib.fresh_isBuilder 112 5 w)
  clear h hsm
  go_enter Tryd.func154, Tryd.ntmps154
  go_wp2
  go_loopw [11] (fun i wr => ∃ k : Nat, k ≤ n ∧ i = .int .i64 k ∧ Lib.IsBuilder 112 5 w.heap.size w.heap.size (Lib.byteCells (jn (l.take k))) wr ∧ Below w.heap.size w wr) (fun i _ => n - (intOf i).toNat)
  case atStart => exact ⟨0, by omega, rfl, HB0.out, (Below.refl _ _).alloc (Nat.le_refl _) _⟩
  case round =>
    obtain ⟨k, hk, rfl, hb, hbel⟩ := hrel
    have HB := hide hb
    have HBel := hide hbel
    have HA2 := hide (HA.out.keep hbel)
    have hsz := hbel.size
    clear hb hbel
    by_cases hlt : k < n
    · obtain ⟨g, o, x, rfl, hg, hx, hx2, hc⟩ := HA2.out.1.at_ hlt
      have hx100 := HSm.out x (List.mem_of_getElem? hx)
      have HSn := hide (show jn (l.take (k + 1)) = (if jn (l.take k) = [] then [] else jn (l.take k) ++ [32]) ++ Lib.decDigits x by rw [take_snoc_eq hx, jn_snoc])
      have hjl : (jn (l.take k)).length ≤ 11000 := by
        have h1 := jn_len (l.take k) (fun y hy => by have := HSm.out y (List.mem_of_mem_take hy); omega)
        have h2 : (l.take k).length ≤ k := List.length_take_le _ _
        omega
      have hdl := dec_len x 9 (by omega)
      have HF := hide (fmtU_small x hx100)
      have HTk : Hid (l.take k = [] ↔ k = 0) := hide (by
        constructor
        · intro h; have := congrArg List.length h; rw [List.length_take, HA2.out.1.1] at this; simp at this; omega
        · rintro rfl; rfl)
      clear hx
      by_cases hk0 : k = 0
      · subst hk0
        have hc' : wr.cell? ⟨g, o, none⟩ = some (.int .u32 (x : Int)) := by simpa using hc
        clear hc
        go_wp2_with fail
        refine (HF.out _).mono ?_
        rintro e w1 ⟨rfl, rfl⟩
        go_wp2_with fail
        refine (builder_ws _ _ _ (str (Lib.decDigits x)) _ HB.out (by rw [Lib.byteCells_length, str_size]; omega) hsz).mono ?_
        rintro e w2 ⟨rfl, hb2, hbel2⟩
        have HB2 : Hid (Lib.IsBuilder 112 5 w.heap.size w.heap.size (Lib.byteCells (jn (l.take 1))) w2) := hide (by
          rw [bytes_app] at hb2
          rw [HSn.out]
          have e : jn (l.take 0) = [] := rfl
          rw [e] at hb2 ⊢
          exact .inr hb2)
        have HBel2 := hide (HBel.out.trans hbel2)
        clear hb2 hbel2
        go_wp2
        go_roundw
        case rel => exact ⟨1, by omega, by go_num, HB2.out, HBel2.out⟩
        case measure => simp [intOf]; omega
      · have hkp : 0 < k := by omega
        go_wp2_with fail
        refine (builder_ws _ _ _ (str [32]) _ HB.out (by rw [Lib.byteCells_length, str_size]; simp; omega) hsz).mono ?_
        rintro e w2 ⟨rfl, hb2, hbel2⟩
        have HB2 := hide hb2
        have hsz2 := hbel2.size
        have HBel2 := hide (HBel.out.trans hbel2)
        clear hb2 hbel2
        go_wp2_with fail
        refine (HF.out _).mono ?_
        rintro e w1 ⟨rfl, rfl⟩
        go_wp2_with fail
        refine (builder_ws _ _ _ (str (Lib.decDigits x)) _ (.inr HB2.out) (by rw [bytes_app, Lib.byteCells_length, str_size]; simp; omega) (by omega)).mono ?_
        rintro e w3 ⟨rfl, hb3, hbel3⟩
        have HB3 : Hid (Lib.IsBuilder 112 5 w.heap.size w.heap.size (Lib.byteCells (jn (l.take (k + 1)))) w3) := hide (by
          rw [bytes_app, bytes_app] at hb3
          rw [HSn.out, if_neg (fun h => hk0 (HTk.out.1 ((jn_nil _).1 h)))]
          exact .inr hb3)
        have HBel3 := hide (HBel2.out.trans hbel3)
        clear hb3 hbel3
        go_wp2
        go_roundw
        case rel => exact ⟨k + 1, by omega, by go_num, HB3.out, HBel3.out⟩
        case measure => simp [intOf]; omega
    · obtain rfl : k = n := by omega
      have HB2 : Hid (Lib.IsBuilder 112 5 w.heap.size w.heap.size (Lib.byteCells (jn l)) wr) := hide (by
        have := HB.out
        rwa [List.take_of_length_le (by rw [HA2.out.1.1]; exact Nat.le_refl _)] at this)
      have hnz : jn l ≠ [] := fun h => by
        have := (jn_nil l).1 h
        have h2 := HA2.out.1.1
        rw [this] at h2; simp at h2; omega
      have HNZ := hide hnz
      clear hnz
      go_wp2_with fail
      refine (builder_str _ _ _ _ HB2.out HNZ.out).mono ?_
      rintro e w2 ⟨rfl, hbel2⟩
      have HBel2 := hide (HBel.out.trans hbel2)
      clear hbel2
      go_wp2
      go_ret
      exact ⟨rfl, HBel2.out⟩
/-- Where Compact stands: q of d's numbers are gone over, the first k cells of d' hold them, each once. -/
structure CompInv (d d' : Array Nat) (k q : Nat) : Prop where
  size : d'.size = d.size
  le : 1 ≤ k ∧ k ≤ q ∧ q ≤ d.size
  rest : ∀ i, q ≤ i + 1 → d'[i]! = d[i]! ∨ i + 1 = q
  rise : ∀ i, i + 1 < k → d'[i]! < d'[i + 1]!
  last : d'[k - 1]! = d[q - 1]!
  mem : ∀ x, (∃ i, i < k ∧ d'[i]! = x) ↔ (∃ i, i < q ∧ d[i]! = x)
def Up (d : Array Nat) : Prop := ∀ i, i + 1 < d.size → d[i]! ≤ d[i + 1]!
theorem get_set (d : Array Nat) (k x i : Nat) (hk : k < d.size) : (d.setIfInBounds k x)[i]! = if i = k then x else d[i]! := by
  simp only [getElem!_def, Array.getElem?_setIfInBounds]
  by_cases h : k = i
  · subst h; simp [hk]
  · have : ¬ i = k := fun e => h e.symm
    simp [h, this]
theorem set_self (d : Array Nat) (k : Nat) : d.setIfInBounds k d[k]! = d := by
  apply Array.ext_getElem?
  intro i
  rw [Array.getElem?_setIfInBounds]
  by_cases h : k = i
  · subst h
    by_cases hk : k < d.size
    · simp [hk]
    · simp [hk]
  · simp [h]
theorem CompInv.start {d : Array Nat} (h : 1 ≤ d.size) : CompInv d d 1 1 := ⟨rfl, by omega, fun _ _ => .inl rfl, fun i hi => by omega, rfl, fun x => Iff.rfl⟩
theorem CompInv.skip {d d' : Array Nat} {k q : Nat} (h : CompInv d d' k q) (hq : q < d.size) (he : d[q]! = d[q - 1]!) : CompInv d d' k (q + 1) := by
  obtain ⟨h1, h2, h3, h4, h5, h6⟩ := h
  refine ⟨h1, by omega, fun i hi => ?_, h4, by rw [h5, Nat.add_sub_cancel, he], fun x => ?_⟩
  · rcases h3 i (by omega) with h | h
    · exact .inl h
    · omega
  · rw [h6 x]
    constructor
    · rintro ⟨i, hi, hx⟩; exact ⟨i, by omega, hx⟩
    · rintro ⟨i, hi, hx⟩
      by_cases hiq : i < q
      · exact ⟨i, hiq, hx⟩
      · obtain rfl : i = q := by omega
        exact ⟨i - 1, by omega, by rw [← he]; exact hx⟩
theorem CompInv.put {d d' : Array Nat} {k q : Nat} (h : CompInv d d' k q) (hu : Up d) (hq : q < d.size) (hne : d[q]! ≠ d[q - 1]!) : CompInv d (d'.setIfInBounds k d[q]!) (k + 1) (q + 1) := by
  obtain ⟨h1, h2, h3, h4, h5, h6⟩ := h
  have hk : k < d'.size := by omega
  have hlt : d[q - 1]! < d[q]! := by
    have := hu (q - 1) (by omega)
    rw [show q - 1 + 1 = q by omega] at this
    omega
  refine ⟨by simpa using h1, by omega, fun i hi => ?_, fun i hi => ?_, ?_, fun x => ?_⟩
  · rw [get_set _ _ _ _ hk]
    by_cases hik : i = k
    · subst hik
      rw [if_pos rfl]
      by_cases hqk : q = i
      · left; rw [hqk]
      · omega
    · rw [if_neg hik]
      rcases h3 i (by omega) with h | h
      · exact .inl h
      · omega
  · rw [get_set _ _ _ _ hk, get_set _ _ _ _ hk, if_neg (by omega)]
    by_cases hik : i + 1 = k
    · rw [if_pos hik]
      have : i = k - 1 := by omega
      rw [this, h5]; exact hlt
    · rw [if_neg hik]; exact h4 i (by omega)
  · rw [Nat.add_sub_cancel, Nat.add_sub_cancel, get_set _ _ _ _ hk, if_pos rfl]
  · constructor
    · rintro ⟨i, hi, hx⟩
      rw [get_set _ _ _ _ hk] at hx
      by_cases hik : i = k
      · rw [if_pos hik] at hx; exact ⟨q, by omega, hx⟩
      · rw [if_neg hik] at hx
        obtain ⟨j, hj, hjx⟩ := (h6 x).1 ⟨i, by omega, hx⟩
        exact ⟨j, by omega, hjx⟩
    · rintro ⟨i, hi, hx⟩
      by_cases hiq : i = q
      · subst hiq
        exact ⟨k, by omega, by rw [get_set _ _ _ _ hk, if_pos rfl]; exact hx⟩
      · obtain ⟨j, hj, hjx⟩ := (h6 x).2 ⟨i, by omega, hx⟩
        exact ⟨j, by omega, by rw [get_set _ _ _ _ hk, if_neg (by omega)]; exact hjx⟩
theorem CompInv.grow {d : Array Nat} {k : Nat} (h : CompInv d d k k) (hu : Up d) (hk : k < d.size) (hne : d[k]! ≠ d[k - 1]!) : CompInv d d (k + 1) (k + 1) := by
  have := h.put hu hk hne
  rwa [set_self] at this
theorem CompInv.done {d d' : Array Nat} {k : Nat} (h : CompInv d d' k d.size) : d'.toList.take k = setOf d.toList := by
  obtain ⟨h1, h2, h3, h4, h5, h6⟩ := h
  have hg : ∀ (e : Array Nat) i, i < e.size → e.toList[i]? = some (e[i]!) := fun e i hi => by simp [hi]
  refine rise_ext ?_ (setOf_rise _) fun x => ?_
  · have hmono : ∀ j i, i < j → j < k → d'[i]! < d'[j]! := by
      intro j
      induction j with
      | zero => intro i hi; omega
      | succ j ih =>
        intro i hi hj
        have hs := h4 j hj
        by_cases hij : i = j
        · subst hij; exact hs
        · have := ih i (by omega) (by omega); omega
    unfold Rise
    rw [List.pairwise_iff_getElem]
    intro i j hi hj hij
    rw [List.length_take] at hi hj
    have a := hg d' i (by omega)
    have b := hg d' j (by omega)
    rw [List.getElem_take, List.getElem_take]
    rw [List.getElem?_eq_getElem (by simp; omega)] at a b
    rw [Option.some.inj a, Option.some.inj b]
    exact hmono j i hij (by omega)
  · rw [setOf_mem]
    constructor
    · intro hx
      obtain ⟨i, hi⟩ := List.getElem?_of_mem hx
      rw [List.getElem?_take] at hi
      split at hi
      · rename_i hik
        have hsz : i < d'.size := by have := (List.getElem?_eq_some_iff.1 hi).1; simpa using this
        rw [hg d' i hsz] at hi
        obtain ⟨j, hj, hjx⟩ := (h6 x).1 ⟨i, hik, Option.some.inj hi⟩
        exact List.mem_of_getElem? ((hg d j hj).trans (by rw [hjx]))
      · cases hi
    · intro hx
      obtain ⟨i, hi⟩ := List.getElem?_of_mem hx
      have hsz : i < d.size := by have := (List.getElem?_eq_some_iff.1 hi).1; simpa using this
      rw [hg d i hsz] at hi
      obtain ⟨j, hj, hjx⟩ := (h6 x).2 ⟨i, hsz, Option.some.inj hi⟩
      refine List.mem_of_getElem? (i := j) ?_
      rw [List.getElem?_take, if_pos hj, hg d' j (by omega), hjx]
/-- The first cells of a row alone. -/
theorem RowN.cut {base g cap k : Nat} {w : World} {d : Array Nat} (h : RowN base g cap w d) (hk : k ≤ d.size) : w.ownsRow base 22 1 (.slice (some ⟨g, 0, none⟩) k cap) k (u32c (d.toList.take k)) := by
  obtain ⟨h1, h2, h3, h4, h5, h6⟩ := h
  rcases h1.2 with ⟨hv, _⟩ | ⟨g', cap', cur, hv, r1, r2, r3, r4, r5, r6⟩
  · cases hv
  · cases hv
    refine ⟨by simp [u32c]; omega, .inr ⟨g, cap, cur, rfl, r1, r2, by omega, r4, r5, ?_⟩⟩
    have e : u32c (d.toList.take k) = (u32c d.toList).take k := by simp [u32c, List.map_take]
    rw [e, ← r6, List.take_take]
    congr 1; omega
theorem own_clear {base g cap k : Nat} {xs : List Value} : ∀ (vs : List Value) (j : Nat) {w : World}, w.ownsRow base 22 1 (.slice (some ⟨g, 0, none⟩) k cap) k xs → k ≤ j → (w.setCells g j vs).ownsRow base 22 1 (.slice (some ⟨g, 0, none⟩) k cap) k xs
  | [], _, _, h, _ => h
  | v :: vs, j, w, h, hj => by
    refine own_clear vs (j + 1) ?_ (by omega)
    have := (h.stored j v).1
    rwa [List.set_eq_of_length_le (by have := h.1; simp at this; omega)] at this
theorem below_clear {base g : Nat} (hg : base ≤ g) : ∀ (vs : List Value) (j : Nat) {a w : World}, Below base a w → Below base a (w.setCells g j vs)
  | [], _, _, _, h => h
  | v :: vs, j, a, w, h => below_clear hg vs (j + 1) (h.setCell (p := ⟨g, j, none⟩) hg v)
theorem clearRun (w : World) (g o n c : Nat) (hn : 0 < n) (hc : ∀ j, j < n → (w.cell? ⟨g, o + j, none⟩).isSome = true) (hf : ∀ j, j < n → w.frozen? ⟨g, o + j, none⟩ = false) (ty : TypeId) :
    (Builtin.clear_ #[27] ty #[.slice (some ⟨g, o, none⟩) n c]).run Tryd.prog w = .ok (.tuple #[]) (w.setCells g o (List.replicate n (.int .u32 0))) :=
  Lib.run_clear_slice w 27 22 ty (.int .u32 0) Tryd.underlying27 Tryd.zeroValue22 rfl rfl g o n c hn hc hf
set_option maxRecDepth 100000 in
set_option maxHeartbeats 4000000 in
theorem compact_any (base g cap : Nat) (d : Array Nat) (w : World) (h : RowN base g cap w d) (hu : Up d) (hsz : d.size ≤ 100000) (hs1 : 1 ≤ d.size) :
    Calls Tryd.prog 126 #[.slice (some ⟨g, 0, none⟩) d.size cap] w fun e w' => ∃ m, e = .returned (.slice (some ⟨g, 0, none⟩) m cap) ∧ m = (setOf d.toList).length ∧ w'.ownsRow base 22 1 (.slice (some ⟨g, 0, none⟩) m cap) m (u32c (setOf d.toList)) ∧ Below base w w' := by
  have HR := hide h
  have HUp := hide hu
  have hcap := h.2.2.2.2.2
  have hdc := h.2.2.2.2.1
  have hbg := h.2.2.1
  unfold maxLen at hcap
  have hfree := fun w (h : RowN base g cap w d) => h
  obtain ⟨n, hn⟩ : ∃ n, d.size = n := ⟨_, rfl⟩
  have HSt := hide (CompInv.start (d := d) hs1)
  have HFin : Hid (∀ (w' : World) (d' : Array Nat) (k : Nat), RowN base g cap w' d' → CompInv d d' k d.size → w'.ownsRow base 22 1 (.slice (some ⟨g, 0, none⟩) k cap) k (u32c (setOf d.toList)) ∧ k = (setOf d.toList).length) := hide (fun w' d' k hr hi => by
    have h1 := hr.cut (k := k) (by have := hi.size; have := hi.le; omega)
    rw [hi.done] at h1
    refine ⟨h1, ?_⟩
    have := congrArg List.length hi.done
    rw [List.length_take] at this
    have hh := hi.size; have hl := hi.le
    simp at this; omega)
  rw [hn] at hsz hdc hs1 HFin ⊢
  have HN := hide hn
  clear h hu hn hfree
  by_cases h2 : n < 2
  · obtain rfl : n = 1 := by omega
    have HF := hide (HFin.out w d 1 HR.out HSt.out)
    go_enter Tryd.func126, Tryd.ntmps126
    go_wp2
    go_ret
    exact ⟨_, rfl, HF.out.2, HF.out.1, Below.refl _ _⟩
  · go_enter Tryd.func126, Tryd.ntmps126
    go_wp2
    go_loopw [3] (fun i wr => ∃ k : Nat, k ≤ n ∧ i = .int .i64 k ∧ CompInv d d k k ∧ ∃ q, wr = w.drewN q) (fun i _ => n - (intOf i).toNat)
    case atStart => exact ⟨1, by omega, rfl, HSt.out, 0, rfl⟩
    case round =>
      obtain ⟨k, hk, rfl, hinv, q, rfl⟩ := hrel
      have HI := hide hinv
      have hk1 := hinv.le.1
      clear hinv
      by_cases hlt : k < n
      · obtain ⟨p, rfl⟩ : ∃ p, k = p + 1 := ⟨k - 1, by omega⟩
        have hc1 := HR.out.cell (j := p + 1) (by rw [HN.out]; omega)
        have hc2 := HR.out.cell (j := p) (by rw [HN.out]; omega)
        obtain ⟨x, hx⟩ : ∃ x, d[p + 1]! = x := ⟨_, rfl⟩
        obtain ⟨y, hy⟩ : ∃ y, d[p]! = y := ⟨_, rfl⟩
        rw [hx] at hc1
        rw [hy] at hc2
        have HX := hide hx
        have HY := hide hy
        clear hx hy
        have hi0 : (0 : Int) ≤ (p : Int) := by omega
        have hi1 : (p : Int) + 1 < (n : Int) := by omega
        have hi2 : (p : Int) < (n : Int) := by omega
        have hi3 : (0 : Int) ≤ (p : Int) + 1 := by omega
        by_cases hxy : x = y
        · have he : ((x : Int) == (y : Int)) = true := by simp [hxy]
          have HXY := hide hxy
          clear hxy
          have HI2 : Hid (CompInv d d (p + 1) (p + 1 + (0 + 1))) := hide (by
            have := HI.out.skip (by rw [HN.out]; exact hlt) (by rw [Nat.add_sub_cancel, HX.out, HY.out]; exact HXY.out)
            exact this)
          have hcp : ¬ cap = p + 1 := by omega
          have hi4 : (p : Int) + 1 ≤ (n : Int) := by omega
          have hi5 : (n : Int) ≤ (cap : Int) := by omega
          go_wp2
          go_quiet (fail)
          go_wp2
          obtain ⟨wo, hwo⟩ : ∃ wo, (w.drewN q).drewN nq = wo := ⟨_, rfl⟩
          have HRo : Hid (RowN base g cap wo d) := hide (by rw [← hwo]; exact (HR.out.drewN q).drewN nq)
          have HBo : Hid (Below base w wo) := hide (by rw [← hwo]; exact below_drewN (below_drewN (Below.refl _ _) _) _)
          obtain ⟨p0, hp0⟩ : ∃ p0, p = p0 := ⟨_, rfl⟩
          subst hp0
          go_loopw [3, 5] (fun a b wr => ∃ (k r : Nat) (d' : Array Nat), a = .int .i64 k ∧ b = .int .i64 ((r : Int) + 1) ∧ r + 1 ≤ n - (p + 1) ∧ CompInv d d' k (p + 1 + (r + 1)) ∧ k < p + 1 + (r + 1) ∧ d'[p + 1 + r]! = d[p + 1 + r]! ∧ RowN base g cap wr d' ∧ Below base w wr) (fun _ b _ => n - (intOf b).toNat)
          case atStart => exact ⟨p + 1, 0, d, by go_num, by go_num, by omega, HI2.out, by omega, rfl, by first | exact (HR.out.drewN _) | exact (HR.out.drewN _).drewN _, by first | exact below_drewN (Below.refl _ _) _ | exact below_drewN (below_drewN (Below.refl _ _) _) _⟩
          case round =>
            obtain ⟨k, r, d', rfl, rfl, hr, hinv, hkq, hrr, hrow, hbel⟩ := hrel
            have HI3 := hide hinv
            have HRR := hide hrr
            have HR3 := hide hrow
            have HB3 := hide hbel
            have hds := hinv.size
            have hle := hinv.le
            rw [HN.out] at hds hle
            clear hinv hrr hbel
            by_cases hlt2 : r + 1 < n - (p + 1)
            · have hc3 := hrow.cell (j := p + 1 + (r + 1)) (by omega)
              have hc4 := hrow.cell (j := p + 1 + r) (by omega)
              have hfz := hrow.1.frozenAt k
              have hck := hrow.cell (j := k) (by omega)
              clear hrow
              obtain ⟨x2, hx2⟩ : ∃ x2, d[p + 1 + (r + 1)]! = x2 := ⟨_, rfl⟩
              obtain ⟨y2, hy2⟩ : ∃ y2, d[p + 1 + r]! = y2 := ⟨_, rfl⟩
              have hdx : d'[p + 1 + (r + 1)]! = x2 := by
                rcases HI3.out.rest (p + 1 + (r + 1)) (by omega) with h | h
                · rw [h, hx2]
                · omega
              rw [hdx] at hc3
              rw [HRR.out, hy2] at hc4
              have HX2 := hide hx2
              have HY2 := hide hy2
              have HDX := hide hdx
              have hx3 : x2 < 4294967296 := by rw [← hdx]; exact HR3.out.val _
              clear hx2 hy2 hdx
              have hj0 : (0 : Int) ≤ (r : Int) := by omega
              have hj1 : (0 : Int) ≤ (r : Int) + 1 := by omega
              have hj2 : (r : Int) + 1 < (n : Int) - ((p : Int) + 1) := by omega
              have hj3 : (r : Int) < (n : Int) - ((p : Int) + 1) := by omega
              have hj4 : (k : Int) < (n : Int) := by omega
              by_cases hxy2 : x2 = y2
              · have he2 : ((x2 : Int) != (y2 : Int)) = false := by simp [hxy2]
                have HI4 : Hid (CompInv d d' k (p + 1 + (r + 1 + 1))) := hide (by
                  have := HI3.out.skip (by rw [HN.out]; omega) (by rw [show p + 1 + (r + 1) - 1 = p + 1 + r by omega, HX2.out, HY2.out]; exact hxy2)
                  exact this)
                clear hxy2
                go_wp2
                go_quiet (fail)
                go_wp2
                go_roundw
                case rel => exact ⟨k, r + 1, d', rfl, by go_num, by omega, HI4.out, by omega, by rw [show p + 1 + (r + 1) = p + 1 + (r + 1) from rfl, HDX.out, HX2.out], HR3.out.drewN _, below_drewN HB3.out _⟩
                case measure => simp [intOf]; omega
              · have he2 : ((x2 : Int) != (y2 : Int)) = true := by simp; omega
                have HI4 : Hid (CompInv d (d'.setIfInBounds k x2) (k + 1) (p + 1 + (r + 1 + 1))) := hide (by
                  have := HI3.out.put HUp.out (by rw [HN.out]; omega) (by rw [show p + 1 + (r + 1) - 1 = p + 1 + r by omega, HX2.out, HY2.out]; exact hxy2)
                  rw [HX2.out] at this
                  exact this)
                clear hxy2
                go_wp2
                go_quiet (fail)
                go_wp2
                go_roundw
                case rel => exact ⟨k + 1, r + 1, d'.setIfInBounds k x2, by go_num, by go_num, by omega, HI4.out, by omega, by rw [get_set _ _ _ _ (by omega), if_neg (by omega), HDX.out, HX2.out], (HR3.out.drewN _).set_ hx3, (below_drewN HB3.out _).setCell (by exact HR3.out.2.2.1) _⟩
                case measure => simp [intOf]; omega
            · have hkn : k < n := by omega
              have hrn : p + 1 + (r + 1) = n := by omega
              have HI4 : Hid (CompInv d d' k d.size) := hide (by rw [HN.out, ← hrn]; exact HI3.out)
              have hcl := clearRun wr g k (n - k) (cap - k) (by omega) (fun j hj => by rw [HR3.out.cell (by omega)]; rfl) (fun j hj => HR3.out.1.frozenAt (k + j))
              have HF : Hid (wr.ownsRow base 22 1 (.slice (some ⟨g, 0, none⟩) k cap) k (u32c (setOf d.toList)) ∧ k = (setOf d.toList).length) := hide (HFin.out wr d' k HR3.out (by have := HI4.out; rwa [HN.out] at this))
              have hck : ¬ cap = k := by omega
              have hj4 : (k : Int) < (n : Int) := by omega
              clear hrow hrn
              go_wp2
              go_ret
              exact ⟨_, rfl, HF.out.2, own_clear _ _ HF.out.1 (Nat.le_refl _), below_clear (by exact HR3.out.2.2.1) _ _ HB3.out⟩
        · have he : ((x : Int) == (y : Int)) = false := by simp; omega
          have HI2 := hide (HI.out.grow HUp.out (by rw [HN.out]; exact hlt) (by rw [Nat.add_sub_cancel, HX.out, HY.out]; exact hxy))
          clear hxy
          go_wp2
          go_quiet (fail)
          go_wp2
          go_roundw
          case rel => exact ⟨p + 1 + 1, by omega, by go_num, HI2.out, _, rfl⟩
          case measure => simp [intOf]; omega
      · obtain rfl : k = n := by omega
        have HF := hide (HFin.out (w.drewN q) d k (HR.out.drewN q) (by have := HI.out; rwa [← HN.out] at this ⊢))
        go_wp2
        go_ret
        exact ⟨_, rfl, HF.out.2, HF.out.1, below_drewN (Below.refl _ _) _⟩
theorem row_of_own {base : Nat} {w : World} {v : Value} {l : List Nat} (h : w.ownsRow base 22 1 v l.length (u32c l)) (hl : 0 < l.length) (hb : ∀ x ∈ l, x < 4294967296) :
    ∃ g cap, v = .slice (some ⟨g, 0, none⟩) l.length cap ∧ RowN base g cap w l.toArray := by
  rcases h.2 with ⟨_, h0⟩ | ⟨g, cap, cur, hv, h1, h2, h3, h4, h5, h6⟩
  · omega
  · subst hv
    refine ⟨g, cap, rfl, ?_, by simpa using hb, h1, (Array.getElem?_eq_some_iff.1 h2).1, by simpa using h3, h4⟩
    simpa using h
theorem ltN_swo : Go.Sort.SWO ltN := ⟨fun x => by simp [ltN], fun x y z => by simp [ltN]; omega, fun x y z => by simp [ltN]; omega⟩
theorem sorted_up {d : Array Nat} (h : Go.Sort.SortedIn ltN 0 d.size d) : Up d := fun i hi => by
  have := h i (i + 1) (by omega) (by omega) hi
  simp [ltN] at this
  exact this
theorem perm_mem {d d' : Array Nat} (h : Go.Sort.PermIn 0 d.size d d') : d'.size = d.size ∧ ∀ x, x ∈ d'.toList ↔ x ∈ d.toList := by
  obtain ⟨h1, _, h3⟩ := h
  refine ⟨h1, fun x => ?_⟩
  have := h3.mem_iff (a := x)
  rw [show (d'.extract 0 d.size).toList = d'.toList by rw [← h1]; simp, show (d.extract 0 d.size).toList = d.toList by simp] at this
  exact this
theorem setOf_perm {l r : List Nat} (h : ∀ x, x ∈ l ↔ x ∈ r) : setOf l = setOf r :=
  rise_ext (setOf_rise _) (setOf_rise _) fun x => by rw [setOf_mem, setOf_mem, h]
set_option maxHeartbeats 1000000 in
theorem asnSet_small (g o n c : Nat) (l : List Nat) (w : World) (h : U32s w (some ⟨g, o, none⟩) n c l) (hn : n ≤ 12) (hn1 : 1 ≤ n) :
    Calls Tryd.prog 78 #[.slice (some ⟨g, o, none⟩) n c] w fun e w' => ∃ v, e = .returned v ∧ Own32 w w' v (setOf l) := by
  have hb := h.2.2.2.1
  have hl := h.1
  have HC := hide (clone_any g o n c l w h (by omega))
  have HL := hide hl
  have HBd := hide hb
  clear h hl hb
  go_enter Tryd.func78, Tryd.ntmps78
  go_wp2_with fail
  refine HC.out.mono ?_
  rintro e w1 ⟨v, rfl, ho, hb1⟩
  obtain ⟨g1, cap, rfl, hrow⟩ := row_of_own ho (by rw [HL.out]; exact hn1) HBd.out
  obtain ⟨d, hd⟩ : ∃ d, l.toArray = d := ⟨_, rfl⟩
  have hdl : d.toList = l := by rw [← hd]
  have hds : l.length = d.size := by rw [← hd]; simp
  rw [hd] at hrow
  have hds2 : d.size ≤ 12 := by rw [← hds, HL.out]; exact hn
  have hds1 : 1 ≤ d.size := by rw [← hds, HL.out]; exact hn1
  have HS := hide (sort_small w.heap.size g1 cap d w1 hrow hds2)
  have hspec := Go.Sort.insertionSort_holds (lt := ltN) ltN_swo d 0 d.size (Nat.zero_le _) (Nat.le_refl _)
  obtain ⟨hperm, hsort⟩ := hspec
  obtain ⟨d2, hd2⟩ : ∃ d2, insertionSort ltN d 0 d.size = d2 := ⟨_, rfl⟩
  rw [hd2] at HS hperm hsort
  obtain ⟨hsz2, hmem⟩ := perm_mem hperm
  have hup := sorted_up (d := d2) (by rw [hsz2]; exact hsort)
  have HSet : Hid (setOf d2.toList = setOf l) := hide (setOf_perm (fun x => by rw [hmem x, hdl]))
  have HUp := hide hup
  have HB1 := hide hb1
  rw [hds]
  have HSz2 := hide hsz2
  clear hd hdl hds hd2 hperm hsort hmem hup hb1 hrow ho hsz2
  go_wp2_with fail
  refine HS.out.mono ?_
  rintro e w2 ⟨rfl, hr2, hb2⟩
  have HCm := hide (compact_any w.heap.size g1 cap d2 w2 hr2 HUp.out (by rw [HSz2.out]; omega) (by rw [HSz2.out]; omega))
  have HB2 := hide (HB1.out.trans hb2)
  rw [HSz2.out] at HCm
  clear hr2 hb2
  go_wp2_with fail
  refine HCm.out.mono ?_
  rintro e w3 ⟨m, rfl, hm, ho3, hb3⟩
  rw [HSet.out] at hm ho3
  have HO3 := hide ho3
  have HM := hide hm
  have HB3 := hide (HB2.out.trans hb3)
  clear hm ho3 hb3
  go_wp2
  go_ret
  exact ⟨_, rfl, by rw [← HM.out]; exact HO3.out, HB3.out⟩
end Go.Proofs.YtiibglkiakhfgaaDoor
