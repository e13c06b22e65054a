/-
  THE WALK OF THE REFERENCE's Cut.
-/
import Derived.Test.YtiibglkiakhfgaaDoorLexSmall
set_option linter.unusedSimpArgs false
set_option linter.unusedVariables false
namespace Go.Proofs.YtiibglkiakhfgaaDoor
open Go.RowKit

theorem wordInfo : (Tryd.prog.info? 106).map (fun i => (i.zero, i.size, i.bytes)) = some (some (.agg #[.string ⟨#[]⟩, .int .i64 0]), 2, 24) := by kernel_rfl

def wlist (s : ByteArray) (l : List (Nat × Nat)) : List (ByteArray × Int) := l.map (fun p => (s.extract p.1 p.2, ((p.1 + 1 : Nat) : Int)))
def wcells (l : List (ByteArray × Int)) : List Value := l.flatMap (fun p => [.string p.1, .int .i64 p.2])
theorem wcells_len (l : List (ByteArray × Int)) : (wcells l).length = l.length * 2 := by
  induction l with
  | nil => rfl
  | cons p l ih => simp only [wcells, List.flatMap_cons, List.length_append, List.length_cons, List.length_nil] at ih ⊢; omega
theorem wcells_at (l : List (ByteArray × Int)) (k : Nat) (p : ByteArray × Int) (h : l[k]? = some p) : (wcells l)[k * 2]? = some (.string p.1) ∧ (wcells l)[k * 2 + 1]? = some (.int .i64 p.2) := by
  induction l generalizing k with
  | nil => simp at h
  | cons q l ih =>
    cases k with
    | zero => simp at h; subst h; simp [wcells]
    | succ k =>
      have := ih k (by simpa using h)
      have e : (k + 1) * 2 = k * 2 + 2 := by omega
      rw [e]
      simpa [wcells] using this
theorem wordsAt_of_own {w : World} {base n c : Nat} {A : Option Addr} {l : List (ByteArray × Int)} (h : w.ownsRow base 106 2 (.slice A n c) n (wcells l)) : WordsAt w A n l := by
  have hl : l.length = n := by have := h.1; rw [wcells_len] at this; omega
  refine ⟨hl, fun hn => ?_⟩
  rcases h.2 with ⟨hv, h0⟩ | ⟨g, cap, cur, hv, _⟩
  · omega
  · injection hv with hA
    subst hA
    refine ⟨g, rfl, fun k p hk => ?_⟩
    obtain ⟨a, b⟩ := wcells_at l k p hk
    have h1 := h.cells (g := g) rfl _ _ a
    have h2 := h.cells (g := g) rfl _ _ b
    have e : ∀ j, (⟨g, 0, none⟩ : Addr).add j = ⟨g, j, none⟩ := fun j => by unfold Addr.add; split <;> simp_all
    rw [e] at h1 h2
    exact ⟨h1, h2⟩
theorem WordsAt.below {w w' : World} {A : Option Addr} {n : Nat} {l : List (ByteArray × Int)} (h : WordsAt w A n l) (hb : Below w.heap.size w w') : WordsAt w' A n l := by
  refine ⟨h.1, fun hn => ?_⟩
  obtain ⟨g, hA, hc⟩ := h.2 hn
  refine ⟨g, hA, fun k p hk => ?_⟩
  obtain ⟨a, b⟩ := hc k p hk
  have hlt := World.block_lt_of_cell? w _ a
  exact ⟨(hb.cell (by exact hlt)).trans a, (hb.cell (by exact hlt)).trans b⟩

/-- What cutting hands back: the words in memory of the call's own, the fault. -/
def CutP (s : ByteArray) (w : World) (e : Ending) (w' : World) : Prop :=
  ∃ A c, e = .returned (.tuple #[.slice A (cutR s).length c, .agg #[.int .i64 0, .int .i64 ((cutF s).1 : Int), .int .i64 ((cutF s).2 : Int)]]) ∧
    w'.ownsRow w.heap.size 106 2 (.slice A (cutR s).length c) (cutR s).length (wcells (wlist s (cutR s))) ∧ Below w.heap.size w w'

theorem cutP_fault {s : ByteArray} {w w' : World} {f : Nat × Nat} {a c : Int} (hf : (cutW s 0 0).2 = f) (hf2 : f.2 ≠ 0) (ha : a = f.1) (hc : c = f.2) (hb : Below w.heap.size w w') :
    CutP s w (.returned (.tuple #[.slice none 0 0, .agg #[.int .i64 0, .int .i64 a, .int .i64 c]])) w' := by
  subst ha hc
  have h1 : cutR s = [] := by unfold cutR; rw [hf, if_neg hf2]
  have h2 : cutF s = f := hf
  refine ⟨none, 0, ?_, ?_, hb⟩
  · rw [h1, h2]; rfl
  · rw [h1]; exact World.ownsRow_nil _ _ _ _
theorem cutP_ok {s : ByteArray} {w w' : World} {A : Option Addr} {c : Nat} {l : List (Nat × Nat)} (hf : cutW s 0 0 = (l, (0, 0))) (hb : Below w.heap.size w w')
    (ho : w'.ownsRow w.heap.size 106 2 (.slice A l.length c) l.length (wcells (wlist s l))) :
    CutP s w (.returned (.tuple #[.slice A l.length c, .agg #[.int .i64 0, .int .i64 0, .int .i64 0]])) w' := by
  have h1 : cutR s = l := by unfold cutR; rw [hf]; rfl
  have h2 : cutF s = (0, 0) := by unfold cutF; rw [hf]
  refine ⟨A, c, ?_, ?_, hb⟩
  · rw [h1, h2]; rfl
  · rw [h1]; exact ho

/-- How far the cutting has come: these words are found, place k is next. -/
def CutRel (s : ByteArray) (k : Nat) (done : List (Nat × Nat)) : Prop :=
  (cutW s 0 0).1 = done ++ (cutW s k done.length).1 ∧ (cutW s 0 0).2 = (cutW s k done.length).2
theorem cutRel_blank {s : ByteArray} {k : Nat} {done : List (Nat × Nat)} (h : CutRel s k done) (hk : k < s.size) (hb : blankB (byteAt s k) = true) : CutRel s (k + 1) done := by
  unfold CutRel at h ⊢; rwa [cutW_blank s k _ hk hb] at h
theorem cutRel_end {s : ByteArray} {k : Nat} {done : List (Nat × Nat)} (h : CutRel s k done) (he : ¬ (skipTo s k < s.size ∧ byteAt s (skipTo s k) ≠ 35)) : cutW s 0 0 = (done, (0, 0)) := by
  unfold CutRel at h; rw [cutW_end s k _ he] at h
  simp at h
  exact Prod.ext h.1 h.2
theorem cutRel_bad {s : ByteArray} {k : Nat} {done : List (Nat × Nat)} (h : CutRel s k done) (he : skipTo s k < s.size ∧ byteAt s (skipTo s k) ≠ 35) (h2 : wordEnd s (skipTo s k) = skipTo s k) : (cutW s 0 0).2 = (skipTo s k + 1, 2) := by
  unfold CutRel at h; rw [cutW_bad s k _ he h2] at h; exact h.2
theorem cutRel_long {s : ByteArray} {k : Nat} {done : List (Nat × Nat)} (h : CutRel s k done) (he : skipTo s k < s.size ∧ byteAt s (skipTo s k) ≠ 35) (h2 : skipTo s k < wordEnd s (skipTo s k)) (h3 : done.length = 64) : (cutW s 0 0).2 = (skipTo s k + 1, 6) := by
  unfold CutRel at h; rw [h3, cutW_long s k he h2] at h; exact h.2
theorem cutRel_word {s : ByteArray} {k : Nat} {done : List (Nat × Nat)} (h : CutRel s k done) (he : skipTo s k < s.size ∧ byteAt s (skipTo s k) ≠ 35) (h2 : skipTo s k < wordEnd s (skipTo s k)) (h3 : done.length ≠ 64) :
    CutRel s (wordEnd s (skipTo s k)) (done ++ [(skipTo s k, wordEnd s (skipTo s k))]) := by
  unfold CutRel at h ⊢; rw [cutW_word s k _ he h2 h3] at h
  simp only [List.length_append, List.length_cons, List.length_nil, List.append_assoc, List.cons_append, List.nil_append]
  exact h
theorem wcells_snoc (s : ByteArray) (done : List (Nat × Nat)) (p : Nat × Nat) : wcells (wlist s (done ++ [p])) = wcells (wlist s done) ++ [.string (s.extract p.1 p.2), .int .i64 ((p.1 + 1 : Nat) : Int)] := by
  simp [wcells, wlist]
theorem wlist_len (s : ByteArray) (l : List (Nat × Nat)) : (wlist s l).length = l.length := by simp [wlist]



theorem rel_word {s : ByteArray} {w wr w1 : World} {base : Nat} {v v' : Value} {done : List (Nat × Nat)} {p : Nat × Nat} {cs : Array Value} {o : Obj} {x : Int} {t : TypeId}
    (hB : Blk wr w.heap.size t cs) (hbel : Below w.heap.size w wr) (hown : wr.ownsRow (w.heap.size + base + 1) 106 2 v done.length (wcells (wlist s done)))
    (hown' : w1.ownsRow (w.heap.size + base + 1) 106 2 v' (done.length + 1) (wcells (wlist s done) ++ [.string (s.extract p.1 p.2), .int .i64 x])) (hg : (wr.alloc o).grownBy w1 v.ownBlock) (hx : x = ((p.1 + 1 : Nat) : Int)) :
    w1.ownsRow (w.heap.size + base + 1) 106 2 v' (done ++ [p]).length (wcells (wlist s (done ++ [p]))) ∧ Blk w1 w.heap.size t cs ∧ Below w.heap.size w w1 := by
  have hrow : ∀ k, v.ownBlock = some k → w.heap.size < k := fun k hk => by have := (hown.lt k hk).1; omega
  refine ⟨?_, (hB.alloc o).grown hg (fun e => by have := hrow _ e.symm; omega), (hbel.alloc hbel.size o).grown hg (by have := hbel.size; simp; omega) (fun k hk => by have := hrow k hk; omega)⟩
  subst hx
  rw [wcells_snoc, List.length_append]
  exact hown'

set_option maxRecDepth 100000 in
set_option maxHeartbeats 1000000 in
theorem refCut_any (s : ByteArray) (w : World) (hs : s.size ≤ maxLen) :
    Calls Tryd.prog 98 #[.string s] w (CutP s w) := by
  obtain ⟨i0, hi, hz0, hz1, hz2⟩ := info_parts wordInfo
  unfold maxLen at hs
  go_enter Tryd.func98, Tryd.ntmps98
  go_wp2
  go_loopw [4, 5, 6] (fun v i _ wr => ∃ (k : Nat) (done : List (Nat × Nat)), k ≤ s.size ∧ i = .int .i64 k ∧ wr.ownsRow (w.heap.size + 1) 106 2 v done.length (wcells (wlist s done)) ∧ CutRel s k done ∧ done.length ≤ 64 ∧
      Blk wr w.heap.size 41 #[.int .i64 0, .int .i64 0, .int .i64 0] ∧ Below w.heap.size w wr)
    (fun _ i _ _ => s.size - (intOf i).toNat)
  case atStart =>
    have h0 := World.ownsRow_made (base := w.heap.size + 1) (e := 106) (size := 2) (w.alloc (.cells #[.int .i64 0, .int .i64 0, .int .i64 0] 41)) #[] 0 (by simp) (by simp [maxLen]) (by simp)
    rw [World.size_alloc] at h0
    exact ⟨0, [], Nat.zero_le _, rfl, h0, ⟨rfl, rfl⟩, by simp, (Blk.new w _ _).alloc _, ((Below.refl _ _).alloc (Nat.le_refl _) _).alloc (by simp) _⟩
  case round =>
    obtain ⟨k, done, hk, rfl, hown, hR, hlen, hBf, hbel⟩ := hrel
    have HR := hide hR
    clear hR
    have hz : w.heap.size < wr.heap.size := hBf.lt
    have r0 := hBf.cell 0
    have r1 := hBf.cell 1
    have r2 := hBf.cell 2
    have q0 := hBf.frozen 0
    have q1 := hBf.frozen 1
    have q2 := hBf.frozen 2
    simp at r0 r1 r2
    by_cases hgo : k < s.size ∧ byteAt s k ≠ 35
    · obtain ⟨hks, h35⟩ := hgo
      have hbt := byteAt_lt hks
      by_cases hbl : blankB (byteAt s k) = true
      · skip
        have d2 : ((s[k].toNat : Int) != 35) = true := by rw [← hbt]; simp [h35]
        have hR' := hide (cutRel_blank HR.out hks hbl)
        have hor : ((s[k].toNat : Int) == 32) = true ∨ ((s[k].toNat : Int) == 32) = false ∧ ((s[k].toNat : Int) == 9) = true := by
          rw [← hbt]; unfold blankB at hbl; revert hbl; cases (byteAt s k == 32) <;> simp
        clear hbt h35 hbl HR
        rcases hor with e32 | ⟨e32, e9⟩
        all_goals
          go_wp2_with (go_at_call 138; refine (inside_any _ _).mono ?_; rintro e w' ⟨rfl, rfl⟩)
          go_roundw
          case rel => exact ⟨k + 1, done, by omega, by go_num, hown, hR'.out, hlen, hBf, hbel⟩
          case measure => simp [intOf]; omega
      · have hbl2 : blankB (byteAt s k) = false := by simpa using hbl
        have d2 : ((s[k].toNat : Int) != 35) = true := by rw [← hbt]; simp [h35]
        have e32 : ((s[k].toNat : Int) == 32) = false := by rw [← hbt]; unfold blankB at hbl2; revert hbl2; cases (byteAt s k == 32) <;> simp
        have e9 : ((s[k].toNat : Int) == 9) = false := by rw [← hbt]; unfold blankB at hbl2; revert hbl2; cases (byteAt s k == 9) <;> simp
        have hj : skipTo s k = k := skipTo_not s k (fun _ => hbl2)
        cases hin : insideB (byteAt s k)
        · skip
          have hi' := hide (show insideB (s[k].toNat : Int) = false by rw [← hbt]; exact hin)
          have hC := hide (cutRel_bad HR.out (by rw [hj]; exact ⟨hks, h35⟩) (by rw [hj]; exact wordEnd_not s k (fun _ => hin)))
          have HJ := hide hj
          clear hbt h35 hbl hbl2 hin hj HR
          go_wp2_with (go_at_call 138; refine (inside_any _ _).mono ?_; rintro e w' ⟨rfl, rfl⟩; rw [hi'.out])
          refine bodyPost_ret (v := .tuple #[.slice none 0 0, .agg #[.int .i64 0, .int .i64 ((k : Int) + 1), .int .i64 2]]) (by simp [results, Tryd.results98, go_sem, r0, r1, r2, q0, q1, q2]) rfl (cutP_fault hC.out (by simp) (by rw [HJ.out]; simp) rfl ?_)
          exact ((hbel.setCell (p := ⟨w.heap.size, 0, none⟩) (Nat.le_refl _) _).setCell (p := ⟨w.heap.size, 1, none⟩) (Nat.le_refl _) _).setCell (p := ⟨w.heap.size, 2, none⟩) (Nat.le_refl _) _
        · have hi' := hide (show insideB (s[k].toNat : Int) = true by rw [← hbt]; exact hin)
          have hwe := wordEnd_in s k hks hin
          by_cases h64 : done.length = 64
          · skip
            have hC := hide (cutRel_long HR.out (by rw [hj]; exact ⟨hks, h35⟩) (by rw [hj, hwe]; have := wordEnd_ge s (k + 1); omega) h64)
            have HJ := hide hj
            have d64 : (((done.length : Nat) : Int) == 64) = true := by rw [h64]; rfl
            clear hbt h35 hbl hbl2 hin hj HR hwe h64
            obtain ⟨A, cap, rfl⟩ := own_slice hown
            go_wp2_with (go_at_call 138; refine (inside_any _ _).mono ?_; rintro e w' ⟨rfl, rfl⟩; rw [hi'.out])
            refine bodyPost_ret (v := .tuple #[.slice none 0 0, .agg #[.int .i64 0, .int .i64 ((k : Int) + 1), .int .i64 6]]) (by simp [results, Tryd.results98, go_sem, r0, r1, r2, q0, q1, q2]) rfl (cutP_fault hC.out (by simp) (by rw [HJ.out]; simp) rfl ?_)
            exact ((hbel.setCell (p := ⟨w.heap.size, 0, none⟩) (Nat.le_refl _) _).setCell (p := ⟨w.heap.size, 1, none⟩) (Nat.le_refl _) _).setCell (p := ⟨w.heap.size, 2, none⟩) (Nat.le_refl _) _
          · skip
            have hgt : k < wordEnd s k := by rw [hwe]; have := wordEnd_ge s (k + 1); omega
            have hR' := hide (cutRel_word HR.out (by rw [hj]; exact ⟨hks, h35⟩) (by rw [hj]; exact hgt) h64)
            have HJ := hide hj
            have HW := hide hwe
            have d64 : (((done.length : Nat) : Int) == 64) = false := by simp; omega
            have hlen2 : done.length < 64 := by omega
            clear hbt h35 hbl hbl2 hin hj HR hwe h64
            obtain ⟨A, cap, rfl⟩ := own_slice hown
            go_wp2_with (go_at_call 138; refine (inside_any _ _).mono ?_; rintro e w' ⟨rfl, rfl⟩; rw [hi'.out])
            clear d2 e32 e9 d64 hi'
            go_loop [5] (fun i => ∃ m : Nat, k ≤ m ∧ m < s.size ∧ i = .int .i64 m ∧ wordEnd s (m + 1) = wordEnd s k) (fun i => s.size - (intOf i).toNat)
            case atStart => exact ⟨k, Nat.le_refl _, hks, rfl, HW.out.symm⟩
            case round =>
              obtain ⟨m, hkm, hms, rfl, hwm⟩ := hrel
              have HM := hide hwm
              clear hwm
              by_cases hmi : m + 1 < s.size ∧ insideB (byteAt s (m + 1)) = true
              · obtain ⟨hm1, hm2⟩ := hmi
                have hbt := byteAt_lt hm1
                have hM' := hide (show wordEnd s (m + 1 + 1) = wordEnd s k by rw [← HM.out]; exact (wordEnd_in s (m + 1) hm1 hm2).symm)
                rw [hbt] at hm2
                have HI := hide hm2
                clear hbt hm2
                go_wp2_with (go_at_call 138; refine (inside_any _ _).mono ?_; rintro e w' ⟨rfl, rfl⟩; rw [HI.out])
                go_round
                case rel => exact ⟨m + 1, by omega, by omega, by go_num, hM'.out⟩
                case measure => simp [intOf]; omega
              · have hwk := hide (show wordEnd s k = m + 1 by
                  rw [← HM.out]; refine wordEnd_not s (m + 1) (fun h => ?_)
                  cases hq : insideB (byteAt s (m + 1))
                  · rfl
                  · exact absurd ⟨h, hq⟩ hmi)
                have hor : s.size ≤ m + 1 ∨ ∃ h : m + 1 < s.size, Hid (insideB (s[m + 1].toNat : Int) = false) := by
                  by_cases h : m + 1 < s.size
                  · right
                    refine ⟨h, ?_⟩
                    have hni : ¬ insideB (byteAt s (m + 1)) = true := fun hq => hmi ⟨h, hq⟩
                    rw [byteAt_lt h] at hni
                    exact hide (by simpa using hni)
                  · left; omega
                clear hmi HM
                have hb1 : m + 1 ≤ s.size := hms
                have hb2 : k ≤ m + 1 := by omega
                have hb3 : (m : Int) + 1 ≤ (s.size : Int) := by omega
                have hb4 : (k : Int) ≤ (m : Int) + 1 := by omega
                have hb5 : (0 : Int) ≤ (m : Int) + 1 := by omega
                have hb6 : ((m : Int) + 1).toNat = m + 1 := by omega
                have a2 : ∀ u ∈ [Value.string (s.extract k (m + 1)), Value.int .i64 ((k : Int) + 1)], u.oneCell' = true := by simp [Value.oneCell']
                have a3 : done.length + 1 ≤ maxLen := by unfold maxLen; omega
                have a4 : (done.length + 1) * 24 ≤ 140737488355328 := by omega
                have a5 : w.heap.size + 1 ≤ (wr.alloc (.cells #[Value.string (s.extract k (m + 1)), Value.int .i64 ((k : Int) + 1)] 106)).heap.size := by simp; omega
                rcases hor with hge | ⟨hm1, HI⟩
                all_goals
                  go_wp2_with (first | (go_at_call 138; refine (inside_any _ _).mono ?_; rintro e w' ⟨rfl, rfl⟩; rw [HI.out]) | (at_builtin; refine wpList_append_own _ rfl (.tmp 59) (.tmp 68) 60 rfl (w.heap.size + 1) 106 i0 (.agg #[.string ⟨#[]⟩, .int .i64 0]) 2 24 Tryd.underlying60 hi hz0 hz1 hz2 rfl (by decide) (.slice A done.length cap) done.length _ rfl (hown.alloc _) ⟨wr.heap.size, 0, none⟩ 1 1 [.string (s.extract k (m + 1)), .int .i64 ((k : Int) + 1)] rfl rfl (cell_two_new _ _ _ _) a2 a3 a4 a5 ?_; intro v' w1 hown' hgrow _))
                  have hR2 := rel_word (base := 0) (p := (k, m + 1)) hBf hbel hown hown' hgrow (by simp)
                  go_roundw
                  case rel => exact ⟨m + 1, _, hb1, by go_num, hR2.1, by have := hR'.out; rw [HJ.out, hwk.out] at this; exact this, by simp; omega, hR2.2.1, hR2.2.2⟩
                  case measure => simp [intOf]; omega
    · skip
      have hend : ¬ (skipTo s k < s.size ∧ byteAt s (skipTo s k) ≠ 35) := by
        rw [skipTo_not s k (fun h => by
          by_cases h35 : byteAt s k = 35
          · rw [h35]; rfl
          · exact absurd ⟨h, h35⟩ hgo)]
        exact hgo
      have hC := hide (cutRel_end HR.out hend)
      have hor : decide ((k : Int) < (s.size : Int)) = false ∧ s.size ≤ k ∨ k < s.size ∧ ∃ h : k < s.size, ((s[k].toNat : Int) != 35) = false := by
        by_cases h : k < s.size
        · right
          refine ⟨h, h, ?_⟩
          by_cases h35 : byteAt s k = 35
          · rw [← byteAt_lt h, h35]; rfl
          · exact absurd ⟨h, h35⟩ hgo
        · left; exact ⟨by simp; omega, by omega⟩
      clear hend hgo
      obtain ⟨A, cap, rfl⟩ := own_slice hown
      rcases hor with ⟨d1, hge⟩ | ⟨_, hks, d2⟩
      all_goals
        go_wp2
        refine bodyPost_ret (v := .tuple #[.slice A done.length cap, .agg #[.int .i64 0, .int .i64 0, .int .i64 0]]) (by simp [results, Tryd.results98, go_sem, r0, r1, r2, q0, q1, q2]) rfl (cutP_ok hC.out ?_ ?_)
        · exact ((hbel.setCell (p := ⟨w.heap.size, 0, none⟩) (Nat.le_refl _) _).setCell (p := ⟨w.heap.size, 1, none⟩) (Nat.le_refl _) _).setCell (p := ⟨w.heap.size, 2, none⟩) (Nat.le_refl _) _
        · exact own_low (ownsRow_setCell_below (ownsRow_setCell_below (ownsRow_setCell_below hown (by simp) _) (by simp) _) (by simp) _)

end Go.Proofs.YtiibglkiakhfgaaDoor
