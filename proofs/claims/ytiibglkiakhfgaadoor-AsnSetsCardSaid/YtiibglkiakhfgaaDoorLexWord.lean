/-
  THE WALK OF THE CUTTER's STEP: the next word from place i on.
-/
import Derived.Test.YtiibglkiakhfgaaDoorRows
import Derived.Test.YtiibglkiakhfgaaDoorKit
import Derived.Test.YtiibglkiakhfgaaDoorLexPure
import Derived.BigRegion
set_option linter.unusedSimpArgs false
set_option linter.unusedVariables false
namespace Go.Proofs.YtiibglkiakhfgaaDoor
open Go.RowKit

def WordJ (s : ByteArray) (i g : Nat) (w : World) (a' : Act) (w' : World) : Prop := ∃ (k : Nat) (l : List Value), a' = ⟨(.pointer (some ⟨g, 0, none⟩) :: undef :: .pointer (some ⟨w.heap.size, 0, none⟩) :: .bool false :: .bool false :: l).toArray, []⟩ ∧ l.length = 135 ∧ k ≤ s.size ∧ skipTo s k = skipTo s i ∧ Blk w' g 147 #[.string s, .int .i64 k] ∧ Blk w' w.heap.size 106 #[.string ⟨#[]⟩, .int .i64 0] ∧ w.grownBy w' (some g)

/-- text, place, the new place, ok, bad -/
def wordR (s : ByteArray) (j : Nat) : ByteArray × Nat × Nat × Bool × Bool :=
  if j < s.size ∧ byteAt s j ≠ 35 then (s.extract j (wordEnd s j), j + 1, wordEnd s j, decide (j < wordEnd s j), decide (wordEnd s j = j)) else (⟨#[]⟩, 0, j, false, false)
theorem wordR_end {s : ByteArray} {j : Nat} (h : ¬ (j < s.size ∧ byteAt s j ≠ 35)) : wordR s j = (⟨#[]⟩, 0, j, false, false) := by rw [wordR, if_neg h]
theorem wordR_in {s : ByteArray} {j : Nat} (h : j < s.size ∧ byteAt s j ≠ 35) : wordR s j = (s.extract j (wordEnd s j), j + 1, wordEnd s j, decide (j < wordEnd s j), decide (wordEnd s j = j)) := by rw [wordR, if_pos h]

def WordQ (s : ByteArray) (g : Nat) (w : World) (r : ByteArray × Nat × Nat × Bool × Bool) (e : Ending) (w' : World) : Prop :=
  e = .returned (.tuple #[.agg #[.string r.1, .int .i64 r.2.1], .bool r.2.2.2.1, .bool r.2.2.2.2]) ∧ Blk w' g 147 #[.string s, .int .i64 r.2.2.1] ∧ w.grownBy w' (some g)

theorem word_fin (s : ByteArray) (k m : Nat) : Ending.returned (.tuple #[.agg #[.string (s.extract k m), .int .i64 ((k : Int) + 1)], .bool (decide (k < m)), .bool ((m : Int) == (k : Int))]) =
    Ending.returned (.tuple #[.agg #[.string (s.extract k m), .int .i64 ((k + 1 : Nat) : Int)], .bool (decide (k < m)), .bool (decide (m = k))]) := by
  have h : ((m : Int) == (k : Int)) = decide (m = k) := by rw [Bool.eq_iff_iff]; simp; omega
  rw [h]; rfl

set_option maxRecDepth 100000 in
set_option maxHeartbeats 2000000 in
theorem word_any (s : ByteArray) (i g : Nat) (w : World) (hs : s.size ≤ maxLen) (hi : i ≤ s.size) (hb : Blk w g 147 #[.string s, .int .i64 i]) :
    Calls Tryd.prog 135 #[.pointer (some ⟨g, 0, none⟩)] w (WordQ s g w (wordR s (skipTo s i))) := by
  have hg := hb.lt
  go_enter Tryd.func135, Tryd.ntmps135
  go_wp2
  refine wp_scope_head 0 (WordJ s i g w) (fun _ w' => s.size - cellNat w' ⟨g, 1, none⟩) ?_ ?_
  · refine ⟨i, _, rfl, rfl, hi, rfl, hb.alloc _, Blk.new w _ _, World.grownBy_alloc w _ _⟩
  · rintro a1 w1 ⟨k, l, rfl, hl, hk, hsk, hB, hR, hgr⟩
    obtain ⟨u, rfl⟩ := list_fn hl
    clear hl
    rw [show (List.range 135).map u = [u 0, u 1, u 2, u 3, u 4, u 5, u 6, u 7, u 8, u 9, u 10, u 11, u 12, u 13, u 14, u 15, u 16, u 17, u 18, u 19, u 20, u 21, u 22, u 23, u 24, u 25, u 26, u 27, u 28, u 29, u 30, u 31, u 32, u 33, u 34, u 35, u 36, u 37, u 38, u 39, u 40, u 41, u 42, u 43, u 44, u 45, u 46, u 47, u 48, u 49, u 50, u 51, u 52, u 53, u 54, u 55, u 56, u 57, u 58, u 59, u 60, u 61, u 62, u 63, u 64, u 65, u 66, u 67, u 68, u 69, u 70, u 71, u 72, u 73, u 74, u 75, u 76, u 77, u 78, u 79, u 80, u 81, u 82, u 83, u 84, u 85, u 86, u 87, u 88, u 89, u 90, u 91, u 92, u 93, u 94, u 95, u 96, u 97, u 98, u 99, u 100, u 101, u 102, u 103, u 104, u 105, u 106, u 107, u 108, u 109, u 110, u 111, u 112, u 113, u 114, u 115, u 116, u 117, u 118, u 119, u 120, u 121, u 122, u 123, u 124, u 125, u 126, u 127, u 128, u 129, u 130, u 131, u 132, u 133, u 134] from rfl]
    have c0 := hB.cell 0
    have c1 := hB.cell 1
    have f1 := hB.frozen 1
    have r0 := hR.cell 0
    have r1 := hR.cell 1
    have q0 := hR.frozen 0
    have q1 := hR.frozen 1
    have HM := hide (cellNat_of (k := k) c1)
    have hz : g < w1.heap.size := hB.lt
    have hz2 : w.heap.size < w1.heap.size := hR.lt
    simp at c0 c1 r0 r1
    unfold maxLen at hs
    by_cases hks : k < s.size
    · have hbt := byteAt_lt hks
      by_cases h35 : byteAt s k = 35
      · skip
        have hd : decide ((s.size : Int) ≤ (k : Int)) = false := by simp; omega
        have e35 : ((s[k].toNat : Int) == 35) = true := by rw [← hbt]; simp [h35]
        have hj : skipTo s i = k := by rw [← hsk]; exact skipTo_not s k (fun _ => by rw [h35]; rfl)
        have HN := hide (wordR_end (s := s) (j := skipTo s i) (by rw [hj]; exact fun h => h.2 h35))
        have HJ := hide hj
        clear hsk hbt h35 hj
        go_wp2
        go_quiet (fail)
        go_wp2
        simp only [Exit.jump]
        refine bodyPost_ret (v := .tuple #[.agg #[.string ⟨#[]⟩, .int .i64 0], .bool false, .bool false]) (by simp [results, Tryd.results135, go_sem, r0, r1, q0, q1]) rfl ?_
        unfold WordQ
        rw [HN.out, HJ.out]
        exact ⟨rfl, ((hB.drewN _).far (by simp; omega) _).far (by simp; omega) _, only_setCell (only_setCell (only_drewN hgr _) (.inr (by simp)) _) (.inr (by simp)) _⟩
      · by_cases hbl : blankB (byteAt s k) = true
        · skip
          have hd : decide ((s.size : Int) ≤ (k : Int)) = false := by simp; omega
          have e35 : ((s[k].toNat : Int) == 35) = false := by rw [← hbt]; simp [h35]
          have hsk1 : Hid (skipTo s (k + 1) = skipTo s i) := by rw [← hsk]; exact (skipTo_blank s k hks hbl).symm
          have hor : ((s[k].toNat : Int) == 32) = true ∨ ((s[k].toNat : Int) == 32) = false ∧ ((s[k].toNat : Int) == 9) = true := by
            rw [← hbt]; unfold blankB at hbl; revert hbl; cases (byteAt s k == 32) <;> simp
          clear hsk hbt h35 hbl
          rcases hor with e32 | ⟨e32, e9⟩
          all_goals
            go_wp2
            go_quiet (fail)
            go_wp2
            go_quiet (fail)
            go_wp2
            go_step3
            have hset := (hB.drewN (w := w1) 0).set1 (u := .int .i64 ((k : Int) + 1)) (u' := .int .i64 ((k + 1 : Nat) : Int)) (by go_num)
            have hset2 := (hB.set1 (u := .int .i64 ((k : Int) + 1)) (u' := .int .i64 ((k + 1 : Nat) : Int)) (by go_num))
            refine ⟨rfl, ⟨k + 1, _, rfl, rfl, by omega, hsk1.out, (hB.drewN _).set1 (by go_num), (hR.drewN _).far (by simp; omega) _, only_setCell (only_drewN hgr _) (.inl rfl) _⟩, ?_⟩
            rw [HM.out, cellNat_of (k := k + 1) (((hB.drewN _).set1 (u' := .int .i64 ((k + 1 : Nat) : Int)) (by go_num)).cell 1)]
            omega
        · skip
          have hbl2 : blankB (byteAt s k) = false := by simpa using hbl
          have hd : decide ((s.size : Int) ≤ (k : Int)) = false := by simp; omega
          have e35 : ((s[k].toNat : Int) == 35) = false := by rw [← hbt]; simp [h35]
          have e32 : ((s[k].toNat : Int) == 32) = false := by rw [← hbt]; unfold blankB at hbl2; revert hbl2; cases (byteAt s k == 32) <;> simp
          have e9 : ((s[k].toNat : Int) == 9) = false := by rw [← hbt]; unfold blankB at hbl2; revert hbl2; cases (byteAt s k == 9) <;> simp
          have hj : skipTo s i = k := by rw [← hsk]; exact skipTo_not s k (fun _ => hbl2)
          have HN := hide (wordR_in (s := s) (j := skipTo s i) (by rw [hj]; exact ⟨hks, h35⟩))
          have HJ := hide hj
          clear hsk hbt h35 hj hbl hbl2
          go_wp2
          go_quiet (fail)
          go_wp2
          go_quiet (fail)
          go_wp2
          go_loopw [] (fun wr => ∃ m : Nat, k ≤ m ∧ m ≤ s.size ∧ wordEnd s m = wordEnd s k ∧ Blk wr g 147 #[.string s, .int .i64 m] ∧ Blk wr w.heap.size 106 #[.string ⟨#[]⟩, .int .i64 0] ∧ w.grownBy wr (some g))
            (fun wr => s.size - cellNat wr ⟨g, 1, none⟩)
          case atStart => exact ⟨k, Nat.le_refl _, hk, rfl, hB.drewN _, hR.drewN _, only_drewN hgr _⟩
          case round =>
            obtain ⟨m, hkm, hms, hwe, hBr, hRr, hgrr⟩ := hrel
            clear c0 c1 f1 r0 r1 q0 q1 hz hz2 HM e35 e32 e9 hd hB hR hgr
            have c0 := hBr.cell 0
            have c1 := hBr.cell 1
            have f1 := hBr.frozen 1
            have r0 := hRr.cell 0
            have r1 := hRr.cell 1
            have q0 := hRr.frozen 0
            have q1 := hRr.frozen 1
            have HM := hide (cellNat_of (k := m) c1)
            have hz : g < wr.heap.size := hBr.lt
            have hz2 : w.heap.size < wr.heap.size := hRr.lt
            simp at c0 c1 r0 r1
            have HW := hide hwe
            clear hwe
            by_cases hmi : m < s.size ∧ insideB (byteAt s m) = true
            · obtain ⟨hm1, hm2⟩ := hmi
              have hbt := byteAt_lt hm1
              have hw1 : Hid (wordEnd s (m + 1) = wordEnd s k) := by rw [← HW.out]; exact (wordEnd_in s m hm1 hm2).symm
              have d1 : decide ((m : Int) < (s.size : Int)) = true := by simp; omega
              have d2 : decide ((33 : Int) ≤ (s[m].toNat : Int)) = true := by rw [← hbt]; unfold insideB at hm2; simp at hm2 ⊢; omega
              have d3 : decide ((s[m].toNat : Int) ≤ 126) = true := by rw [← hbt]; unfold insideB at hm2; simp at hm2 ⊢; omega
              have d4 : ((s[m].toNat : Int) != 35) = true := by rw [← hbt]; unfold insideB at hm2; simp at hm2 ⊢; omega
              clear hbt hm2 HW
              go_wp2
              go_quiet (fail)
              go_wp2
              go_roundw
              case rel => exact ⟨m + 1, by omega, by omega, hw1.out, (hBr.drewN _).set1 (by go_num), (hRr.drewN _).far (by simp; omega) _, only_setCell (only_drewN hgrr _) (.inl rfl) _⟩
              case measure =>
                rw [HM.out, cellNat_of (k := m + 1) (((hBr.drewN _).set1 (u' := .int .i64 ((m + 1 : Nat) : Int)) (by go_num)).cell 1)]
                omega
            · have hwk : Hid (wordEnd s k = m) := by
                rw [← HW.out]; refine wordEnd_not s m (fun h => ?_)
                cases hq : insideB (byteAt s m)
                · rfl
                · exact absurd ⟨h, hq⟩ hmi
              have hor : decide ((m : Int) < (s.size : Int)) = false ∨ decide ((m : Int) < (s.size : Int)) = true ∧ ∃ h : m < s.size, (decide ((33 : Int) ≤ (s[m].toNat : Int)) = false ∨ decide ((33 : Int) ≤ (s[m].toNat : Int)) = true ∧ (decide ((s[m].toNat : Int) ≤ 126) = false ∨ decide ((s[m].toNat : Int) ≤ 126) = true ∧ ((s[m].toNat : Int) != 35) = false)) := by
                by_cases h : m < s.size
                · right
                  refine ⟨by simp; omega, h, ?_⟩
                  have hni : ¬ insideB (byteAt s m) = true := fun hq => hmi ⟨h, hq⟩
                  rw [byteAt_lt h] at hni
                  unfold insideB at hni
                  simp only [Bool.and_eq_true, decide_eq_true_eq, Bool.not_eq_true', beq_eq_false_iff_ne, ne_eq, decide_eq_false_iff_not, bne_eq_false_iff_eq] at hni ⊢
                  omega
                · left; simp; omega
              have hsl : decide ((k : Int) ≤ (m : Int)) = true := by simp; omega
              clear hmi HW HM
              rcases hor with d1 | ⟨d1, hm1, d2 | ⟨d2, d3 | ⟨d3, d4⟩⟩⟩
              · have hge : s.size ≤ m := by simpa using d1
                have d1n : decide (m < s.size) = false := by simpa using d1
                go_wp2
                go_quiet (fail)
                go_wp2_with fail
                go_region
                go_wp2
                simp only [Exit.jump]
                refine bodyPost_ret (v := .tuple #[.agg #[.string (s.extract k m), .int .i64 ((k : Int) + 1)], .bool (decide (k < m)), .bool ((m : Int) == (k : Int))]) (by simp [results, Tryd.results135, go_sem, r0, r1, q0, q1]) rfl ?_
                unfold WordQ
                rw [HN.out, HJ.out, hwk.out]
                refine ⟨?_, (((hBr.drewN _).drew).far (by simp; omega) _).far (by simp; omega) _, only_setCell (only_setCell (only_drew (only_drewN hgrr _)) (.inr (by simp)) _) (.inr (by simp)) _⟩
                exact word_fin s k m
              all_goals
                have hle : m ≤ s.size := hms
                go_wp2
                go_quiet (fail)
                go_wp2_with fail
                go_region
                go_wp2
                simp only [Exit.jump]
                refine bodyPost_ret (v := .tuple #[.agg #[.string (s.extract k m), .int .i64 ((k : Int) + 1)], .bool (decide (k < m)), .bool ((m : Int) == (k : Int))]) (by simp [results, Tryd.results135, go_sem, r0, r1, q0, q1]) rfl ?_
                unfold WordQ
                rw [HN.out, HJ.out, hwk.out]
                refine ⟨?_, (((hBr.drewN _).drew).far (by simp; omega) _).far (by simp; omega) _, only_setCell (only_setCell (only_drew (only_drewN hgrr _)) (.inr (by simp)) _) (.inr (by simp)) _⟩
                exact word_fin s k m
    · skip
      have hd : decide ((s.size : Int) ≤ (k : Int)) = true := by simp; omega
      have hj : skipTo s i = k := by rw [← hsk]; exact skipTo_not s k (fun h => absurd h hks)
      have HN := hide (wordR_end (s := s) (j := skipTo s i) (by rw [hj]; exact fun h => hks h.1))
      have HJ := hide hj
      clear hsk hj
      go_wp2
      go_quiet (fail)
      go_wp2
      simp only [Exit.jump]
      refine bodyPost_ret (v := .tuple #[.agg #[.string ⟨#[]⟩, .int .i64 0], .bool false, .bool false]) (by simp [results, Tryd.results135, go_sem, r0, r1, q0, q1]) rfl ?_
      unfold WordQ
      rw [HN.out, HJ.out]
      exact ⟨rfl, ((hB.drewN _).far (by simp; omega) _).far (by simp; omega) _, only_setCell (only_setCell (only_drewN hgr _) (.inr (by simp)) _) (.inr (by simp)) _⟩
end Go.Proofs.YtiibglkiakhfgaaDoor
