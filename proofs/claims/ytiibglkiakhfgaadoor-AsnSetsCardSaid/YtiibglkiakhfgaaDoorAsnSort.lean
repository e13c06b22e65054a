import Derived.Test.YtiibglkiakhfgaaDoorAsnRef
import Derived.Sort.LotA
import Derived.BigRegion
set_option linter.unusedSimpArgs false
set_option linter.unusedVariables false
namespace Go.Proofs.YtiibglkiakhfgaaDoor
open Go.RowKit
open Go.Sort (swp insInner insOuter insertionSort)
def ltN (x y : Nat) : Bool := decide (x < y)
/-- A row of the call's own that holds the numbers d. -/
def RowN (base g cap : Nat) (w : World) (d : Array Nat) : Prop := w.ownsRow base 22 1 (.slice (some ⟨g, 0, none⟩) d.size cap) d.size (u32c d.toList) ∧ (∀ x ∈ d.toList, x < 4294967296) ∧ base ≤ g ∧ g < w.heap.size ∧ d.size ≤ cap ∧ cap ≤ maxLen
theorem RowN.cell {base g cap : Nat} {w : World} {d : Array Nat} (h : RowN base g cap w d) {j : Nat} (hj : j < d.size) : w.cell? ⟨g, j, none⟩ = some (.int .u32 ((d[j]! : Nat) : Int)) := by
  rw [h.1.cellAt j (by omega)]
  simp [u32c, hj]
theorem RowN.drewN {base g cap : Nat} {w : World} {d : Array Nat} (h : RowN base g cap w d) (n : Nat) : RowN base g cap (w.drewN n) d := h
theorem RowN.drew {base g cap : Nat} {w : World} {d : Array Nat} (h : RowN base g cap w d) : RowN base g cap w.drew d := h
theorem RowN.set_ {base g cap : Nat} {w : World} {d : Array Nat} (h : RowN base g cap w d) {i x : Nat} (hx : x < 4294967296) : RowN base g cap (w.setCell ⟨g, i, none⟩ (.int .u32 (x : Int))) (d.setIfInBounds i x) := by
  obtain ⟨h1, h2, h3, h4, h5, h6⟩ := h
  refine ⟨?_, fun y hy => ?_, h3, by simpa [World.setCell] using h4, by simpa using h5, h6⟩
  · have := h1.stored i (.int .u32 (x : Int))
    have e : u32c (d.setIfInBounds i x).toList = (u32c d.toList).set i (.int .u32 (x : Int)) := by simp [u32c, List.map_set]
    rw [e]
    simpa using this.1
  · have hy' : y ∈ d.toList.set i x := by simpa using hy
    rcases List.mem_or_eq_of_mem_set hy' with h | h
    · exact h2 y h
    · omega
theorem RowN.val {base g cap : Nat} {w : World} {d : Array Nat} (h : RowN base g cap w d) (j : Nat) : (d[j]! : Nat) < 4294967296 := by
  by_cases hj : j < d.size
  · rw [getElem!_pos d j hj]; exact h.2.1 _ (by simp)
  · rw [getElem!_neg d j hj]; decide
theorem RowN.swp {base g cap : Nat} {w : World} {d : Array Nat} (h : RowN base g cap w d) (i j : Nat) : RowN base g cap ((w.setCell ⟨g, i, none⟩ (.int .u32 ((d[j]! : Nat) : Int))).setCell ⟨g, j, none⟩ (.int .u32 ((d[i]! : Nat) : Int))) (swp d i j) :=
  (h.set_ (h.val j)).set_ (h.val i)
theorem swp_size {d : Array Nat} {i j : Nat} : (swp d i j).size = d.size := by simp [Go.Sort.swp]
theorem swp_comm {d : Array Nat} {i j : Nat} (h : i ≠ j) : (d.setIfInBounds j d[i]!).setIfInBounds i d[j]! = swp d i j := by
  unfold Go.Sort.swp
  apply Array.ext_getElem?
  intro k
  simp only [Array.getElem?_setIfInBounds]
  by_cases h1 : i = k <;> by_cases h2 : j = k <;> simp_all
theorem RowN.swp' {base g cap : Nat} {w : World} {d : Array Nat} (h : RowN base g cap w d) {i j : Nat} (hij : i ≠ j) : RowN base g cap ((w.setCell ⟨g, j, none⟩ (.int .u32 ((d[i]! : Nat) : Int))).setCell ⟨g, i, none⟩ (.int .u32 ((d[j]! : Nat) : Int))) (Go.Sort.swp d i j) := by
  rw [← swp_comm hij]
  exact (h.set_ (h.val i)).set_ (h.val j)
theorem insInner_go' (a j : Nat) (d : Array Nat) (hj : a < j + 1) (hl : ltN d[j + 1]! d[j]! = true) : insInner ltN a (j + 1) d = insInner ltN a j (swp d (j + 1) j) := by
  rw [insInner, if_pos (by simp [hl]; omega)]
theorem insInner_stop' (a j : Nat) (d : Array Nat) (h : j ≤ a ∨ ltN d[j]! d[j - 1]! = false) : insInner ltN a j d = d := by
  cases j with
  | zero => rw [insInner]
  | succ k =>
    rw [insInner, if_neg]
    simp only [Nat.add_sub_cancel] at h
    rcases h with h | h
    · simp; omega
    · simp [h]
theorem insInner_size (a : Nat) : ∀ (j : Nat) (d : Array Nat), (insInner ltN a j d).size = d.size
  | 0, d => by rw [insInner]
  | j + 1, d => by
    rw [insInner]
    split
    · rw [insInner_size a j, swp_size]
    · rfl
set_option maxRecDepth 100000 in
set_option maxHeartbeats 4000000 in
theorem insSort_any (base g cap a b : Nat) (d : Array Nat) (w : World) (h : RowN base g cap w d) (hab : a ≤ b) (hb : b ≤ d.size) (hsz : d.size ≤ 100000) :
    Calls Tryd.prog 185 #[.slice (some ⟨g, 0, none⟩) d.size cap, .int .i64 a, .int .i64 b] w fun e w' => e = .returned (.tuple #[]) ∧ RowN base g cap w' (insertionSort ltN d a b) ∧ Below base w w' := by
  have HR := hide h
  have hcap := h.2.2.2.2.2
  have hdc := h.2.2.2.2.1
  unfold maxLen at hcap
  obtain ⟨fin, hfin⟩ : ∃ fin, insertionSort ltN d a b = fin := ⟨_, rfl⟩
  obtain ⟨n, hn⟩ : ∃ n, d.size = n := ⟨_, rfl⟩
  rw [hfin]
  rw [hn] at hb hsz hdc ⊢
  have HF := hide hfin
  have HN := hide hn
  clear h hfin hn
  go_enter Tryd.func185, Tryd.ntmps185
  go_wp2
  go_loopw [6] (fun i wr => ∃ (k : Nat) (d' : Array Nat), a + 1 ≤ k ∧ (k ≤ b ∨ k = a + 1) ∧ i = .int .i64 k ∧ RowN base g cap wr d' ∧ d'.size = n ∧ insOuter ltN a b k d' = fin ∧ Below base w wr) (fun i _ => b - (intOf i).toNat)
  case atStart => exact ⟨a + 1, d, by omega, .inr rfl, by go_num, HR.out, HN.out, HF.out, Below.refl _ _⟩
  case round =>
    obtain ⟨k, d', hk1, hk2, rfl, hr, hs, ho, hbel⟩ := hrel
    have HR := hide hr
    have HS := hide hs
    have HO := hide ho
    have HB := hide hbel
    clear hr hs ho hbel
    by_cases hlt : k < b
    · obtain ⟨md, hmd⟩ : ∃ md, insInner ltN a k d' = md := ⟨_, rfl⟩
      have HM := hide hmd
      have HO2 : Hid (insOuter ltN a b (k + 1) md = fin) := hide (by rw [← HO.out, ← hmd]; conv => rhs; rw [insOuter, if_pos hlt])
      clear hmd
      go_wp2
      obtain ⟨wo, rfl⟩ : ∃ wo : World, wo = wr := ⟨_, rfl⟩
      go_loopw [7] (fun j wr => ∃ (q : Nat) (d2 : Array Nat), a ≤ q ∧ q ≤ k ∧ j = .int .i64 q ∧ RowN base g cap wr d2 ∧ d2.size = n ∧ insInner ltN a q d2 = md ∧ Below base w wr) (fun j _ => (intOf j).toNat)
      case atStart => exact ⟨k, d', by omega, by omega, rfl, HR.out, HS.out, HM.out, HB.out⟩
      case round =>
        obtain ⟨q, d2, hq1, hq2, rfl, hr, hs, ho, hbel⟩ := hrel
        have HR2 := hide hr
        have HS2 := hide hs
        have HI2 := hide ho
        have HB2 := hide hbel
        clear ho hbel
        by_cases hqa : a < q
        · obtain ⟨p, rfl⟩ : ∃ p, q = p + 1 := ⟨q - 1, by omega⟩
          have hc1 := hr.cell (j := p + 1) (by omega)
          have hc2 := hr.cell (j := p) (by omega)
          obtain ⟨x, hx⟩ : ∃ x, d2[p + 1]! = x := ⟨_, rfl⟩
          obtain ⟨y, hy⟩ : ∃ y, d2[p]! = y := ⟨_, rfl⟩
          rw [hx] at hc1
          rw [hy] at hc2
          have HX := hide hx
          have HY := hide hy
          have hf1 := hr.1.frozenAt (p + 1)
          have hf2 := hr.1.frozenAt p
          clear hr hs hx hy
          have hi0 : (0 : Int) ≤ (p : Int) := by omega
          have hi1 : (p : Int) + 1 < (n : Int) := by omega
          have hi2 : (p : Int) < (n : Int) := by omega
          have hgd : decide ((p : Int) + 1 > (a : Int)) = true := by simp; omega
          by_cases hxy : x < y
          · have HL : Hid (∀ w, Calls Tryd.prog 160 #[.int .u32 (x : Int), .int .u32 (y : Int)] w fun e w' => e = .returned (.bool true) ∧ w = w') := hide (fun w => by
              have := less32 x y w; rwa [show decide (x < y) = true by simpa using hxy] at this)
            have HXY := hide hxy
            clear hxy
            go_wp2
            go_quiet ((go_at_call 160; exact quiet_left (HL.out _)))
            go_wp2
            go_region
            all_goals
              go_wp2
              go_roundw
              case rel =>
                refine ⟨p, Go.Sort.swp d2 (p + 1) p, by omega, by omega, rfl, ?_, by rw [swp_size, HS2.out], ?_, ?_⟩
                · have := (HR2.out.drewN (nq + 1)).swp (p + 1) p
                  rwa [HX.out, HY.out] at this
                · rw [← HI2.out, insInner_go' a p d2 (by omega) (by rw [HX.out, HY.out]; simpa [ltN] using HXY.out)]
                · exact ((below_drewN HB2.out _).setCell (by exact HR2.out.2.2.1) _).setCell (by exact HR2.out.2.2.1) _
              case measure => simp [intOf]
          · have HL : Hid (∀ w, Calls Tryd.prog 160 #[.int .u32 (x : Int), .int .u32 (y : Int)] w fun e w' => e = .returned (.bool false) ∧ w = w') := hide (fun w => by
              have := less32 x y w; rwa [show decide (x < y) = false by simpa using hxy] at this)
            have HXY := hide hxy
            clear hxy
            have HMd : Hid (d2 = md) := hide (by rw [← HI2.out, insInner_stop' a (p + 1) d2 (.inr (by rw [Nat.add_sub_cancel, HX.out, HY.out]; simpa [ltN] using HXY.out))])
            go_wp2
            go_quiet ((go_at_call 160; exact quiet_left (HL.out _)))
            go_wp2
            go_roundw
            case rel => exact ⟨k + 1, d2, by omega, by omega, by go_num, HR2.out.drewN _, HS2.out, by rw [HMd.out]; exact HO2.out, below_drewN HB2.out _⟩
            case measure => simp [intOf]; omega
        · have HMd : Hid (d2 = md) := hide (by rw [← HI2.out, insInner_stop' a q d2 (.inl (by omega))])
          have hgd : decide ((q : Int) > (a : Int)) = false := by simp; omega
          clear hr hs
          go_wp2
          go_quiet (fail)
          go_wp2
          go_roundw
          case rel => exact ⟨k + 1, d2, by omega, by omega, by go_num, HR2.out.drewN _, HS2.out, by rw [HMd.out]; exact HO2.out, below_drewN HB2.out _⟩
          case measure => simp [intOf]; omega
    · have HFin : Hid (d' = fin) := hide (by rw [← HO.out, insOuter, if_neg hlt])
      go_wp2
      go_end0
      exact ⟨rfl, by rw [← HFin.out]; exact HR.out, HB.out⟩
end Go.Proofs.YtiibglkiakhfgaaDoor
