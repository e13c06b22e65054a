import Derived.Test.YtiibglkiakhfgaaDoorLexSmall
set_option linter.unusedSimpArgs false
set_option linter.unusedVariables false
namespace Go.Proofs.YtiibglkiakhfgaaDoor
open Go.RowKit
def okAt (s : ByteArray) (i : Nat) : Bool := letterB (byteAt s i) || (decide (0 < i) && innerB (byteAt s i))
theorem ok_all (s : ByteArray) (h : 0 < s.size) : (letterB (byteAt s 0) && (List.range s.size).all (fun i => innerB (byteAt s i))) = (List.range s.size).all (okAt s) := by
  have hli : ∀ c, letterB c = true → innerB c = true := fun c hc => by unfold innerB; rw [hc]; rfl
  rw [Bool.eq_iff_iff]
  simp only [Bool.and_eq_true, List.all_eq_true, List.mem_range]
  constructor
  · rintro ⟨h1, h2⟩ i hi
    unfold okAt
    by_cases h0 : i = 0
    · subst h0; rw [h1]; rfl
    · rw [h2 i hi]; simp; omega
  · intro hh
    have h0 := hh 0 h
    refine ⟨by simpa [okAt] using h0, fun i hi => ?_⟩
    have := hh i hi
    unfold okAt at this
    simp only [Bool.or_eq_true, Bool.and_eq_true] at this
    rcases this with h1 | h1
    · exact hli _ h1
    · exact h1.2
/-- What a byte is, by where it lies. -/
theorem classes (c : Int) : (c < 45) ∨ c = 45 ∨ (45 < c ∧ c < 48) ∨ (48 ≤ c ∧ c ≤ 57) ∨ (57 < c ∧ c < 65) ∨ (65 ≤ c ∧ c ≤ 90) ∨ (90 < c ∧ c < 95) ∨ c = 95 ∨ (95 < c ∧ c < 97) ∨ (97 ≤ c ∧ c ≤ 122) ∨ 122 < c := by omega
theorem name_at (s : ByteArray) (h : 0 < s.size) : nameB s = (decide (s.size ≤ 20) && (List.range s.size).all (okAt s)) := by
  rw [← ok_all s h]
  unfold nameB
  have : 1 ≤ s.size := h
  simp [this, Bool.and_assoc]

set_option maxRecDepth 100000 in
set_option maxHeartbeats 4000000 in
theorem refName_any (s : ByteArray) (w : World) (hs : s.size ≤ maxLen) :
    Calls Tryd.prog 52 #[.string s] w fun e w' => e = .returned (.bool (nameB s)) ∧ w = w' := by
  unfold maxLen at hs
  have HNM := hide (name_at s)
  go_enter Tryd.func52, Tryd.ntmps52
  go_wp2
  go_loop [3] (fun i => ∃ k : Nat, k ≤ s.size ∧ i = .int .i64 k ∧ ((List.range k).all (okAt s) = true)) (fun i => s.size - (intOf i).toNat)
  case atStart => exact ⟨0, Nat.zero_le _, rfl, rfl⟩
  case round =>
    obtain ⟨k, hk, rfl, hall⟩ := hrel
    have HA := hide hall
    clear hall
    by_cases hlt : k < s.size
    · have hbk := hide (byteAt_lt hlt)
      have hyes : ∀ h : okAt s k = true, (List.range (k + 1)).all (okAt s) = true := fun h => by
        rw [List.range_succ, List.all_append, HA.out]; simp [h]
      have hno : ∀ h : okAt s k = false, nameB s = false := fun h => by
        rw [HNM.out (by omega)]
        have : (List.range s.size).all (okAt s) = false := by rw [List.all_eq_false]; exact ⟨k, by simpa using hlt, by simp [h]⟩
        rw [this]; simp
      have HY := hide hyes
      have HF := hide hno
      clear hyes hno
      by_cases hk0 : k = 0
      · subst hk0
        have hv := hide (show okAt s 0 = letterB (s[0].toNat : Int) by unfold okAt; rw [hbk.out]; simp)
        go_wp2
        all_goals (try simp only [Bool.not_eq_true', Bool.not_eq_false', decide_eq_true_eq, decide_eq_false_iff_not, Bool.not_eq_eq_eq_not, Bool.not_true, Bool.not_false] at *)
        all_goals
          first
          | (exfalso; omega)
          | (have hc : okAt s 0 = false := (by rw [hv.out]; unfold letterB; first | (simp; done) | (simp; omega))
             go_ret
             exact ⟨ret_bool (HF.out hc).symm, rfl⟩)
          | (have hc : okAt s 0 = true := (by rw [hv.out]; unfold letterB; first | (simp; done) | (simp; omega))
             go_round
             case rel => exact ⟨1, by omega, by go_num, HY.out hc⟩
             case measure => simp [intOf]; omega)
      · have hv := hide (show okAt s k = innerB (s[k].toNat : Int) by
          unfold okAt; rw [hbk.out]
          have : 0 < k := by omega
          simp only [this, decide_true, Bool.true_and]
          unfold innerB
          cases letterB (s[k].toNat : Int) <;> simp)
        cases hok : okAt s k
        · have hcls : ((s[k].toNat : Int) < 45) ∨ (45 < (s[k].toNat : Int) ∧ (s[k].toNat : Int) < 48) ∨ (57 < (s[k].toNat : Int) ∧ (s[k].toNat : Int) < 65) ∨ (90 < (s[k].toNat : Int) ∧ (s[k].toNat : Int) < 95) ∨ (95 < (s[k].toNat : Int) ∧ (s[k].toNat : Int) < 97) ∨ 122 < (s[k].toNat : Int) := by
            rw [hv.out] at hok
            unfold innerB letterB at hok
            simp at hok
            omega
          have hfin := hide (HF.out hok)
          clear hok
          have n45 : ((s[k].toNat : Int) == 45) = false := by simp; omega
          have n95 : ((s[k].toNat : Int) == 95) = false := by simp; omega
          have nk0 : ((k : Int) == 0) = false := by simp; omega
          rcases hcls with hc | hc | hc | hc | hc | hc
          · skip
            have ge97 : decide ((97 : Int) ≤ (s[k].toNat : Int)) = false := by simp; omega
            have ge65 : decide ((65 : Int) ≤ (s[k].toNat : Int)) = false := by simp; omega
            have ge48 : decide ((48 : Int) ≤ (s[k].toNat : Int)) = false := by simp; omega
            have le122 : decide ((s[k].toNat : Int) ≤ 122) = true := by simp; omega
            have le90 : decide ((s[k].toNat : Int) ≤ 90) = true := by simp; omega
            have le57 : decide ((s[k].toNat : Int) ≤ 57) = true := by simp; omega
            clear hc
            go_wp2
            go_ret
            exact ⟨ret_bool hfin.out.symm, rfl⟩
          · skip
            have ge97 : decide ((97 : Int) ≤ (s[k].toNat : Int)) = false := by simp; omega
            have ge65 : decide ((65 : Int) ≤ (s[k].toNat : Int)) = false := by simp; omega
            have ge48 : decide ((48 : Int) ≤ (s[k].toNat : Int)) = false := by simp; omega
            have le122 : decide ((s[k].toNat : Int) ≤ 122) = true := by simp; omega
            have le90 : decide ((s[k].toNat : Int) ≤ 90) = true := by simp; omega
            have le57 : decide ((s[k].toNat : Int) ≤ 57) = true := by simp; omega
            clear hc
            go_wp2
            go_ret
            exact ⟨ret_bool hfin.out.symm, rfl⟩
          · skip
            have ge97 : decide ((97 : Int) ≤ (s[k].toNat : Int)) = false := by simp; omega
            have ge65 : decide ((65 : Int) ≤ (s[k].toNat : Int)) = false := by simp; omega
            have ge48 : decide ((48 : Int) ≤ (s[k].toNat : Int)) = true := by simp; omega
            have le122 : decide ((s[k].toNat : Int) ≤ 122) = true := by simp; omega
            have le90 : decide ((s[k].toNat : Int) ≤ 90) = true := by simp; omega
            have le57 : decide ((s[k].toNat : Int) ≤ 57) = false := by simp; omega
            clear hc
            go_wp2
            go_ret
            exact ⟨ret_bool hfin.out.symm, rfl⟩
          · skip
            have ge97 : decide ((97 : Int) ≤ (s[k].toNat : Int)) = false := by simp; omega
            have ge65 : decide ((65 : Int) ≤ (s[k].toNat : Int)) = true := by simp; omega
            have ge48 : decide ((48 : Int) ≤ (s[k].toNat : Int)) = true := by simp; omega
            have le122 : decide ((s[k].toNat : Int) ≤ 122) = true := by simp; omega
            have le90 : decide ((s[k].toNat : Int) ≤ 90) = false := by simp; omega
            have le57 : decide ((s[k].toNat : Int) ≤ 57) = false := by simp; omega
            clear hc
            go_wp2
            go_ret
            exact ⟨ret_bool hfin.out.symm, rfl⟩
          · skip
            have ge97 : decide ((97 : Int) ≤ (s[k].toNat : Int)) = false := by simp; omega
            have ge65 : decide ((65 : Int) ≤ (s[k].toNat : Int)) = true := by simp; omega
            have ge48 : decide ((48 : Int) ≤ (s[k].toNat : Int)) = true := by simp; omega
            have le122 : decide ((s[k].toNat : Int) ≤ 122) = true := by simp; omega
            have le90 : decide ((s[k].toNat : Int) ≤ 90) = false := by simp; omega
            have le57 : decide ((s[k].toNat : Int) ≤ 57) = false := by simp; omega
            clear hc
            go_wp2
            go_ret
            exact ⟨ret_bool hfin.out.symm, rfl⟩
          · skip
            have ge97 : decide ((97 : Int) ≤ (s[k].toNat : Int)) = true := by simp; omega
            have ge65 : decide ((65 : Int) ≤ (s[k].toNat : Int)) = true := by simp; omega
            have ge48 : decide ((48 : Int) ≤ (s[k].toNat : Int)) = true := by simp; omega
            have le122 : decide ((s[k].toNat : Int) ≤ 122) = false := by simp; omega
            have le90 : decide ((s[k].toNat : Int) ≤ 90) = false := by simp; omega
            have le57 : decide ((s[k].toNat : Int) ≤ 57) = false := by simp; omega
            clear hc
            go_wp2
            go_ret
            exact ⟨ret_bool hfin.out.symm, rfl⟩
        · have hcls : ((s[k].toNat : Int) = 45) ∨ (s[k].toNat : Int) = 95 ∨ (48 ≤ (s[k].toNat : Int) ∧ (s[k].toNat : Int) ≤ 57) ∨ (65 ≤ (s[k].toNat : Int) ∧ (s[k].toNat : Int) ≤ 90) ∨ (97 ≤ (s[k].toNat : Int) ∧ (s[k].toNat : Int) ≤ 122) := by
            rw [hv.out] at hok
            unfold innerB letterB at hok
            simp at hok
            omega
          have hfin := hide (HY.out hok)
          clear hok
          have nk0 : ((k : Int) == 0) = false := by simp; omega
          rcases hcls with hc | hc | hc | hc | hc
          · skip
            have ge97 : decide ((97 : Int) ≤ (s[k].toNat : Int)) = false := by simp; omega
            have ge65 : decide ((65 : Int) ≤ (s[k].toNat : Int)) = false := by simp; omega
            have ge48 : decide ((48 : Int) ≤ (s[k].toNat : Int)) = false := by simp; omega
            have le122 : decide ((s[k].toNat : Int) ≤ 122) = true := by simp; omega
            have le90 : decide ((s[k].toNat : Int) ≤ 90) = true := by simp; omega
            have le57 : decide ((s[k].toNat : Int) ≤ 57) = true := by simp; omega
            have n45 : ((s[k].toNat : Int) == 45) = true := by simp; omega
            have n95 : ((s[k].toNat : Int) == 95) = false := by simp; omega
            clear hc
            go_wp2
            go_round
            case rel => exact ⟨k + 1, by omega, by go_num, hfin.out⟩
            case measure => simp [intOf]; omega
          · skip
            have ge97 : decide ((97 : Int) ≤ (s[k].toNat : Int)) = false := by simp; omega
            have ge65 : decide ((65 : Int) ≤ (s[k].toNat : Int)) = true := by simp; omega
            have ge48 : decide ((48 : Int) ≤ (s[k].toNat : Int)) = true := by simp; omega
            have le122 : decide ((s[k].toNat : Int) ≤ 122) = true := by simp; omega
            have le90 : decide ((s[k].toNat : Int) ≤ 90) = false := by simp; omega
            have le57 : decide ((s[k].toNat : Int) ≤ 57) = false := by simp; omega
            have n45 : ((s[k].toNat : Int) == 45) = false := by simp; omega
            have n95 : ((s[k].toNat : Int) == 95) = true := by simp; omega
            clear hc
            go_wp2
            go_round
            case rel => exact ⟨k + 1, by omega, by go_num, hfin.out⟩
            case measure => simp [intOf]; omega
          · skip
            have ge97 : decide ((97 : Int) ≤ (s[k].toNat : Int)) = false := by simp; omega
            have ge65 : decide ((65 : Int) ≤ (s[k].toNat : Int)) = false := by simp; omega
            have ge48 : decide ((48 : Int) ≤ (s[k].toNat : Int)) = true := by simp; omega
            have le122 : decide ((s[k].toNat : Int) ≤ 122) = true := by simp; omega
            have le90 : decide ((s[k].toNat : Int) ≤ 90) = true := by simp; omega
            have le57 : decide ((s[k].toNat : Int) ≤ 57) = true := by simp; omega
            have n45 : ((s[k].toNat : Int) == 45) = false := by simp; omega
            have n95 : ((s[k].toNat : Int) == 95) = false := by simp; omega
            clear hc
            go_wp2
            go_round
            case rel => exact ⟨k + 1, by omega, by go_num, hfin.out⟩
            case measure => simp [intOf]; omega
          · skip
            have ge97 : decide ((97 : Int) ≤ (s[k].toNat : Int)) = false := by simp; omega
            have ge65 : decide ((65 : Int) ≤ (s[k].toNat : Int)) = true := by simp; omega
            have ge48 : decide ((48 : Int) ≤ (s[k].toNat : Int)) = true := by simp; omega
            have le122 : decide ((s[k].toNat : Int) ≤ 122) = true := by simp; omega
            have le90 : decide ((s[k].toNat : Int) ≤ 90) = true := by simp; omega
            have le57 : decide ((s[k].toNat : Int) ≤ 57) = false := by simp; omega
            have n45 : ((s[k].toNat : Int) == 45) = false := by simp; omega
            have n95 : ((s[k].toNat : Int) == 95) = false := by simp; omega
            clear hc
            go_wp2
            go_round
            case rel => exact ⟨k + 1, by omega, by go_num, hfin.out⟩
            case measure => simp [intOf]; omega
          · skip
            have ge97 : decide ((97 : Int) ≤ (s[k].toNat : Int)) = true := by simp; omega
            have ge65 : decide ((65 : Int) ≤ (s[k].toNat : Int)) = true := by simp; omega
            have ge48 : decide ((48 : Int) ≤ (s[k].toNat : Int)) = true := by simp; omega
            have le122 : decide ((s[k].toNat : Int) ≤ 122) = true := by simp; omega
            have le90 : decide ((s[k].toNat : Int) ≤ 90) = false := by simp; omega
            have le57 : decide ((s[k].toNat : Int) ≤ 57) = false := by simp; omega
            have n45 : ((s[k].toNat : Int) == 45) = false := by simp; omega
            have n95 : ((s[k].toNat : Int) == 95) = false := by simp; omega
            clear hc
            go_wp2
            go_round
            case rel => exact ⟨k + 1, by omega, by go_num, hfin.out⟩
            case measure => simp [intOf]; omega
    · obtain rfl : k = s.size := by omega
      go_wp2
      all_goals
        go_ret
        refine ⟨ret_bool ?_, rfl⟩
        by_cases h0 : 0 < s.size
        · rw [HNM.out h0, HA.out]; first | (simp_all; done) | (simp_all; omega) | (rw [Bool.eq_iff_iff]; simp_all; omega)
        · have h1 : ¬ 1 ≤ s.size := by omega
          unfold nameB; first | (simp_all; done) | (simp_all; omega)
end Go.Proofs.YtiibglkiakhfgaaDoor
