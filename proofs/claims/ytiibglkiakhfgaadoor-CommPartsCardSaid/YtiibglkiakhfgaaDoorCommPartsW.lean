/-
  CommParts: the law's walk.
-/
import Derived.Test.YtiibglkiakhfgaaDoorCommWalk
set_option linter.unusedSimpArgs false
set_option linter.unusedVariables false
namespace Go.Proofs.YtiibglkiakhfgaaDoor
open Go.RowKit

theorem known_or (c : Nat) : decide (c = 4294967041 ∨ c = 4294967042 ∨ c = 4294967043) = (((c : Int) == 4294967041) || ((c : Int) == 4294967042) || ((c : Int) == 4294967043)) := by
  rw [Bool.eq_iff_iff]; simp; omega
theorem keepsE_mem (l : List Nat) : keepsE l = (decide (4294967041 ∈ l) || decide (4294967043 ∈ l)) := by
  rw [Bool.eq_iff_iff]; simp [keepsE]
  constructor
  · rintro ⟨x, hx, rfl | rfl⟩
    · exact .inl hx
    · exact .inr hx
  · rintro (h | h)
    · exact ⟨_, h, .inl rfl⟩
    · exact ⟨_, h, .inr rfl⟩
theorem keepsA_mem (l : List Nat) : keepsA l = decide (4294967042 ∈ l) := by
  rw [Bool.eq_iff_iff]; simp [keepsA]

set_option maxRecDepth 100000 in
set_option maxHeartbeats 4000000 in
theorem commParts_walk (a n : Nat) (ha : a < 65536) (hn : n < 65536) (A : Option Addr) (m cp : Nat) (l : List Nat) (w : World) (h : U32s w A m cp l) (ht : Tab w) :
    Calls Tryd.prog 4 #[.int .u16 a, .int .u16 n, .slice A m cp] w fun e w' => e = .returned (.bool true) ∧ Below w.heap.size w w' := by
  obtain ⟨c, hc⟩ : ∃ c, a * 65536 + n = c := ⟨_, rfl⟩
  have hcl : c < 4294967296 := by omega
  have q0 : ((c : Int) == (a : Int) * 65536 + (n : Int)) = true := by simp; omega
  have q1 : ((c : Int) / 65536 == (a : Int)) = true := by simp; omega
  have q2 : ((c : Int) % 65536 == (n : Int)) = true := by simp; omega
  have HC := hide hc
  clear hc
  go_enter Tryd.func4, Tryd.ntmps4
  go_wp2_with fail
  refine (make_any a n ha hn _).mono ?_
  rintro e w1 ⟨rfl, rfl⟩
  rw [HC.out]
  go_wp2_with fail
  refine (parts_any c hcl _).mono ?_
  rintro e w1 ⟨rfl, rfl⟩
  go_wp2_with fail
  refine (few_any _ _ _ _ 40 (by decide) _ h).mono ?_
  rintro e w1 ⟨v1, rfl, ho1⟩
  have hb1 := ho1.2
  have hx1 : ∀ x ∈ l.take 40, x < 4294967296 := fun x hx => h.2.2.2.1 x (List.mem_of_mem_take hx)
  obtain ⟨A1, n1, c1, rfl, hu1⟩ := ho1.u32s hx1
  go_wp2_with fail
  refine (few_any _ _ _ _ 40 (by decide) _ hu1).mono ?_
  rintro e w2 ⟨v2, rfl, ho2⟩
  have hb2 := ho2.2
  rw [List.take_take, Nat.min_self] at ho2
  obtain ⟨A2, n2, c2, rfl, hu2⟩ := ho2.u32s hx1
  go_wp2_with fail
  refine (keeps_any _ _ _ _ _ hu2).mono ?_
  rintro e w3 ⟨rfl, rfl⟩
  rw [keepsE_mem, keepsA_mem]
  have hu3 := hu1.below hb2
  have ht2 := ht.below (below2 hb1 hb2)
  generalize hL : l.take 40 = L at *
  obtain ⟨b1, e1⟩ : ∃ b, decide (4294967041 ∈ L) = b := ⟨_, rfl⟩
  obtain ⟨b2, e2⟩ : ∃ b, decide (4294967042 ∈ L) = b := ⟨_, rfl⟩
  obtain ⟨b3, e3⟩ : ∃ b, decide (4294967043 ∈ L) = b := ⟨_, rfl⟩
  rw [e1, e2, e3]
  have E1 := hide e1
  have E2 := hide e2
  have E3 := hide e3
  obtain ⟨k1, f1⟩ : ∃ b, ((c : Int) == 4294967041) = b := ⟨_, rfl⟩
  obtain ⟨k2, f2⟩ : ∃ b, ((c : Int) == 4294967042) = b := ⟨_, rfl⟩
  obtain ⟨k3, f3⟩ : ∃ b, ((c : Int) == 4294967043) = b := ⟨_, rfl⟩
  have hk := hide (known_or c)
  rw [f1, f2, f3] at hk
  clear e1 e2 e3 ho1 ho2 hu2 hu1 hx1 h hL
  cases k1 <;> cases k2 <;> cases k3
  all_goals
    go_wp2_with fail
    refine (known_any c _).mono ?_
    rintro e w3 ⟨rfl, rfl⟩
    rw [hk.out]
    go_wp2_with fail
    refine (refHas_any _ _ _ _ 4294967041 _ hu3).mono ?_
    rintro e w3 ⟨rfl, rfl⟩
    rw [E1.out]
    cases b1
    · go_wp2_with fail
      refine (refHas_any _ _ _ _ 4294967043 _ hu3).mono ?_
      rintro e w3 ⟨rfl, rfl⟩
      rw [E3.out]
      cases b3
      all_goals
        go_wp2_with fail
        refine (refHas_any _ _ _ _ 4294967042 _ hu3).mono ?_
        rintro e w3 ⟨rfl, rfl⟩
        rw [E2.out]
        cases b2
        all_goals
          go_wp2_with fail
          refine (commLives_any _ ht2).mono ?_
          rintro e w3 ⟨rfl, hb3⟩
          go_wp2
          go_ret
          exact ⟨rfl, below2 (below2 hb1 hb2) hb3⟩
    · go_wp2_with fail
      refine (refHas_any _ _ _ _ 4294967042 _ hu3).mono ?_
      rintro e w3 ⟨rfl, rfl⟩
      rw [E2.out]
      cases b2
      all_goals
        go_wp2_with fail
        refine (commLives_any _ ht2).mono ?_
        rintro e w3 ⟨rfl, hb3⟩
        go_wp2
        go_ret
        exact ⟨rfl, below2 (below2 hb1 hb2) hb3⟩
end Go.Proofs.YtiibglkiakhfgaaDoor
