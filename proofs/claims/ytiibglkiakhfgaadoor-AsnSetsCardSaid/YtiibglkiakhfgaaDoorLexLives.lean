/- LexCuts: for every line of text the words and the fault that lex.Cut gives are those of the reference. No condition. -/
import Derived.Test.YtiibglkiakhfgaaDoorLexLexCut
set_option linter.unusedSimpArgs false
set_option linter.unusedVariables false
namespace Go.Proofs.YtiibglkiakhfgaaDoor
open Go.RowKit

theorem liv1 : cutR ⟨#[97, 32, 32, 98, 99, 32, 35, 32, 100]⟩ = [(0, 1), (3, 5)] := by decide +kernel
theorem liv2 : cutF ⟨#[97, 32, 32, 98, 99, 32, 35, 32, 100]⟩ = (0, 0) := by decide +kernel
theorem liv3 : nameB ⟨#[120, 45, 49]⟩ = true := by decide +kernel
theorem liv4 : wlist ⟨#[97, 32, 32, 98, 99, 32, 35, 32, 100]⟩ [(0, 1), (3, 5)] = [(⟨#[97]⟩, 1), (⟨#[98, 99]⟩, 4)] := by decide +kernel

set_option maxHeartbeats 400000 in
theorem lexLives_any (w : World) : Calls Tryd.prog 27 #[] w fun e w' => e = .returned (.bool true) ∧ Below w.heap.size w w' := by
  go_enter Tryd.func27, Tryd.ntmps27
  go_wp2_with fail
  refine (lexCut_any _ _ (by decide +kernel)).mono ?_
  rintro e w1 ⟨A, c, rfl, hown, hbel⟩
  rw [liv1, liv4] at hown
  rw [liv1, liv2]
  have hW := wordsAt_of_own hown
  obtain ⟨g, rfl, hc⟩ := hW.2 (by decide)
  obtain ⟨d0, d1⟩ := hc 1 _ rfl
  have hg := World.block_lt_of_cell? w1 _ d0
  simp at d0 d1 hg
  go_wp2_with fail
  refine (name_any _ _ (by decide +kernel)).mono ?_
  rintro e w2 ⟨rfl, rfl⟩
  rw [liv3]
  go_wp2
  go_ret
  refine ⟨rfl, ?_⟩
  exact hbel.alloc hbel.size _

end Go.Proofs.YtiibglkiakhfgaaDoor
