/- LexCuts: for every line of text the words and the fault that lex.Cut gives are those of the reference. No condition. -/
import Derived.Test.YtiibglkiakhfgaaLexLexCut
import Derived.Test.YtiibglkiakhfgaaLaw
set_option linter.unusedSimpArgs false
set_option linter.unusedVariables false
namespace Go.Proofs.Ytiibglkiakhfgaa
open Go.RowKit Go.WideShapes Go.ChangeShapes Go.ChangeAt Go.ChangeMaps

theorem liv1 : cutR ⟨#[97, 32, 32, 98, 99, 32, 35, 32, 100]⟩ = [(0, 1), (3, 5)] := by decide +kernel
theorem liv2 : cutF ⟨#[97, 32, 32, 98, 99, 32, 35, 32, 100]⟩ = (0, 0) := by decide +kernel
theorem liv3 : nameB ⟨#[120, 45, 49]⟩ = true := by decide +kernel
theorem liv4 : wlist ⟨#[97, 32, 32, 98, 99, 32, 35, 32, 100]⟩ [(0, 1), (3, 5)] = [(⟨#[97]⟩, 1), (⟨#[98, 99]⟩, 4)] := by decide +kernel

set_option maxHeartbeats 400000 in
theorem lives_any (w : World) : Calls Try.prog 7 #[] w fun e w' => e = .returned (.bool true) ∧ Below w.heap.size w w' := by
  go_enter Try.func7, Try.ntmps7
  go_wp2_with fail
  refine (lexCut_any _ _ (by decide +kernel)).mono ?_
  rintro e w1 ⟨A, c, rfl, hown, hbel⟩
  rw [liv1, liv4] at hown
  rw [liv1, liv2]
  have hW := wordsAt_of_own hown
  obtain ⟨g, rfl, hc⟩ := hW.2 (by decide)
  obtain ⟨d0, d1⟩ := hc 1 _ rfl
  have hg := World.block_lt_of_cell? w1 _ d0
  simp at d0 d1 hg
  go_wp2_with fail
  refine (name_any _ _ (by decide +kernel)).mono ?_
  rintro e w2 ⟨rfl, rfl⟩
  rw [liv3]
  go_wp2
  go_ret
  refine ⟨rfl, ?_⟩
  exact hbel.alloc hbel.size _

theorem cutR_len (s : ByteArray) : (cutR s).length ≤ 64 := by
  unfold cutR
  split
  · have := cutW_len s 0 0 (by omega); omega
  · simp

/-- The law's walk on a line of at most 400 bytes, the rest of its frame being whatever it is. -/
theorem law_any (s : ByteArray) (w : World) (hs : s.size ≤ maxLen) : Calls Try.prog 3 #[.string s] w fun e w' => e = .returned (.bool true) ∧ Below w.heap.size w w' := by
  have hs1 := hs
  unfold maxLen at hs
  obtain ⟨t, ht, htm⟩ : ∃ t : ByteArray, t = (if 400 < s.size then s.extract 0 400 else s) ∧ t.size ≤ maxLen := by
    refine ⟨_, rfl, ?_⟩
    split
    · rw [ByteArray.size_extract]; unfold maxLen; omega
    · exact hs1
  go_enter Try.func3, Try.ntmps3
  by_cases h4 : 400 < s.size
  all_goals
    rw [show t = _ from ht] at htm
    simp only [h4, if_true, if_false] at htm
    clear ht
    go_wp2_with fail
    refine (lexCut_any _ _ htm).mono ?_
    rintro e w1 ⟨A, c, rfl, hown, hbel⟩
    go_wp2_with fail
    refine (refCut_any _ _ htm).mono ?_
    rintro e w2 ⟨A2, c2, rfl, hown2, hbel2⟩
    rw [World.size_alloc] at hown2 hbel2
    have hlen := cutR_len
    have hB1 : Blk w2 w1.heap.size 25 _ := (Blk.new w1 25 _).below hbel2 (by omega)
    have hz : w1.heap.size < w2.heap.size := hB1.lt
    have r0 := hB1.cell 0
    have r1 := hB1.cell 1
    have r2 := hB1.cell 2
    simp at r0 r1 r2
    go_wp2_with fail
    have hb12 : Below w1.heap.size w1 w2 := ((Below.refl _ w1).alloc (Nat.le_refl _) _).trans (hbel2.mono (by omega))
    refine (same_true _ _ _ _ _ _ _ _ _ (Nat.le_trans (cutR_len _) (by decide +kernel)) ((wordsAt_of_own hown).below (hb12.alloc (by omega) _)) ((wordsAt_of_own hown2).below ((Below.refl _ _).alloc (Nat.le_refl _) _)) (fun k p q h1 h2 => by rw [h1] at h2; cases h2; exact ⟨rfl, fun _ => rfl⟩)).mono ?_
    rintro e w3 ⟨rfl, q, rfl⟩
    go_wp2_with fail
    refine (lives_any _).mono ?_
    rintro e w4 ⟨rfl, hbel4⟩
    go_wp2
    go_ret
    refine ⟨rfl, ?_⟩
    have hb0 := hbel.size
    have hb1 := hb12.size
    refine ((below_drewN ((hbel.trans (hb12.mono hb0)).alloc (by omega) _) q).trans (hbel4.mono ?_))
    simp; omega

theorem own : ownKnob Try.prog.godebug = none := by kernel_rfl
theorem laidOut : laidOutB Try.prog = true := by kernel_rfl

set_option maxRecDepth 100000 in
theorem lifted (os : Os) (started : os.Started) (H : Type) (enc : TypeId × Value → H) :
    ReturnsInHanded {} Try.checked os 3 .any (Rows.lexCutsSpec.pre6 enc Try.prog Try.f3 Rows.lexCutsRow.domain false) (Rows.lexCutsSpec.post enc Try.prog Try.f3 false true false false) := by
  refine returnsInHanded_of_change (C := Try.checked) own started (by kernel_rfl) Try.func3
    (ChangeSpec.witness6 (enc := enc) (C := Try.checked) false ⟨#[], #[.string ⟨#[]⟩], []⟩ 8 (by kernel_rfl) (by kernel_rfl) (by kernel_rfl) (by kernel_rfl)) ?_
  intro W base args ds gs before hval0 hW hcnd _
  have hval : ∀ (j : Nat) t v, Try.f3.params[j]? = some t → args[j]? = some v → Value.okWide Try.prog W .any base t v := hval0
  have hW' := hW
  obtain ⟨p, q, hA0, hV, rfl, hfz, hnd⟩ := hW
  have hA : DataW.TrodAll enc Try.prog W 0 (fun _ => true) true Try.f3.params.toList args.toList ds p := hA0
  rw [Try.params3] at hA hval
  obtain ⟨v0, vs0, d0, ds0, p0, q0, hargs, rfl, rfl, h0, r0⟩ := trodAll_cons hA
  obtain ⟨rfl, rfl, rfl⟩ := trodAll_nil r0
  obtain rfl : args = #[v0] := by cases args; simp_all
  obtain ⟨s, rfl, rfl, rfl, hs⟩ := open_string Try.underlying9 (hval 0 9 v0 rfl rfl) h0
  refine (law_any s W hs).mono fun e W' ⟨he, hb⟩ => ?_
  subst he
  exact ⟨_, rfl, law_post laidOut (by rw [Try.params3]; decide +kernel) hW' rfl rfl rfl Try.underlying4 hb⟩

theorem over : Rows.lexCutsRow.holds Try.pinned (OpenSpec.ofChange Rows.lexCutsSpec) :=
  OpenClaim.holds_of_wide 3 Try.f3 rfl rfl rfl rfl rfl rfl rfl ⟨rfl, rfl, rfl, rfl, rfl⟩ rfl rfl rfl rfl rfl (by kernel_rfl) Try.func3 (by kernel_rfl)
    (of_decide_eq_true (by kernel_rfl)) (by unfold Func.isWrapper; first | (rw [if_pos (by decide +kernel)]; kernel_rfl) | (rw [if_neg (by decide +kernel)]; exact ⟨rfl, rfl⟩))
    (fun os started H enc _ => lifted os started H enc)
theorem proved : Rows.LexCutsSaid := over

end Go.Proofs.Ytiibglkiakhfgaa
