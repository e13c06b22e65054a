/-
  CommParts: the law returns true at every input, its arguments read behind the call as they did; its card: the listed package-level variables are tied to the program's text. No further condition.
-/
import Derived.Test.YtiibglkiakhfgaaDoorCommPartsW
import Derived.JoinedCond
set_option linter.unusedSimpArgs false
set_option linter.unusedVariables false
namespace Go.Proofs.YtiibglkiakhfgaaDoor.commParts
open Go.RowKit Go.WideShapes Go.ChangeShapes Go.ChangeAt Go.ChangeMaps

set_option maxRecDepth 100000 in
theorem contract (H : Type) (enc : TypeId × Value → H) (W : World) (base : Nat) (args : Array Value) (ds gs : List (DataW H)) (before : List MemPlace)
    (hval : ∀ (j : Nat) t v, Tryd.f4.params[j]? = some t → args[j]? = some v → Value.okWide Tryd.prog W .any base t v)
    (hW : DataW.Whole enc Tryd.prog Tryd.f4.params.toList Rows.commPartsSpec.vars false W args.toList ds gs before)
    (hreach : (DataW.weightsEach Tryd.prog (Tryd.f4.params.toList ++ (OpenSpec.ofChange Rows.commPartsSpec).bare.plain.varTypes Tryd.prog) (ds ++ gs)).all (· ≤ reachBytes) = true) (hL : laidMetH Tryd.prog Rows.commPartsRow.laid W) (hsh : W.ShapedOpen Tryd.prog) :
    Calls Tryd.prog 4 args W fun e W' => ∃ v, e = .returned v ∧ Rows.commPartsSpec.post enc Tryd.prog Tryd.f4 false true false false W args v W' := by
  have hW' := hW
  obtain ⟨p, q, hA0, hV, rfl, hfz, hnd⟩ := hW
  have hA : DataW.TrodAll enc Tryd.prog W 0 (fun _ => true) true Tryd.f4.params.toList args.toList ds p := hA0
  rw [Tryd.params4] at hA hval
  obtain ⟨v0, vs0, d0, ds0, p0, q0, hargs, rfl, rfl, h0, r0⟩ := trodAll_cons hA
  obtain ⟨v1, vs1, d1, ds1, p1, q1, rfl, rfl, rfl, h1, r1⟩ := trodAll_cons r0
  obtain ⟨v2, vs2, d2, ds2, p2, q2, rfl, rfl, rfl, h2, r2⟩ := trodAll_cons r1
  obtain ⟨rfl, rfl, rfl⟩ := trodAll_nil r2
  obtain rfl : args = #[v0, v1, v2] := by cases args; simp_all
  obtain ⟨z0, rfl, rfl, rfl, w0⟩ := open_int Tryd.underlying26 (hval 0 26 v0 rfl rfl) h0
  have c0 : 0 ≤ z0 ∧ z0 ≤ 65535 := by simpa [Lit.wf, IntKind.min, IntKind.max, IntKind.signed, IntKind.bits] using w0
  obtain ⟨a0, rfl⟩ := Int.eq_ofNat_of_zero_le c0.1
  have b0 : a0 < 65536 := by omega
  obtain ⟨z1, rfl, rfl, rfl, w1⟩ := open_int Tryd.underlying26 (hval 1 26 v1 rfl rfl) h1
  have c1 : 0 ≤ z1 ∧ z1 ≤ 65535 := by simpa [Lit.wf, IntKind.min, IntKind.max, IntKind.signed, IntKind.bits] using w1
  obtain ⟨a1, rfl⟩ := Int.eq_ofNat_of_zero_le c1.1
  have b1 : a1 < 65536 := by omega
  obtain ⟨A2, n2, c2, rfl⟩ := okWide_slice Tryd.underlying27 (hval 2 27 v2 rfl rfl)
  obtain ⟨a2, u2⟩ := u32s_open h2
  have ht := tab_of_laid (W := W) (laid := Rows.commPartsRow.laid) (by kernel_rfl) (List.mem_of_getElem? (i := 2) (by kernel_rfl)) hL
  refine (commParts_walk a0 a1 b0 b1 A2 n2 c2 a2 W u2 ht).mono fun e W' ⟨he, hbel⟩ => ?_
  subst he
  exact ⟨_, rfl, law_post laidOut (by rw [Tryd.params4]; decide +kernel) hW' rfl rfl rfl Tryd.underlying4 hbel⟩

theorem laid_met (os : Os) (args : Array Value) : laidMet Tryd.prog Rows.commPartsRow.laid ((startWorld os).forCall (fun _ _ => 0) ⟨#[], args, []⟩).memory :=
  laidMet_of_run' 8 (by kernel_rfl) (by kernel_rfl)
theorem reads (os : Os) {H : Type} (enc : TypeId × Value → H) : ∃ places, DataW.whole enc Tryd.prog ((startWorld os).forCall (fun _ _ => 0) ⟨#[], #[.int .u16 0, .int .u16 0, .slice none 0 0], []⟩).memory Tryd.f4.params.toList Rows.commPartsSpec.vars false (#[.int .u16 0, .int .u16 0, .slice none 0 0] : Array Value).toList 8 = some ([.lit (.int .u16 0), .lit (.int .u16 0), .nil], [], places) :=
  ⟨[], by kernel_rfl⟩
theorem start1 (os : Os) : ((startWorld os).forCall (fun _ _ => 0) ⟨#[], #[.int .u16 0, .int .u16 0, .slice none 0 0], []⟩).variablesRefB Tryd.checked.prog = true := by kernel_rfl
theorem start2 (os : Os) : (((startWorld os).forCall (fun _ _ => 0) ⟨#[], #[.int .u16 0, .int .u16 0, .slice none 0 0], []⟩).heap.toList.drop Tryd.checked.prog.globals.size).take ((begin Tryd.checked.prog (fun _ _ => 0) default).world.heap.size - Tryd.checked.prog.globals.size) =
      (begin Tryd.checked.prog (fun _ _ => 0) default).world.heap.toList.drop Tryd.checked.prog.globals.size := by kernel_rfl
theorem start3 (os : Os) : Input.okWideB Tryd.checked.prog ((startWorld os).forCall (fun _ _ => 0) ⟨#[], #[.int .u16 0, .int .u16 0, .slice none 0 0], []⟩) 4 ⟨#[], #[.int .u16 0, .int .u16 0, .slice none 0 0], []⟩ = true := by kernel_rfl

set_option maxRecDepth 100000 in
theorem lifted (os : Os) (started : os.Started) (H : Type) (enc : TypeId × Value → H) (F : Stop.Interp) :
    ReturnsInHanded {} Tryd.checked os 4 .any ((OpenSpec.ofChange Rows.commPartsSpec).preRow enc Tryd.prog Tryd.f4 Rows.commPartsRow.domain false Rows.commPartsRow.laid) (((OpenSpec.ofChange Rows.commPartsSpec).at F).post enc Tryd.prog Tryd.f4 false true false false) := by
  obtain ⟨places, hx⟩ := reads os enc
  refine returnsInHanded_of_row (C := Tryd.checked) (s := OpenSpec.ofChange Rows.commPartsSpec) own started (by kernel_rfl) Tryd.func4
    (witness_row_atRef (enc := enc) (C := Tryd.checked) false (startWorld os) #[.int .u16 0, .int .u16 0, .slice none 0 0] rfl (start1 os) (start2 os) (start3 os)
      (OpenSpec.preRow_of_cond 8 hx (by kernel_rfl) (fun k hk => by cases hk) (by kernel_rfl) (laid_met os _))) ?_
  intro W base args ds gs before hval hW _ _ hreach hL hsh _
  exact contract H enc W base args ds gs before hval hW hreach hL hsh

theorem fact1 : Tryd.pinned.checked.prog.funcNamed Rows.commPartsRow.func = some 4 := by kernel_rfl
theorem fact2 : joinedFacts Tryd.pinned.checked.prog 4 Tryd.f4 (OpenSpec.ofChange Rows.commPartsSpec).bare Rows.commPartsRow = true := by kernel_rfl
theorem fact3 : Tryd.f4.isInstance Tryd.pinned.checked.prog Rows.commPartsRow.origin Rows.commPartsRow.targs := of_decide_eq_true (by kernel_rfl)
theorem fact4 : Tryd.f4.isWrapper Tryd.pinned.checked.prog Rows.commPartsRow.wrapper Rows.commPartsRow.mainSum := by unfold Func.isWrapper; first | (rw [if_pos (by decide +kernel)]; kernel_rfl) | (rw [if_neg (by decide +kernel)]; exact ⟨rfl, rfl⟩)
theorem fact5 : Rows.commPartsRow.wfByText (OpenSpec.ofChange Rows.commPartsSpec) = true := by kernel_rfl
theorem fact6 : false = Rows.commPartsRow.goesBy Tryd.pinned.checked.prog := by kernel_rfl
theorem fact7 : (Tryd.f4.params.toList.all fun u => !Tryd.prog.wantsStandIn u) = true := by kernel_rfl
theorem said : Rows.CommPartsSaid :=
  OpenClaim.holds_of_cond 4 Tryd.f4 rfl rfl rfl rfl rfl rfl rfl ⟨rfl, rfl, rfl, rfl, rfl⟩ rfl rfl rfl rfl rfl fact1 Tryd.func4 fact2 fact3 fact4
    (fun os started H enc _ F => by rw [OpenClaim.pre_eq_preRow]; exact lifted os started H enc F)
theorem proved : Rows.CommPartsCardSaid :=
  Claim7.holds_tied_plain_at .later [] _ _ _ _ said (fun _ h => by cases h) fact5 (fun _ h => by cases h) commParts_row_tie rfl ⟨rfl, rfl⟩ mainIs rfl (plain_of "confluence/confluencelaw03.CommParts" 4 Tryd.f4 fact1 Tryd.func4 fact7 noLooks) fact6
end Go.Proofs.YtiibglkiakhfgaaDoor.commParts

