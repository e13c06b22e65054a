/-
  AsnSets: the law returns true at every input, its arguments read behind the call as they did; its card: the listed package-level variables are tied to the program's text. No further condition.
-/
import Derived.Test.YtiibglkiakhfgaaDoorAsnSetsW
import Derived.JoinedCond
import Derived.Test.YtiibglkiakhfgaaDoorCommEnv
import Derived.Test.YtiibglkiakhfgaaDoorFacts
set_option linter.unusedSimpArgs false
set_option linter.unusedVariables false
namespace Go.Proofs.YtiibglkiakhfgaaDoor.asnSets
open Go.RowKit Go.WideShapes Go.ChangeShapes Go.ChangeAt Go.ChangeMaps

set_option maxRecDepth 100000 in
theorem contract (H : Type) (enc : TypeId × Value → H) (W : World) (base : Nat) (args : Array Value) (ds gs : List (DataW H)) (before : List MemPlace)
    (hval : ∀ (j : Nat) t v, Tryd.f17.params[j]? = some t → args[j]? = some v → Value.okWide Tryd.prog W .any base t v)
    (hW : DataW.Whole enc Tryd.prog Tryd.f17.params.toList Rows.asnSetsSpec.vars false W args.toList ds gs before)
    (hreach : (DataW.weightsEach Tryd.prog (Tryd.f17.params.toList ++ (OpenSpec.ofChange Rows.asnSetsSpec).bare.plain.varTypes Tryd.prog) (ds ++ gs)).all (· ≤ reachBytes) = true) (hL : laidMetH Tryd.prog Rows.asnSetsRow.laid W) (hsh : W.ShapedOpen Tryd.prog) :
    Calls Tryd.prog 17 args W fun e W' => ∃ v, e = .returned v ∧ Rows.asnSetsSpec.post enc Tryd.prog Tryd.f17 false true false false W args v W' := by
  have hW' := hW
  obtain ⟨p, q, hA0, hV, rfl, hfz, hnd⟩ := hW
  have hA : DataW.TrodAll enc Tryd.prog W 0 (fun _ => true) true Tryd.f17.params.toList args.toList ds p := hA0
  rw [Tryd.params17] at hA hval
  obtain ⟨v0, vs0, d0, ds0, p0, q0, hargs, rfl, rfl, h0, r0⟩ := trodAll_cons hA
  obtain ⟨v1, vs1, d1, ds1, p1, q1, rfl, rfl, rfl, h1, r1⟩ := trodAll_cons r0
  obtain ⟨rfl, rfl, rfl⟩ := trodAll_nil r1
  obtain rfl : args = #[v0, v1] := by cases args; simp_all
  obtain ⟨A0, n0, c0, rfl⟩ := okWide_slice Tryd.underlying27 (hval 0 27 v0 rfl rfl)
  obtain ⟨a0, u0⟩ := u32s_open h0
  obtain ⟨z1, rfl, rfl, rfl, w1⟩ := open_int Tryd.underlying22 (hval 1 22 v1 rfl rfl) h1
  have c1 : 0 ≤ z1 ∧ z1 ≤ 4294967295 := by simpa [Lit.wf, IntKind.min, IntKind.max, IntKind.signed, IntKind.bits] using w1
  obtain ⟨a1, rfl⟩ := Int.eq_ofNat_of_zero_le c1.1
  have b1 : a1 < 4294967296 := by omega
  have ht := tab_of_laid (W := W) (laid := Rows.asnSetsRow.laid) (by kernel_rfl) (List.mem_of_getElem? (i := 2) (by kernel_rfl)) hL
  refine (asnSets_any A0 n0 c0 a0 a1 b1 W u0).mono fun e W' ⟨he, hbel⟩ => ?_
  subst he
  exact ⟨_, rfl, law_post laidOut (by rw [Tryd.params17]; decide +kernel) hW' rfl rfl rfl Tryd.underlying4 hbel⟩

theorem laid_met (os : Os) (args : Array Value) : laidMet Tryd.prog Rows.asnSetsRow.laid ((startWorld os).forCall (fun _ _ => 0) ⟨#[], args, []⟩).memory :=
  laidMet_of_run' 8 (by kernel_rfl) (by kernel_rfl)
theorem reads (os : Os) {H : Type} (enc : TypeId × Value → H) : ∃ places, DataW.whole enc Tryd.prog ((startWorld os).forCall (fun _ _ => 0) ⟨#[], #[.slice none 0 0, .int .u32 0], []⟩).memory Tryd.f17.params.toList Rows.asnSetsSpec.vars false (#[.slice none 0 0, .int .u32 0] : Array Value).toList 8 = some ([.nil, .lit (.int .u32 0)], [], places) :=
  ⟨[], by kernel_rfl⟩
theorem start1 (os : Os) : ((startWorld os).forCall (fun _ _ => 0) ⟨#[], #[.slice none 0 0, .int .u32 0], []⟩).variablesRefB Tryd.checked.prog = true := by kernel_rfl
theorem start2 (os : Os) : (((startWorld os).forCall (fun _ _ => 0) ⟨#[], #[.slice none 0 0, .int .u32 0], []⟩).heap.toList.drop Tryd.checked.prog.globals.size).take ((begin Tryd.checked.prog (fun _ _ => 0) default).world.heap.size - Tryd.checked.prog.globals.size) =
      (begin Tryd.checked.prog (fun _ _ => 0) default).world.heap.toList.drop Tryd.checked.prog.globals.size := by kernel_rfl
theorem start3 (os : Os) : Input.okWideB Tryd.checked.prog ((startWorld os).forCall (fun _ _ => 0) ⟨#[], #[.slice none 0 0, .int .u32 0], []⟩) 17 ⟨#[], #[.slice none 0 0, .int .u32 0], []⟩ = true := by kernel_rfl

set_option maxRecDepth 100000 in
theorem lifted (os : Os) (started : os.Started) (H : Type) (enc : TypeId × Value → H) (F : Stop.Interp) :
    ReturnsInHanded {} Tryd.checked os 17 .any ((OpenSpec.ofChange Rows.asnSetsSpec).preRow enc Tryd.prog Tryd.f17 Rows.asnSetsRow.domain false Rows.asnSetsRow.laid) (((OpenSpec.ofChange Rows.asnSetsSpec).at F).post enc Tryd.prog Tryd.f17 false true false false) := by
  obtain ⟨places, hx⟩ := reads os enc
  refine returnsInHanded_of_row (C := Tryd.checked) (s := OpenSpec.ofChange Rows.asnSetsSpec) own started (by kernel_rfl) Tryd.func17
    (witness_row_atRef (enc := enc) (C := Tryd.checked) false (startWorld os) #[.slice none 0 0, .int .u32 0] rfl (start1 os) (start2 os) (start3 os)
      (OpenSpec.preRow_of_cond 8 hx (by kernel_rfl) (fun k hk => by cases hk) (by kernel_rfl) (laid_met os _))) ?_
  intro W base args ds gs before hval hW _ _ hreach hL hsh _
  exact contract H enc W base args ds gs before hval hW hreach hL hsh

theorem fact1 : Tryd.pinned.checked.prog.funcNamed Rows.asnSetsRow.func = some 17 := by kernel_rfl
theorem and2 {a b : Bool} (h : a = true) (k : b = true) : (a && b) = true := by rw [h, k]; rfl
theorem jf0 : (Rows.asnSetsRow.wf (OpenSpec.ofChange (OpenSpec.ofChange Rows.asnSetsSpec).bare) && laidOutB Tryd.pinned.checked.prog && mapsRowed Tryd.pinned.checked.prog && Tryd.f17.params.all (Tryd.pinned.checked.prog.readableRec ·) && namedTie Tryd.pinned.checked.prog Rows.asnSetsRow.named ((OpenSpec.ofChange Rows.asnSetsSpec).bare).vars && (Rows.asnSetsRow.stops == []) && (Tryd.pinned.checked.prog.stops == []) && (Rows.asnSetsRow.knobs == []) && (Tryd.pinned.checked.prog.stopKnobs == [])) = true := by kernel_rfl
theorem jf1 : (Rows.asnSetsRow.inPlace == Tryd.pinned.checked.prog.inPlace 17) = true := by kernel_rfl
theorem jf2 : (Rows.asnSetsRow.unfollowed == Tryd.pinned.checked.prog.unfollowed 17) = true := by kernel_rfl
theorem jf3 : (Rows.asnSetsRow.recurses == Tryd.pinned.checked.prog.recurses 17) = true := by kernel_rfl
theorem jf4 : (Rows.asnSetsRow.named == Tryd.pinned.checked.prog.varsNamed 17) = true := by kernel_rfl
theorem jf5 : (Rows.asnSetsRow.maps == (Tryd.f17.params.toList ++ ((OpenSpec.ofChange Rows.asnSetsSpec).bare).plain.varTypes Tryd.pinned.checked.prog).any (Tryd.pinned.checked.prog.mapsRec ·)) = true := by kernel_rfl
theorem jf6 : (Rows.asnSetsRow.ifaces == (Tryd.f17.params.toList ++ ((OpenSpec.ofChange Rows.asnSetsSpec).bare).plain.varTypes Tryd.pinned.checked.prog).any (Tryd.pinned.checked.prog.ifacesRec ·)) = true := by kernel_rfl
theorem jf7 : (Rows.asnSetsRow.mapsOut == Tryd.pinned.checked.prog.mapsAmong Tryd.f17.resultTypes.toList) = true := by kernel_rfl
theorem jf8 : (Rows.asnSetsRow.loops == (Tryd.f17.params.toList ++ ((OpenSpec.ofChange Rows.asnSetsSpec).bare).plain.varTypes Tryd.pinned.checked.prog).any (Tryd.pinned.checked.prog.loopsFrom ·)) = true := by kernel_rfl
theorem jf9 : (Rows.asnSetsRow.wideKeys == (Tryd.f17.params.toList ++ ((OpenSpec.ofChange Rows.asnSetsSpec).bare).plain.varTypes Tryd.pinned.checked.prog ++ Tryd.f17.resultTypes.toList).any (Tryd.pinned.checked.prog.wideKeysFrom ·)) = true := by kernel_rfl
theorem jf10 : (((OpenSpec.ofChange Rows.asnSetsSpec).bare).vars.all (Tryd.pinned.checked.prog.varReadable ·)) = true := by kernel_rfl
theorem jf11 : (Tryd.f17.resultTypes.all (fun t => Tryd.pinned.checked.prog.readableRec t && decide (t < Tryd.pinned.checked.prog.types.size))) = true := by kernel_rfl
theorem jf12 : (Rows.asnSetsRow.ifacesOut == Tryd.f17.resultTypes.toList.any (Tryd.pinned.checked.prog.ifacesRec ·)) = true := by kernel_rfl
theorem jf13 : (Rows.asnSetsRow.loopsOut == Tryd.f17.resultTypes.toList.any (Tryd.pinned.checked.prog.loopsFrom ·)) = true := by kernel_rfl
theorem jf14 : (Rows.asnSetsRow.plainKeys == Tryd.pinned.checked.prog.plainKeys) = true := sf14
theorem jf15 : (Rows.asnSetsRow.shortTexts.isNone) = true := by kernel_rfl
theorem jf16 : (Tryd.pinned.checked.prog.stopsHeard) = true := sf16
theorem jf17 : (Tryd.pinned.checked.prog.mayEnter) = true := sf17
theorem jf18 : (Rows.asnSetsRow.lifted == Tryd.pinned.checked.prog.liftsFinal) = true := sf18
theorem jf19 : (Tryd.pinned.checked.prog.make == some Rows.asnSetsRow.make) = true := sf19
theorem jf20 : (Rows.asnSetsRow.kinds == (if Rows.asnSetsRow.domain.isEmpty then [] else Tryd.f17.params.toList.map fun t => match Tryd.pinned.checked.prog.underlying t with | some (.int k) => some k | _ => none)) = true := by kernel_rfl
theorem jf21 : (Rows.asnSetsRow.pinned == Rows.asnSetsRow.pinnedBy) = true := by kernel_rfl
theorem jf22 : (Rows.asnSetsRow.veiled == (Tryd.f17.params.toList ++ ((OpenSpec.ofChange Rows.asnSetsSpec).bare).plain.varTypes Tryd.pinned.checked.prog ++ Tryd.f17.resultTypes.toList).any (Tryd.pinned.checked.prog.veiledRec ·)) = true := by kernel_rfl
theorem jf23 : (Rows.asnSetsRow.veiledFits Tryd.pinned.checked.prog Tryd.f17.params.toList (Tryd.f17.params.toList ++ ((OpenSpec.ofChange Rows.asnSetsSpec).bare).plain.varTypes Tryd.pinned.checked.prog ++ Tryd.f17.resultTypes.toList)) = true := by kernel_rfl
set_option maxRecDepth 100000 in
theorem fact2 : joinedFacts Tryd.pinned.checked.prog 17 Tryd.f17 (OpenSpec.ofChange Rows.asnSetsSpec).bare Rows.asnSetsRow = true := (and2 (and2 (and2 (and2 (and2 (and2 (and2 (and2 (and2 (and2 (and2 (and2 (and2 (and2 (and2 (and2 (and2 (and2 (and2 (and2 (and2 (and2 (and2 jf0 jf1) jf2) jf3) jf4) jf5) jf6) jf7) jf8) jf9) jf10) jf11) jf12) jf13) jf14) jf15) jf16) jf17) jf18) jf19) jf20) jf21) jf22) jf23)
theorem fact3 : Tryd.f17.isInstance Tryd.pinned.checked.prog Rows.asnSetsRow.origin Rows.asnSetsRow.targs := of_decide_eq_true (by kernel_rfl)
theorem fact4 : Tryd.f17.isWrapper Tryd.pinned.checked.prog Rows.asnSetsRow.wrapper Rows.asnSetsRow.mainSum := by unfold Func.isWrapper; first | (rw [if_pos (by decide +kernel)]; kernel_rfl) | (rw [if_neg (by decide +kernel)]; exact ⟨rfl, rfl⟩)
theorem fact5 : Rows.asnSetsRow.wfByText (OpenSpec.ofChange Rows.asnSetsSpec) = true := by kernel_rfl
theorem fact6 : false = Rows.asnSetsRow.goesBy Tryd.pinned.checked.prog := by kernel_rfl
theorem fact7 : (Tryd.f17.params.toList.all fun u => !Tryd.prog.wantsStandIn u) = true := by kernel_rfl
theorem said : Rows.AsnSetsSaid :=
  OpenClaim.holds_of_cond 17 Tryd.f17 rfl rfl rfl rfl rfl rfl rfl ⟨rfl, rfl, rfl, rfl, rfl⟩ rfl rfl rfl rfl rfl fact1 Tryd.func17 fact2 fact3 fact4
    (fun os started H enc _ F => by rw [OpenClaim.pre_eq_preRow]; exact lifted os started H enc F)
theorem proved : Rows.AsnSetsCardSaid :=
  Claim7.holds_tied_plain_at .later [] _ _ _ _ said (fun _ h => by cases h) fact5 (fun _ h => by cases h) asnSets_row_tie rfl ⟨rfl, rfl⟩ mainIs rfl (plain_of "confluence/confluencelaw02.AsnSets" 17 Tryd.f17 fact1 Tryd.func17 fact7 noLooks) fact6
end Go.Proofs.YtiibglkiakhfgaaDoor.asnSets

