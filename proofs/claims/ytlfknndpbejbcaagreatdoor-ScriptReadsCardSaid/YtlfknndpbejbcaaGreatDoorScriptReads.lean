/-
  ScriptReads: the law returns true at every input, its arguments read behind the call as they did; its card: the listed package-level variables are tied to the program's text. No further condition.
-/
import Derived.Test.YtlfknndpbejbcaaGreatDoorRd4
import Derived.JoinedCond
import Derived.Lay
set_option linter.unusedSimpArgs false
set_option linter.unusedVariables false
namespace Go.Proofs.YtlfknndpbejbcaaGreatDoor.scriptReads
open Go.RowKit Go.WideShapes Go.ChangeShapes Go.ChangeAt Go.ChangeMaps

set_option maxRecDepth 100000 in
theorem contract (H : Type) (enc : TypeId × Value → H) (W : World) (base : Nat) (args : Array Value) (ds gs : List (DataW H)) (before : List MemPlace)
    (hval : ∀ (j : Nat) t v, Tryz.f3.params[j]? = some t → args[j]? = some v → Value.okWide Tryz.prog W .any base t v)
    (hW : DataW.Whole enc Tryz.prog Tryz.f3.params.toList Rows.scriptReadsSpec.vars false W args.toList ds gs before)
    (hreach : (DataW.weightsEach Tryz.prog (Tryz.f3.params.toList ++ (OpenSpec.ofChange Rows.scriptReadsSpec).bare.plain.varTypes Tryz.prog) (ds ++ gs)).all (· ≤ reachBytes) = true) (hL : laidMetH Tryz.prog Rows.scriptReadsRow.laid W) (hsh : W.ShapedOpen Tryz.prog) :
    Calls Tryz.prog 3 args W fun e W' => ∃ v, e = .returned v ∧ Rows.scriptReadsSpec.post enc Tryz.prog Tryz.f3 false true false false W args v W' := by
  have hW' := hW
  obtain ⟨p, q, hA0, hV, rfl, hfz, hnd⟩ := hW
  have hA : DataW.TrodAll enc Tryz.prog W 0 (fun _ => true) true Tryz.f3.params.toList args.toList ds p := hA0
  rw [Tryz.params3] at hA hval
  obtain ⟨v0, vs0, d0, ds0, p0, q0, hargs, rfl, rfl, h0, r0⟩ := trodAll_cons hA
  obtain ⟨rfl, rfl, rfl⟩ := trodAll_nil r0
  obtain rfl : args = #[v0] := by cases args; simp_all
  obtain ⟨a0, rfl, rfl, rfl, s0⟩ := open_string Tryz.underlying9 (hval 0 9 v0 rfl rfl) h0
  have hsp := sp_of_laid (W := W) (laid := Rows.scriptReadsRow.laid) (by kernel_rfl) (List.mem_of_getElem? (i := 7) (by kernel_rfl)) hL
  have ht := tab_of_laid (W := W) (laid := Rows.scriptReadsRow.laid) (by kernel_rfl) (List.mem_of_getElem? (i := 2) (by kernel_rfl)) hL
  refine (scriptReads_any a0 s0 W (env_of (d1 := Rows.laid_strconv_ErrSyntax) (d2 := Rows.laid_strconv_ErrRange) ht (by kernel_rfl) hL hsh (List.mem_of_getElem? (i := 5) (by kernel_rfl)) (List.mem_of_getElem? (i := 4) (by kernel_rfl))) hsp).mono fun e W' ⟨he, hbel⟩ => ?_
  subst he
  exact ⟨_, rfl, law_post laidOut (by rw [Tryz.params3]; decide +kernel) hW' rfl rfl rfl Tryz.underlying4 hbel⟩

/-- The witness's world: the listed variables laid by the kit's function (a pinned table is among them). -/
noncomputable def layWorld (os : Os) : World := World.laidAll Tryz.prog os Rows.scriptReadsRow.laid
theorem laid_met (os : Os) (args : Array Value) : laidMet Tryz.prog Rows.scriptReadsRow.laid ((layWorld os).forCall (fun _ _ => 0) ⟨#[], args, []⟩).memory :=
  laidMet_laidAll args (by kernel_rfl) (by kernel_rfl)
theorem reads (os : Os) {H : Type} (enc : TypeId × Value → H) : ∃ places, DataW.whole enc Tryz.prog ((layWorld os).forCall (fun _ _ => 0) ⟨#[], #[.string ⟨#[]⟩], []⟩).memory Tryz.f3.params.toList Rows.scriptReadsSpec.vars false (#[.string ⟨#[]⟩] : Array Value).toList 8 = some ([.lit (.string [])], [], places) :=
  ⟨[], by kernel_rfl⟩
theorem start1 (os : Os) : ((layWorld os).forCall (fun _ _ => 0) ⟨#[], #[.string ⟨#[]⟩], []⟩).variablesRefB Tryz.checked.prog = true := by kernel_rfl
theorem start2 (os : Os) : (((layWorld os).forCall (fun _ _ => 0) ⟨#[], #[.string ⟨#[]⟩], []⟩).heap.toList.drop Tryz.checked.prog.globals.size).take ((begin Tryz.checked.prog (fun _ _ => 0) default).world.heap.size - Tryz.checked.prog.globals.size) =
      (begin Tryz.checked.prog (fun _ _ => 0) default).world.heap.toList.drop Tryz.checked.prog.globals.size := by kernel_rfl
theorem start3 (os : Os) : Input.okWideB Tryz.checked.prog ((layWorld os).forCall (fun _ _ => 0) ⟨#[], #[.string ⟨#[]⟩], []⟩) 3 ⟨#[], #[.string ⟨#[]⟩], []⟩ = true := by kernel_rfl

set_option maxRecDepth 100000 in
theorem lifted (os : Os) (started : os.Started) (H : Type) (enc : TypeId × Value → H) (F : Stop.Interp) :
    ReturnsInHanded {} Tryz.checked os 3 .any ((OpenSpec.ofChange Rows.scriptReadsSpec).preRow enc Tryz.prog Tryz.f3 Rows.scriptReadsRow.domain false Rows.scriptReadsRow.laid) (((OpenSpec.ofChange Rows.scriptReadsSpec).at F).post enc Tryz.prog Tryz.f3 false true false false) := by
  obtain ⟨places, hx⟩ := reads os enc
  refine returnsInHanded_of_row (C := Tryz.checked) (s := OpenSpec.ofChange Rows.scriptReadsSpec) own started (by kernel_rfl) Tryz.func3
    (witness_row_atRef (enc := enc) (C := Tryz.checked) false (layWorld os) #[.string ⟨#[]⟩] rfl (start1 os) (start2 os) (start3 os)
      (OpenSpec.preRow_of_cond 8 hx (by kernel_rfl) (fun k hk => by cases hk) (by kernel_rfl) (laid_met os _))) ?_
  intro W base args ds gs before hval hW _ _ hreach hL hsh _
  exact contract H enc W base args ds gs before hval hW hreach hL hsh

theorem fact1 : Tryz.pinned.checked.prog.funcNamed Rows.scriptReadsRow.func = some 3 := by kernel_rfl
theorem and2 {a b : Bool} (h : a = true) (k : b = true) : (a && b) = true := by rw [h, k]; rfl
theorem jf0 : (Rows.scriptReadsRow.wf (OpenSpec.ofChange (OpenSpec.ofChange Rows.scriptReadsSpec).bare) && laidOutB Tryz.pinned.checked.prog && mapsRowed Tryz.pinned.checked.prog && Tryz.f3.params.all (Tryz.pinned.checked.prog.readableRec ·) && namedTie Tryz.pinned.checked.prog Rows.scriptReadsRow.named ((OpenSpec.ofChange Rows.scriptReadsSpec).bare).vars && (Rows.scriptReadsRow.stops == []) && (Tryz.pinned.checked.prog.stops == []) && (Rows.scriptReadsRow.knobs == []) && (Tryz.pinned.checked.prog.stopKnobs == [])) = true := by kernel_rfl
theorem jf1 : (Rows.scriptReadsRow.inPlace == Tryz.pinned.checked.prog.inPlace 3) = true := by kernel_rfl
theorem jf2 : (Rows.scriptReadsRow.unfollowed == Tryz.pinned.checked.prog.unfollowed 3) = true := by kernel_rfl
theorem jf3 : (Rows.scriptReadsRow.recurses == Tryz.pinned.checked.prog.recurses 3) = true := by kernel_rfl
theorem jf4 : (Rows.scriptReadsRow.named == Tryz.pinned.checked.prog.varsNamed 3) = true := by kernel_rfl
theorem jf5 : (Rows.scriptReadsRow.maps == (Tryz.f3.params.toList ++ ((OpenSpec.ofChange Rows.scriptReadsSpec).bare).plain.varTypes Tryz.pinned.checked.prog).any (Tryz.pinned.checked.prog.mapsRec ·)) = true := by kernel_rfl
theorem jf6 : (Rows.scriptReadsRow.ifaces == (Tryz.f3.params.toList ++ ((OpenSpec.ofChange Rows.scriptReadsSpec).bare).plain.varTypes Tryz.pinned.checked.prog).any (Tryz.pinned.checked.prog.ifacesRec ·)) = true := by kernel_rfl
theorem jf7 : (Rows.scriptReadsRow.mapsOut == Tryz.pinned.checked.prog.mapsAmong Tryz.f3.resultTypes.toList) = true := by kernel_rfl
theorem jf8 : (Rows.scriptReadsRow.loops == (Tryz.f3.params.toList ++ ((OpenSpec.ofChange Rows.scriptReadsSpec).bare).plain.varTypes Tryz.pinned.checked.prog).any (Tryz.pinned.checked.prog.loopsFrom ·)) = true := by kernel_rfl
theorem jf9 : (Rows.scriptReadsRow.wideKeys == (Tryz.f3.params.toList ++ ((OpenSpec.ofChange Rows.scriptReadsSpec).bare).plain.varTypes Tryz.pinned.checked.prog ++ Tryz.f3.resultTypes.toList).any (Tryz.pinned.checked.prog.wideKeysFrom ·)) = true := by kernel_rfl
theorem jf10 : (((OpenSpec.ofChange Rows.scriptReadsSpec).bare).vars.all (Tryz.pinned.checked.prog.varReadable ·)) = true := by kernel_rfl
theorem jf11 : (Tryz.f3.resultTypes.all (fun t => Tryz.pinned.checked.prog.readableRec t && decide (t < Tryz.pinned.checked.prog.types.size))) = true := by kernel_rfl
theorem jf12 : (Rows.scriptReadsRow.ifacesOut == Tryz.f3.resultTypes.toList.any (Tryz.pinned.checked.prog.ifacesRec ·)) = true := by kernel_rfl
theorem jf13 : (Rows.scriptReadsRow.loopsOut == Tryz.f3.resultTypes.toList.any (Tryz.pinned.checked.prog.loopsFrom ·)) = true := by kernel_rfl
theorem jf14 : (Rows.scriptReadsRow.plainKeys == Tryz.pinned.checked.prog.plainKeys) = true := sf14
theorem jf15 : (Rows.scriptReadsRow.shortTexts.isNone) = true := by kernel_rfl
theorem jf16 : (Tryz.pinned.checked.prog.stopsHeard) = true := sf16
theorem jf17 : (Tryz.pinned.checked.prog.mayEnter) = true := sf17
theorem jf18 : (Rows.scriptReadsRow.lifted == Tryz.pinned.checked.prog.liftsFinal) = true := sf18
theorem jf19 : (Tryz.pinned.checked.prog.make == some Rows.scriptReadsRow.make) = true := sf19
theorem jf20 : (Rows.scriptReadsRow.kinds == (if Rows.scriptReadsRow.domain.isEmpty then [] else Tryz.f3.params.toList.map fun t => match Tryz.pinned.checked.prog.underlying t with | some (.int k) => some k | _ => none)) = true := by kernel_rfl
theorem jf21 : (Rows.scriptReadsRow.pinned == Rows.scriptReadsRow.pinnedBy) = true := by kernel_rfl
theorem jf22 : (Rows.scriptReadsRow.veiled == (Tryz.f3.params.toList ++ ((OpenSpec.ofChange Rows.scriptReadsSpec).bare).plain.varTypes Tryz.pinned.checked.prog ++ Tryz.f3.resultTypes.toList).any (Tryz.pinned.checked.prog.veiledRec ·)) = true := by kernel_rfl
theorem jf23 : (Rows.scriptReadsRow.veiledFits Tryz.pinned.checked.prog Tryz.f3.params.toList (Tryz.f3.params.toList ++ ((OpenSpec.ofChange Rows.scriptReadsSpec).bare).plain.varTypes Tryz.pinned.checked.prog ++ Tryz.f3.resultTypes.toList)) = true := by kernel_rfl
set_option maxRecDepth 100000 in
theorem fact2 : joinedFacts Tryz.pinned.checked.prog 3 Tryz.f3 (OpenSpec.ofChange Rows.scriptReadsSpec).bare Rows.scriptReadsRow = true := (and2 (and2 (and2 (and2 (and2 (and2 (and2 (and2 (and2 (and2 (and2 (and2 (and2 (and2 (and2 (and2 (and2 (and2 (and2 (and2 (and2 (and2 (and2 jf0 jf1) jf2) jf3) jf4) jf5) jf6) jf7) jf8) jf9) jf10) jf11) jf12) jf13) jf14) jf15) jf16) jf17) jf18) jf19) jf20) jf21) jf22) jf23)
theorem fact3 : Tryz.f3.isInstance Tryz.pinned.checked.prog Rows.scriptReadsRow.origin Rows.scriptReadsRow.targs := of_decide_eq_true (by kernel_rfl)
theorem fact4 : Tryz.f3.isWrapper Tryz.pinned.checked.prog Rows.scriptReadsRow.wrapper Rows.scriptReadsRow.mainSum := by unfold Func.isWrapper; first | (rw [if_pos (by decide +kernel)]; kernel_rfl) | (rw [if_neg (by decide +kernel)]; exact ⟨rfl, rfl⟩)
theorem fact5 : Rows.scriptReadsRow.wfByText (OpenSpec.ofChange Rows.scriptReadsSpec) = true := by kernel_rfl
theorem fact6 : false = Rows.scriptReadsRow.goesBy Tryz.pinned.checked.prog := by kernel_rfl
theorem fact7 : (Tryz.f3.params.toList.all fun u => !Tryz.prog.wantsStandIn u) = true := by kernel_rfl
theorem said : Rows.ScriptReadsSaid :=
  OpenClaim.holds_of_cond 3 Tryz.f3 rfl rfl rfl rfl rfl rfl rfl ⟨rfl, rfl, rfl, rfl, rfl⟩ rfl rfl rfl rfl rfl fact1 Tryz.func3 fact2 fact3 fact4
    (fun os started H enc _ F => by rw [OpenClaim.pre_eq_preRow]; exact lifted os started H enc F)
theorem proved : Rows.ScriptReadsCardSaid :=
  Claim7.holds_tied_plain_at .later [] _ _ _ _ said (fun _ h => by cases h) fact5 (fun _ h => by cases h) scriptReads_row_tie rfl ⟨rfl, rfl⟩ mainIs rfl (plain_of "confluence/confluencelaw40.ScriptReads" 3 Tryz.f3 fact1 Tryz.func3 fact7 noLooks) fact6
end Go.Proofs.YtlfknndpbejbcaaGreatDoor.scriptReads

