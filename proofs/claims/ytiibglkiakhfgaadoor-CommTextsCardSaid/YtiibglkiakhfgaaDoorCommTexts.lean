/-
  CommTexts: the law returns true at every input, its arguments read behind the call as they did; its card: the listed package-level variables are tied to the program's text. No further condition.
-/
import Derived.Test.YtiibglkiakhfgaaDoorCommTextsW
import Derived.JoinedCond
import Derived.Test.YtiibglkiakhfgaaDoorCommEnv
import Derived.Test.YtiibglkiakhfgaaDoorFacts
set_option linter.unusedSimpArgs false
set_option linter.unusedVariables false
namespace Go.Proofs.YtiibglkiakhfgaaDoor.commTexts
open Go.RowKit Go.WideShapes Go.ChangeShapes Go.ChangeAt Go.ChangeMaps

set_option maxRecDepth 100000 in
theorem contract (H : Type) (enc : TypeId × Value → H) (W : World) (base : Nat) (args : Array Value) (ds gs : List (DataW H)) (before : List MemPlace)
    (hval : ∀ (j : Nat) t v, Tryd.f11.params[j]? = some t → args[j]? = some v → Value.okWide Tryd.prog W .any base t v)
    (hW : DataW.Whole enc Tryd.prog Tryd.f11.params.toList Rows.commTextsSpec.vars false W args.toList ds gs before)
    (hreach : (DataW.weightsEach Tryd.prog (Tryd.f11.params.toList ++ (OpenSpec.ofChange Rows.commTextsSpec).bare.plain.varTypes Tryd.prog) (ds ++ gs)).all (· ≤ reachBytes) = true) (hL : laidMetH Tryd.prog Rows.commTextsRow.laid W) (hsh : W.ShapedOpen Tryd.prog) :
    Calls Tryd.prog 11 args W fun e W' => ∃ v, e = .returned v ∧ Rows.commTextsSpec.post enc Tryd.prog Tryd.f11 false true false false W args v W' := by
  have hW' := hW
  obtain ⟨p, q, hA0, hV, rfl, hfz, hnd⟩ := hW
  have hA : DataW.TrodAll enc Tryd.prog W 0 (fun _ => true) true Tryd.f11.params.toList args.toList ds p := hA0
  rw [Tryd.params11] at hA hval
  obtain ⟨v0, vs0, d0, ds0, p0, q0, hargs, rfl, rfl, h0, r0⟩ := trodAll_cons hA
  obtain ⟨v1, vs1, d1, ds1, p1, q1, rfl, rfl, rfl, h1, r1⟩ := trodAll_cons r0
  obtain ⟨rfl, rfl, rfl⟩ := trodAll_nil r1
  obtain rfl : args = #[v0, v1] := by cases args; simp_all
  obtain ⟨z0, rfl, rfl, rfl, w0⟩ := open_int Tryd.underlying22 (hval 0 22 v0 rfl rfl) h0
  have c0 : 0 ≤ z0 ∧ z0 ≤ 4294967295 := by simpa [Lit.wf, IntKind.min, IntKind.max, IntKind.signed, IntKind.bits] using w0
  obtain ⟨a0, rfl⟩ := Int.eq_ofNat_of_zero_le c0.1
  have b0 : a0 < 4294967296 := by omega
  obtain ⟨a1, rfl, rfl, rfl, s1⟩ := open_string Tryd.underlying9 (hval 1 9 v1 rfl rfl) h1
  have ht := tab_of_laid (W := W) (laid := Rows.commTextsRow.laid) (by kernel_rfl) (List.mem_of_getElem? (i := 2) (by kernel_rfl)) hL
  refine (commTexts_any a0 a1 b0 s1 W (env_of (d1 := Rows.laid_strconv_ErrSyntax) (d2 := Rows.laid_strconv_ErrRange) ht (by kernel_rfl) hL hsh (List.mem_of_getElem? (i := 4) (by kernel_rfl)) (List.mem_of_getElem? (i := 3) (by kernel_rfl)))).mono fun e W' ⟨he, hbel⟩ => ?_
  subst he
  exact ⟨_, rfl, law_post laidOut (by rw [Tryd.params11]; decide +kernel) hW' rfl rfl rfl Tryd.underlying4 hbel⟩

theorem laid_met (os : Os) (args : Array Value) : laidMet Tryd.prog Rows.commTextsRow.laid ((startWorld os).forCall (fun _ _ => 0) ⟨#[], args, []⟩).memory :=
  laidMet_of_run' 8 (by kernel_rfl) (by kernel_rfl)
theorem reads (os : Os) {H : Type} (enc : TypeId × Value → H) : ∃ places, DataW.whole enc Tryd.prog ((startWorld os).forCall (fun _ _ => 0) ⟨#[], #[.int .u32 0, .string ⟨#[]⟩], []⟩).memory Tryd.f11.params.toList Rows.commTextsSpec.vars false (#[.int .u32 0, .string ⟨#[]⟩] : Array Value).toList 8 = some ([.lit (.int .u32 0), .lit (.string [])], [], places) :=
  ⟨[], by kernel_rfl⟩
theorem start1 (os : Os) : ((startWorld os).forCall (fun _ _ => 0) ⟨#[], #[.int .u32 0, .string ⟨#[]⟩], []⟩).variablesRefB Tryd.checked.prog = true := by kernel_rfl
theorem start2 (os : Os) : (((startWorld os).forCall (fun _ _ => 0) ⟨#[], #[.int .u32 0, .string ⟨#[]⟩], []⟩).heap.toList.drop Tryd.checked.prog.globals.size).take ((begin Tryd.checked.prog (fun _ _ => 0) default).world.heap.size - Tryd.checked.prog.globals.size) =
      (begin Tryd.checked.prog (fun _ _ => 0) default).world.heap.toList.drop Tryd.checked.prog.globals.size := by kernel_rfl
theorem start3 (os : Os) : Input.okWideB Tryd.checked.prog ((startWorld os).forCall (fun _ _ => 0) ⟨#[], #[.int .u32 0, .string ⟨#[]⟩], []⟩) 11 ⟨#[], #[.int .u32 0, .string ⟨#[]⟩], []⟩ = true := by kernel_rfl

set_option maxRecDepth 100000 in
theorem lifted (os : Os) (started : os.Started) (H : Type) (enc : TypeId × Value → H) (F : Stop.Interp) :
    ReturnsInHanded {} Tryd.checked os 11 .any ((OpenSpec.ofChange Rows.commTextsSpec).preRow enc Tryd.prog Tryd.f11 Rows.commTextsRow.domain false Rows.commTextsRow.laid) (((OpenSpec.ofChange Rows.commTextsSpec).at F).post enc Tryd.prog Tryd.f11 false true false false) := by
  obtain ⟨places, hx⟩ := reads os enc
  refine returnsInHanded_of_row (C := Tryd.checked) (s := OpenSpec.ofChange Rows.commTextsSpec) own started (by kernel_rfl) Tryd.func11
    (witness_row_atRef (enc := enc) (C := Tryd.checked) false (startWorld os) #[.int .u32 0, .string ⟨#[]⟩] rfl (start1 os) (start2 os) (start3 os)
      (OpenSpec.preRow_of_cond 8 hx (by kernel_rfl) (fun k hk => by cases hk) (by kernel_rfl) (laid_met os _))) ?_
  intro W base args ds gs before hval hW _ _ hreach hL hsh _
  exact contract H enc W base args ds gs before hval hW hreach hL hsh

theorem fact1 : Tryd.pinned.checked.prog.funcNamed Rows.commTextsRow.func = some 11 := by kernel_rfl
theorem and2 {a b : Bool} (h : a = true) (k : b = true) : (a && b) = true := by rw [h, k]; rfl
theorem jf0 : (Rows.commTextsRow.wf (OpenSpec.ofChange (OpenSpec.ofChange Rows.commTextsSpec).bare) && laidOutB Tryd.pinned.checked.prog && mapsRowed Tryd.pinned.checked.prog && Tryd.f11.params.all (Tryd.pinned.checked.prog.readableRec ·) && namedTie Tryd.pinned.checked.prog Rows.commTextsRow.named ((OpenSpec.ofChange Rows.commTextsSpec).bare).vars && (Rows.commTextsRow.stops == []) && (Tryd.pinned.checked.prog.stops == []) && (Rows.commTextsRow.knobs == []) && (Tryd.pinned.checked.prog.stopKnobs == [])) = true := by kernel_rfl
theorem jf1 : (Rows.commTextsRow.inPlace == Tryd.pinned.checked.prog.inPlace 11) = true := by kernel_rfl
theorem jf2 : (Rows.commTextsRow.unfollowed == Tryd.pinned.checked.prog.unfollowed 11) = true := by kernel_rfl
theorem jf3 : (Rows.commTextsRow.recurses == Tryd.pinned.checked.prog.recurses 11) = true := by kernel_rfl
theorem jf4 : (Rows.commTextsRow.named == Tryd.pinned.checked.prog.varsNamed 11) = true := by kernel_rfl
theorem jf5 : (Rows.commTextsRow.maps == (Tryd.f11.params.toList ++ ((OpenSpec.ofChange Rows.commTextsSpec).bare).plain.varTypes Tryd.pinned.checked.prog).any (Tryd.pinned.checked.prog.mapsRec ·)) = true := by kernel_rfl
theorem jf6 : (Rows.commTextsRow.ifaces == (Tryd.f11.params.toList ++ ((OpenSpec.ofChange Rows.commTextsSpec).bare).plain.varTypes Tryd.pinned.checked.prog).any (Tryd.pinned.checked.prog.ifacesRec ·)) = true := by kernel_rfl
theorem jf7 : (Rows.commTextsRow.mapsOut == Tryd.pinned.checked.prog.mapsAmong Tryd.f11.resultTypes.toList) = true := by kernel_rfl
theorem jf8 : (Rows.commTextsRow.loops == (Tryd.f11.params.toList ++ ((OpenSpec.ofChange Rows.commTextsSpec).bare).plain.varTypes Tryd.pinned.checked.prog).any (Tryd.pinned.checked.prog.loopsFrom ·)) = true := by kernel_rfl
theorem jf9 : (Rows.commTextsRow.wideKeys == (Tryd.f11.params.toList ++ ((OpenSpec.ofChange Rows.commTextsSpec).bare).plain.varTypes Tryd.pinned.checked.prog ++ Tryd.f11.resultTypes.toList).any (Tryd.pinned.checked.prog.wideKeysFrom ·)) = true := by kernel_rfl
theorem jf10 : (((OpenSpec.ofChange Rows.commTextsSpec).bare).vars.all (Tryd.pinned.checked.prog.varReadable ·)) = true := by kernel_rfl
theorem jf11 : (Tryd.f11.resultTypes.all (fun t => Tryd.pinned.checked.prog.readableRec t && decide (t < Tryd.pinned.checked.prog.types.size))) = true := by kernel_rfl
theorem jf12 : (Rows.commTextsRow.ifacesOut == Tryd.f11.resultTypes.toList.any (Tryd.pinned.checked.prog.ifacesRec ·)) = true := by kernel_rfl
theorem jf13 : (Rows.commTextsRow.loopsOut == Tryd.f11.resultTypes.toList.any (Tryd.pinned.checked.prog.loopsFrom ·)) = true := by kernel_rfl
theorem jf14 : (Rows.commTextsRow.plainKeys == Tryd.pinned.checked.prog.plainKeys) = true := sf14
theorem jf15 : (Rows.commTextsRow.shortTexts.isNone) = true := by kernel_rfl
theorem jf16 : (Tryd.pinned.checked.prog.stopsHeard) = true := sf16
theorem jf17 : (Tryd.pinned.checked.prog.mayEnter) = true := sf17
theorem jf18 : (Rows.commTextsRow.lifted == Tryd.pinned.checked.prog.liftsFinal) = true := sf18
theorem jf19 : (Tryd.pinned.checked.prog.make == some Rows.commTextsRow.make) = true := sf19
theorem jf20 : (Rows.commTextsRow.kinds == (if Rows.commTextsRow.domain.isEmpty then [] else Tryd.f11.params.toList.map fun t => match Tryd.pinned.checked.prog.underlying t with | some (.int k) => some k | _ => none)) = true := by kernel_rfl
theorem jf21 : (Rows.commTextsRow.pinned == Rows.commTextsRow.pinnedBy) = true := by kernel_rfl
theorem jf22 : (Rows.commTextsRow.veiled == (Tryd.f11.params.toList ++ ((OpenSpec.ofChange Rows.commTextsSpec).bare).plain.varTypes Tryd.pinned.checked.prog ++ Tryd.f11.resultTypes.toList).any (Tryd.pinned.checked.prog.veiledRec ·)) = true := by kernel_rfl
theorem jf23 : (Rows.commTextsRow.veiledFits Tryd.pinned.checked.prog Tryd.f11.params.toList (Tryd.f11.params.toList ++ ((OpenSpec.ofChange Rows.commTextsSpec).bare).plain.varTypes Tryd.pinned.checked.prog ++ Tryd.f11.resultTypes.toList)) = true := by kernel_rfl
set_option maxRecDepth 100000 in
theorem fact2 : joinedFacts Tryd.pinned.checked.prog 11 Tryd.f11 (OpenSpec.ofChange Rows.commTextsSpec).bare Rows.commTextsRow = true := (and2 (and2 (and2 (and2 (and2 (and2 (and2 (and2 (and2 (and2 (and2 (and2 (and2 (and2 (and2 (and2 (and2 (and2 (and2 (and2 (and2 (and2 (and2 jf0 jf1) jf2) jf3) jf4) jf5) jf6) jf7) jf8) jf9) jf10) jf11) jf12) jf13) jf14) jf15) jf16) jf17) jf18) jf19) jf20) jf21) jf22) jf23)
theorem fact3 : Tryd.f11.isInstance Tryd.pinned.checked.prog Rows.commTextsRow.origin Rows.commTextsRow.targs := of_decide_eq_true (by kernel_rfl)
theorem fact4 : Tryd.f11.isWrapper Tryd.pinned.checked.prog Rows.commTextsRow.wrapper Rows.commTextsRow.mainSum := by unfold Func.isWrapper; first | (rw [if_pos (by decide +kernel)]; kernel_rfl) | (rw [if_neg (by decide +kernel)]; exact ⟨rfl, rfl⟩)
theorem fact5 : Rows.commTextsRow.wfByText (OpenSpec.ofChange Rows.commTextsSpec) = true := by kernel_rfl
theorem fact6 : false = Rows.commTextsRow.goesBy Tryd.pinned.checked.prog := by kernel_rfl
theorem fact7 : (Tryd.f11.params.toList.all fun u => !Tryd.prog.wantsStandIn u) = true := by kernel_rfl
theorem said : Rows.CommTextsSaid :=
  OpenClaim.holds_of_cond 11 Tryd.f11 rfl rfl rfl rfl rfl rfl rfl ⟨rfl, rfl, rfl, rfl, rfl⟩ rfl rfl rfl rfl rfl fact1 Tryd.func11 fact2 fact3 fact4
    (fun os started H enc _ F => by rw [OpenClaim.pre_eq_preRow]; exact lifted os started H enc F)
theorem proved : Rows.CommTextsCardSaid :=
  Claim7.holds_tied_plain_at .later [] _ _ _ _ said (fun _ h => by cases h) fact5 (fun _ h => by cases h) commTexts_row_tie rfl ⟨rfl, rfl⟩ mainIs rfl (plain_of "confluence/confluencelaw03.CommTexts" 11 Tryd.f11 fact1 Tryd.func11 fact7 noLooks) fact6
end Go.Proofs.YtiibglkiakhfgaaDoor.commTexts

