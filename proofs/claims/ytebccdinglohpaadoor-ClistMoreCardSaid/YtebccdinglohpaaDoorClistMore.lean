/-
  ClistMore: the law returns true at every input, its arguments read behind the call as they did; its card: the listed package-level variables are tied to the program's text. No further condition.
-/
import Derived.Test.YtebccdinglohpaaDoorCm2
import Derived.JoinedCond
import Derived.Lay
set_option linter.unusedSimpArgs false
set_option linter.unusedVariables false
namespace Go.Proofs.YtebccdinglohpaaDoor.clistMore
open Go.RowKit Go.WideShapes Go.ChangeShapes Go.ChangeAt Go.ChangeMaps

set_option maxRecDepth 100000 in
theorem contract (H : Type) (enc : TypeId × Value → H) (W : World) (base : Nat) (args : Array Value) (ds gs : List (DataW H)) (before : List MemPlace)
    (hval : ∀ (j : Nat) t v, Tryd.f3.params[j]? = some t → args[j]? = some v → Value.okWide Tryd.prog W .any base t v)
    (hW : DataW.Whole enc Tryd.prog Tryd.f3.params.toList Rows.clistMoreSpec.vars false W args.toList ds gs before)
    (hreach : (DataW.weightsEach Tryd.prog (Tryd.f3.params.toList ++ (OpenSpec.ofChange Rows.clistMoreSpec).bare.plain.varTypes Tryd.prog) (ds ++ gs)).all (· ≤ reachBytes) = true) (hL : laidMetH Tryd.prog Rows.clistMoreRow.laid W) (hsh : W.ShapedOpen Tryd.prog) :
    Calls Tryd.prog 3 args W fun e W' => ∃ v, e = .returned v ∧ Rows.clistMoreSpec.post enc Tryd.prog Tryd.f3 false true false false W args v W' := by
  have hW' := hW
  obtain ⟨p, q, hA0, hV, rfl, hfz, hnd⟩ := hW
  have hA : DataW.TrodAll enc Tryd.prog W 0 (fun _ => true) true Tryd.f3.params.toList args.toList ds p := hA0
  rw [Tryd.params3] at hA hval
  obtain ⟨v0, vs0, d0, ds0, p0, q0, hargs, rfl, rfl, h0, r0⟩ := trodAll_cons hA
  obtain ⟨v1, vs1, d1, ds1, p1, q1, rfl, rfl, rfl, h1, r1⟩ := trodAll_cons r0
  obtain ⟨v2, vs2, d2, ds2, p2, q2, rfl, rfl, rfl, h2, r2⟩ := trodAll_cons r1
  obtain ⟨rfl, rfl, rfl⟩ := trodAll_nil r2
  obtain rfl : args = #[v0, v1, v2] := by cases args; simp_all
  obtain ⟨b0, A0, n0, c0, a0, rfl, u0⟩ := crule_open (hval 0 24 v0 rfl rfl) h0
  obtain ⟨A1, n1, c1, rfl⟩ := okWide_slice Tryd.underlying22 (hval 1 22 v1 rfl rfl)
  obtain ⟨a1, u1⟩ := u32s_open h1
  obtain ⟨A2, n2, c2, rfl⟩ := okWide_slice Tryd.underlying22 (hval 2 22 v2 rfl rfl)
  obtain ⟨a2, u2⟩ := u32s_open h2
  have ht := tab_of_laid (W := W) (laid := Rows.clistMoreRow.laid) (by kernel_rfl) (List.mem_of_getElem? (i := 2) (by kernel_rfl)) hL
  refine (clistMore_any b0 A0 n0 c0 a0 A1 n1 c1 a1 A2 n2 c2 a2 W u0 u1 u2 (env_of (d1 := Rows.laid_strconv_ErrSyntax) (d2 := Rows.laid_strconv_ErrRange) ht (by kernel_rfl) hL hsh (List.mem_of_getElem? (i := 5) (by kernel_rfl)) (List.mem_of_getElem? (i := 4) (by kernel_rfl)))).mono fun e W' ⟨he, hbel⟩ => ?_
  subst he
  exact ⟨_, rfl, law_post laidOut (by rw [Tryd.params3]; decide +kernel) hW' rfl rfl rfl Tryd.underlying4 hbel⟩

/-- The witness's world: the listed variables laid by the kit's function (a pinned table is among them). -/
noncomputable def layWorld (os : Os) : World := World.laidAll Tryd.prog os Rows.clistMoreRow.laid
theorem laid_met (os : Os) (args : Array Value) : laidMet Tryd.prog Rows.clistMoreRow.laid ((layWorld os).forCall (fun _ _ => 0) ⟨#[], args, []⟩).memory :=
  laidMet_laidAll args (by kernel_rfl) (by kernel_rfl)
theorem reads (os : Os) {H : Type} (enc : TypeId × Value → H) : ∃ places, DataW.whole enc Tryd.prog ((layWorld os).forCall (fun _ _ => 0) ⟨#[], #[.agg #[.bool false, .slice none 0 0], .slice none 0 0, .slice none 0 0], []⟩).memory Tryd.f3.params.toList Rows.clistMoreSpec.vars false (#[.agg #[.bool false, .slice none 0 0], .slice none 0 0, .slice none 0 0] : Array Value).toList 8 = some ([.agg [.lit (.bool false), .nil], .nil, .nil], [], places) :=
  ⟨[], by kernel_rfl⟩
theorem start1 (os : Os) : ((layWorld os).forCall (fun _ _ => 0) ⟨#[], #[.agg #[.bool false, .slice none 0 0], .slice none 0 0, .slice none 0 0], []⟩).variablesRefB Tryd.checked.prog = true := by kernel_rfl
theorem start2 (os : Os) : (((layWorld os).forCall (fun _ _ => 0) ⟨#[], #[.agg #[.bool false, .slice none 0 0], .slice none 0 0, .slice none 0 0], []⟩).heap.toList.drop Tryd.checked.prog.globals.size).take ((begin Tryd.checked.prog (fun _ _ => 0) default).world.heap.size - Tryd.checked.prog.globals.size) =
      (begin Tryd.checked.prog (fun _ _ => 0) default).world.heap.toList.drop Tryd.checked.prog.globals.size := by kernel_rfl
theorem start3 (os : Os) : Input.okWideB Tryd.checked.prog ((layWorld os).forCall (fun _ _ => 0) ⟨#[], #[.agg #[.bool false, .slice none 0 0], .slice none 0 0, .slice none 0 0], []⟩) 3 ⟨#[], #[.agg #[.bool false, .slice none 0 0], .slice none 0 0, .slice none 0 0], []⟩ = true := by kernel_rfl

set_option maxRecDepth 100000 in
theorem lifted (os : Os) (started : os.Started) (H : Type) (enc : TypeId × Value → H) (F : Stop.Interp) :
    ReturnsInHanded {} Tryd.checked os 3 .any ((OpenSpec.ofChange Rows.clistMoreSpec).preRow enc Tryd.prog Tryd.f3 Rows.clistMoreRow.domain false Rows.clistMoreRow.laid) (((OpenSpec.ofChange Rows.clistMoreSpec).at F).post enc Tryd.prog Tryd.f3 false true false false) := by
  obtain ⟨places, hx⟩ := reads os enc
  refine returnsInHanded_of_row (C := Tryd.checked) (s := OpenSpec.ofChange Rows.clistMoreSpec) own started (by kernel_rfl) Tryd.func3
    (witness_row_atRef (enc := enc) (C := Tryd.checked) false (layWorld os) #[.agg #[.bool false, .slice none 0 0], .slice none 0 0, .slice none 0 0] rfl (start1 os) (start2 os) (start3 os)
      (OpenSpec.preRow_of_cond 8 hx (by kernel_rfl) (fun k hk => by cases hk) (by kernel_rfl) (laid_met os _))) ?_
  intro W base args ds gs before hval hW _ _ hreach hL hsh _
  exact contract H enc W base args ds gs before hval hW hreach hL hsh

theorem fact1 : Tryd.pinned.checked.prog.funcNamed Rows.clistMoreRow.func = some 3 := by kernel_rfl
theorem and2 {a b : Bool} (h : a = true) (k : b = true) : (a && b) = true := by rw [h, k]; rfl
theorem jf0 : (Rows.clistMoreRow.wf (OpenSpec.ofChange (OpenSpec.ofChange Rows.clistMoreSpec).bare) && laidOutB Tryd.pinned.checked.prog && mapsRowed Tryd.pinned.checked.prog && Tryd.f3.params.all (Tryd.pinned.checked.prog.readableRec ·) && namedTie Tryd.pinned.checked.prog Rows.clistMoreRow.named ((OpenSpec.ofChange Rows.clistMoreSpec).bare).vars && (Rows.clistMoreRow.stops == []) && (Tryd.pinned.checked.prog.stops == []) && (Rows.clistMoreRow.knobs == []) && (Tryd.pinned.checked.prog.stopKnobs == [])) = true := by kernel_rfl
theorem jf1 : (Rows.clistMoreRow.inPlace == Tryd.pinned.checked.prog.inPlace 3) = true := by kernel_rfl
theorem jf2 : (Rows.clistMoreRow.unfollowed == Tryd.pinned.checked.prog.unfollowed 3) = true := by kernel_rfl
theorem jf3 : (Rows.clistMoreRow.recurses == Tryd.pinned.checked.prog.recurses 3) = true := by kernel_rfl
theorem jf4 : (Rows.clistMoreRow.named == Tryd.pinned.checked.prog.varsNamed 3) = true := by kernel_rfl
theorem jf5 : (Rows.clistMoreRow.maps == (Tryd.f3.params.toList ++ ((OpenSpec.ofChange Rows.clistMoreSpec).bare).plain.varTypes Tryd.pinned.checked.prog).any (Tryd.pinned.checked.prog.mapsRec ·)) = true := by kernel_rfl
theorem jf6 : (Rows.clistMoreRow.ifaces == (Tryd.f3.params.toList ++ ((OpenSpec.ofChange Rows.clistMoreSpec).bare).plain.varTypes Tryd.pinned.checked.prog).any (Tryd.pinned.checked.prog.ifacesRec ·)) = true := by kernel_rfl
theorem jf7 : (Rows.clistMoreRow.mapsOut == Tryd.pinned.checked.prog.mapsAmong Tryd.f3.resultTypes.toList) = true := by kernel_rfl
theorem jf8 : (Rows.clistMoreRow.loops == (Tryd.f3.params.toList ++ ((OpenSpec.ofChange Rows.clistMoreSpec).bare).plain.varTypes Tryd.pinned.checked.prog).any (Tryd.pinned.checked.prog.loopsFrom ·)) = true := by kernel_rfl
theorem jf9 : (Rows.clistMoreRow.wideKeys == (Tryd.f3.params.toList ++ ((OpenSpec.ofChange Rows.clistMoreSpec).bare).plain.varTypes Tryd.pinned.checked.prog ++ Tryd.f3.resultTypes.toList).any (Tryd.pinned.checked.prog.wideKeysFrom ·)) = true := by kernel_rfl
theorem jf10 : (((OpenSpec.ofChange Rows.clistMoreSpec).bare).vars.all (Tryd.pinned.checked.prog.varReadable ·)) = true := by kernel_rfl
theorem jf11 : (Tryd.f3.resultTypes.all (fun t => Tryd.pinned.checked.prog.readableRec t && decide (t < Tryd.pinned.checked.prog.types.size))) = true := by kernel_rfl
theorem jf12 : (Rows.clistMoreRow.ifacesOut == Tryd.f3.resultTypes.toList.any (Tryd.pinned.checked.prog.ifacesRec ·)) = true := by kernel_rfl
theorem jf13 : (Rows.clistMoreRow.loopsOut == Tryd.f3.resultTypes.toList.any (Tryd.pinned.checked.prog.loopsFrom ·)) = true := by kernel_rfl
theorem jf14 : (Rows.clistMoreRow.plainKeys == Tryd.pinned.checked.prog.plainKeys) = true := sf14
theorem jf15 : (Rows.clistMoreRow.shortTexts.isNone) = true := by kernel_rfl
theorem jf16 : (Tryd.pinned.checked.prog.stopsHeard) = true := sf16
theorem jf17 : (Tryd.pinned.checked.prog.mayEnter) = true := sf17
theorem jf18 : (Rows.clistMoreRow.lifted == Tryd.pinned.checked.prog.liftsFinal) = true := sf18
theorem jf19 : (Tryd.pinned.checked.prog.make == some Rows.clistMoreRow.make) = true := sf19
theorem jf20 : (Rows.clistMoreRow.kinds == (if Rows.clistMoreRow.domain.isEmpty then [] else Tryd.f3.params.toList.map fun t => match Tryd.pinned.checked.prog.underlying t with | some (.int k) => some k | _ => none)) = true := by kernel_rfl
theorem jf21 : (Rows.clistMoreRow.pinned == Rows.clistMoreRow.pinnedBy) = true := by kernel_rfl
theorem jf22 : (Rows.clistMoreRow.veiled == (Tryd.f3.params.toList ++ ((OpenSpec.ofChange Rows.clistMoreSpec).bare).plain.varTypes Tryd.pinned.checked.prog ++ Tryd.f3.resultTypes.toList).any (Tryd.pinned.checked.prog.veiledRec ·)) = true := by kernel_rfl
theorem jf23 : (Rows.clistMoreRow.veiledFits Tryd.pinned.checked.prog Tryd.f3.params.toList (Tryd.f3.params.toList ++ ((OpenSpec.ofChange Rows.clistMoreSpec).bare).plain.varTypes Tryd.pinned.checked.prog ++ Tryd.f3.resultTypes.toList)) = true := by kernel_rfl
set_option maxRecDepth 100000 in
theorem fact2 : joinedFacts Tryd.pinned.checked.prog 3 Tryd.f3 (OpenSpec.ofChange Rows.clistMoreSpec).bare Rows.clistMoreRow = true := (and2 (and2 (and2 (and2 (and2 (and2 (and2 (and2 (and2 (and2 (and2 (and2 (and2 (and2 (and2 (and2 (and2 (and2 (and2 (and2 (and2 (and2 (and2 jf0 jf1) jf2) jf3) jf4) jf5) jf6) jf7) jf8) jf9) jf10) jf11) jf12) jf13) jf14) jf15) jf16) jf17) jf18) jf19) jf20) jf21) jf22) jf23)
theorem fact3 : Tryd.f3.isInstance Tryd.pinned.checked.prog Rows.clistMoreRow.origin Rows.clistMoreRow.targs := of_decide_eq_true (by kernel_rfl)
theorem fact4 : Tryd.f3.isWrapper Tryd.pinned.checked.prog Rows.clistMoreRow.wrapper Rows.clistMoreRow.mainSum := by unfold Func.isWrapper; first | (rw [if_pos (by decide +kernel)]; kernel_rfl) | (rw [if_neg (by decide +kernel)]; exact ⟨rfl, rfl⟩)
theorem fact5 : Rows.clistMoreRow.wfByText (OpenSpec.ofChange Rows.clistMoreSpec) = true := by kernel_rfl
theorem fact6 : false = Rows.clistMoreRow.goesBy Tryd.pinned.checked.prog := by kernel_rfl
theorem fact7 : (Tryd.f3.params.toList.all fun u => !Tryd.prog.wantsStandIn u) = true := by kernel_rfl
theorem said : Rows.ClistMoreSaid :=
  OpenClaim.holds_of_cond 3 Tryd.f3 rfl rfl rfl rfl rfl rfl rfl ⟨rfl, rfl, rfl, rfl, rfl⟩ rfl rfl rfl rfl rfl fact1 Tryd.func3 fact2 fact3 fact4
    (fun os started H enc _ F => by rw [OpenClaim.pre_eq_preRow]; exact lifted os started H enc F)
theorem proved : Rows.ClistMoreCardSaid :=
  Claim7.holds_tied_plain_at .later [] _ _ _ _ said (fun _ h => by cases h) fact5 (fun _ h => by cases h) clistMore_row_tie rfl ⟨rfl, rfl⟩ mainIs rfl (plain_of "confluence/confluencelaw19.ClistMore" 3 Tryd.f3 fact1 Tryd.func3 fact7 noLooks) fact6
end Go.Proofs.YtebccdinglohpaaDoor.clistMore

