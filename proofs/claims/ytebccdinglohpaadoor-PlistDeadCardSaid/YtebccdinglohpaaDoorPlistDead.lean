/-
  PlistDead: the law returns true at every input, its arguments read behind the call as they did; its card: the listed package-level variables are tied to the program's text. No further condition.
-/
import Derived.Test.YtebccdinglohpaaDoorPd3
import Derived.JoinedCond
import Derived.Lay
set_option linter.unusedSimpArgs false
set_option linter.unusedVariables false
namespace Go.Proofs.YtebccdinglohpaaDoor.plistDead
open Go.RowKit Go.WideShapes Go.ChangeShapes Go.ChangeAt Go.ChangeMaps

set_option maxRecDepth 100000 in
theorem contract (H : Type) (enc : TypeId × Value → H) (W : World) (base : Nat) (args : Array Value) (ds gs : List (DataW H)) (before : List MemPlace)
    (hval : ∀ (j : Nat) t v, Tryd.f4.params[j]? = some t → args[j]? = some v → Value.okWide Tryd.prog W .any base t v)
    (hW : DataW.Whole enc Tryd.prog Tryd.f4.params.toList Rows.plistDeadSpec.vars false W args.toList ds gs before)
    (hreach : (DataW.weightsEach Tryd.prog (Tryd.f4.params.toList ++ (OpenSpec.ofChange Rows.plistDeadSpec).bare.plain.varTypes Tryd.prog) (ds ++ gs)).all (· ≤ reachBytes) = true) (hL : laidMetH Tryd.prog Rows.plistDeadRow.laid W) (hsh : W.ShapedOpen Tryd.prog) :
    Calls Tryd.prog 4 args W fun e W' => ∃ v, e = .returned v ∧ Rows.plistDeadSpec.post enc Tryd.prog Tryd.f4 false true false false W args v W' := by
  have hW' := hW
  obtain ⟨p, q, hA0, hV, rfl, hfz, hnd⟩ := hW
  have hA : DataW.TrodAll enc Tryd.prog W 0 (fun _ => true) true Tryd.f4.params.toList args.toList ds p := hA0
  rw [Tryd.params4] at hA hval
  obtain ⟨v0, vs0, d0, ds0, p0, q0, hargs, rfl, rfl, h0, r0⟩ := trodAll_cons hA
  obtain ⟨v1, vs1, d1, ds1, p1, q1, rfl, rfl, rfl, h1, r1⟩ := trodAll_cons r0
  obtain ⟨rfl, rfl, rfl⟩ := trodAll_nil r1
  obtain rfl : args = #[v0, v1] := by cases args; simp_all
  obtain ⟨s0, A0, n0, c0, a0, rfl, u0, k0⟩ := plist_open (hval 0 33 v0 rfl rfl) h0
  obtain ⟨a1, n1, rfl, b1, l1, m1⟩ := prefix_open (hval 1 36 v1 rfl rfl) h1
  have ht := tab_of_laid (W := W) (laid := Rows.plistDeadRow.laid) (by kernel_rfl) (List.mem_of_getElem? (i := 2) (by kernel_rfl)) hL
  refine (plistDead_any s0 A0 n0 c0 a0 a1 n1 W k0 u0 ⟨b1, l1, m1⟩ (env_of (d1 := Rows.laid_strconv_ErrSyntax) (d2 := Rows.laid_strconv_ErrRange) ht (by kernel_rfl) hL hsh (List.mem_of_getElem? (i := 5) (by kernel_rfl)) (List.mem_of_getElem? (i := 4) (by kernel_rfl)))).mono fun e W' ⟨he, hbel⟩ => ?_
  subst he
  exact ⟨_, rfl, law_post laidOut (by rw [Tryd.params4]; decide +kernel) hW' rfl rfl rfl Tryd.underlying4 hbel⟩

/-- The witness's world: the listed variables laid by the kit's function (a pinned table is among them). -/
noncomputable def layWorld (os : Os) : World := World.laidAll Tryd.prog os Rows.plistDeadRow.laid
theorem laid_met (os : Os) (args : Array Value) : laidMet Tryd.prog Rows.plistDeadRow.laid ((layWorld os).forCall (fun _ _ => 0) ⟨#[], args, []⟩).memory :=
  laidMet_laidAll args (by kernel_rfl) (by kernel_rfl)
theorem reads (os : Os) {H : Type} (enc : TypeId × Value → H) : ∃ places, DataW.whole enc Tryd.prog ((layWorld os).forCall (fun _ _ => 0) ⟨#[], #[.agg #[.string ⟨#[]⟩, .slice none 0 0], .agg #[.int .u32 0, .int .i64 0]], []⟩).memory Tryd.f4.params.toList Rows.plistDeadSpec.vars false (#[.agg #[.string ⟨#[]⟩, .slice none 0 0], .agg #[.int .u32 0, .int .i64 0]] : Array Value).toList 8 = some ([.agg [.lit (.string []), .nil], .agg [.lit (.int .u32 0), .lit (.int .i64 0)]], [], places) :=
  ⟨[], by kernel_rfl⟩
theorem start1 (os : Os) : ((layWorld os).forCall (fun _ _ => 0) ⟨#[], #[.agg #[.string ⟨#[]⟩, .slice none 0 0], .agg #[.int .u32 0, .int .i64 0]], []⟩).variablesRefB Tryd.checked.prog = true := by kernel_rfl
theorem start2 (os : Os) : (((layWorld os).forCall (fun _ _ => 0) ⟨#[], #[.agg #[.string ⟨#[]⟩, .slice none 0 0], .agg #[.int .u32 0, .int .i64 0]], []⟩).heap.toList.drop Tryd.checked.prog.globals.size).take ((begin Tryd.checked.prog (fun _ _ => 0) default).world.heap.size - Tryd.checked.prog.globals.size) =
      (begin Tryd.checked.prog (fun _ _ => 0) default).world.heap.toList.drop Tryd.checked.prog.globals.size := by kernel_rfl
theorem start3 (os : Os) : Input.okWideB Tryd.checked.prog ((layWorld os).forCall (fun _ _ => 0) ⟨#[], #[.agg #[.string ⟨#[]⟩, .slice none 0 0], .agg #[.int .u32 0, .int .i64 0]], []⟩) 4 ⟨#[], #[.agg #[.string ⟨#[]⟩, .slice none 0 0], .agg #[.int .u32 0, .int .i64 0]], []⟩ = true := by kernel_rfl

set_option maxRecDepth 100000 in
theorem lifted (os : Os) (started : os.Started) (H : Type) (enc : TypeId × Value → H) (F : Stop.Interp) :
    ReturnsInHanded {} Tryd.checked os 4 .any ((OpenSpec.ofChange Rows.plistDeadSpec).preRow enc Tryd.prog Tryd.f4 Rows.plistDeadRow.domain false Rows.plistDeadRow.laid) (((OpenSpec.ofChange Rows.plistDeadSpec).at F).post enc Tryd.prog Tryd.f4 false true false false) := by
  obtain ⟨places, hx⟩ := reads os enc
  refine returnsInHanded_of_row (C := Tryd.checked) (s := OpenSpec.ofChange Rows.plistDeadSpec) own started (by kernel_rfl) Tryd.func4
    (witness_row_atRef (enc := enc) (C := Tryd.checked) false (layWorld os) #[.agg #[.string ⟨#[]⟩, .slice none 0 0], .agg #[.int .u32 0, .int .i64 0]] rfl (start1 os) (start2 os) (start3 os)
      (OpenSpec.preRow_of_cond 8 hx (by kernel_rfl) (fun k hk => by cases hk) (by kernel_rfl) (laid_met os _))) ?_
  intro W base args ds gs before hval hW _ _ hreach hL hsh _
  exact contract H enc W base args ds gs before hval hW hreach hL hsh

theorem fact1 : Tryd.pinned.checked.prog.funcNamed Rows.plistDeadRow.func = some 4 := by kernel_rfl
theorem and2 {a b : Bool} (h : a = true) (k : b = true) : (a && b) = true := by rw [h, k]; rfl
theorem jf0 : (Rows.plistDeadRow.wf (OpenSpec.ofChange (OpenSpec.ofChange Rows.plistDeadSpec).bare) && laidOutB Tryd.pinned.checked.prog && mapsRowed Tryd.pinned.checked.prog && Tryd.f4.params.all (Tryd.pinned.checked.prog.readableRec ·) && namedTie Tryd.pinned.checked.prog Rows.plistDeadRow.named ((OpenSpec.ofChange Rows.plistDeadSpec).bare).vars && (Rows.plistDeadRow.stops == []) && (Tryd.pinned.checked.prog.stops == []) && (Rows.plistDeadRow.knobs == []) && (Tryd.pinned.checked.prog.stopKnobs == [])) = true := by kernel_rfl
theorem jf1 : (Rows.plistDeadRow.inPlace == Tryd.pinned.checked.prog.inPlace 4) = true := by kernel_rfl
theorem jf2 : (Rows.plistDeadRow.unfollowed == Tryd.pinned.checked.prog.unfollowed 4) = true := by kernel_rfl
theorem jf3 : (Rows.plistDeadRow.recurses == Tryd.pinned.checked.prog.recurses 4) = true := by kernel_rfl
theorem jf4 : (Rows.plistDeadRow.named == Tryd.pinned.checked.prog.varsNamed 4) = true := by kernel_rfl
theorem jf5 : (Rows.plistDeadRow.maps == (Tryd.f4.params.toList ++ ((OpenSpec.ofChange Rows.plistDeadSpec).bare).plain.varTypes Tryd.pinned.checked.prog).any (Tryd.pinned.checked.prog.mapsRec ·)) = true := by kernel_rfl
theorem jf6 : (Rows.plistDeadRow.ifaces == (Tryd.f4.params.toList ++ ((OpenSpec.ofChange Rows.plistDeadSpec).bare).plain.varTypes Tryd.pinned.checked.prog).any (Tryd.pinned.checked.prog.ifacesRec ·)) = true := by kernel_rfl
theorem jf7 : (Rows.plistDeadRow.mapsOut == Tryd.pinned.checked.prog.mapsAmong Tryd.f4.resultTypes.toList) = true := by kernel_rfl
theorem jf8 : (Rows.plistDeadRow.loops == (Tryd.f4.params.toList ++ ((OpenSpec.ofChange Rows.plistDeadSpec).bare).plain.varTypes Tryd.pinned.checked.prog).any (Tryd.pinned.checked.prog.loopsFrom ·)) = true := by kernel_rfl
theorem jf9 : (Rows.plistDeadRow.wideKeys == (Tryd.f4.params.toList ++ ((OpenSpec.ofChange Rows.plistDeadSpec).bare).plain.varTypes Tryd.pinned.checked.prog ++ Tryd.f4.resultTypes.toList).any (Tryd.pinned.checked.prog.wideKeysFrom ·)) = true := by kernel_rfl
theorem jf10 : (((OpenSpec.ofChange Rows.plistDeadSpec).bare).vars.all (Tryd.pinned.checked.prog.varReadable ·)) = true := by kernel_rfl
theorem jf11 : (Tryd.f4.resultTypes.all (fun t => Tryd.pinned.checked.prog.readableRec t && decide (t < Tryd.pinned.checked.prog.types.size))) = true := by kernel_rfl
theorem jf12 : (Rows.plistDeadRow.ifacesOut == Tryd.f4.resultTypes.toList.any (Tryd.pinned.checked.prog.ifacesRec ·)) = true := by kernel_rfl
theorem jf13 : (Rows.plistDeadRow.loopsOut == Tryd.f4.resultTypes.toList.any (Tryd.pinned.checked.prog.loopsFrom ·)) = true := by kernel_rfl
theorem jf14 : (Rows.plistDeadRow.plainKeys == Tryd.pinned.checked.prog.plainKeys) = true := sf14
theorem jf15 : (Rows.plistDeadRow.shortTexts.isNone) = true := by kernel_rfl
theorem jf16 : (Tryd.pinned.checked.prog.stopsHeard) = true := sf16
theorem jf17 : (Tryd.pinned.checked.prog.mayEnter) = true := sf17
theorem jf18 : (Rows.plistDeadRow.lifted == Tryd.pinned.checked.prog.liftsFinal) = true := sf18
theorem jf19 : (Tryd.pinned.checked.prog.make == some Rows.plistDeadRow.make) = true := sf19
theorem jf20 : (Rows.plistDeadRow.kinds == (if Rows.plistDeadRow.domain.isEmpty then [] else Tryd.f4.params.toList.map fun t => match Tryd.pinned.checked.prog.underlying t with | some (.int k) => some k | _ => none)) = true := by kernel_rfl
theorem jf21 : (Rows.plistDeadRow.pinned == Rows.plistDeadRow.pinnedBy) = true := by kernel_rfl
theorem jf22 : (Rows.plistDeadRow.veiled == (Tryd.f4.params.toList ++ ((OpenSpec.ofChange Rows.plistDeadSpec).bare).plain.varTypes Tryd.pinned.checked.prog ++ Tryd.f4.resultTypes.toList).any (Tryd.pinned.checked.prog.veiledRec ·)) = true := by kernel_rfl
theorem jf23 : (Rows.plistDeadRow.veiledFits Tryd.pinned.checked.prog Tryd.f4.params.toList (Tryd.f4.params.toList ++ ((OpenSpec.ofChange Rows.plistDeadSpec).bare).plain.varTypes Tryd.pinned.checked.prog ++ Tryd.f4.resultTypes.toList)) = true := by kernel_rfl
set_option maxRecDepth 100000 in
theorem fact2 : joinedFacts Tryd.pinned.checked.prog 4 Tryd.f4 (OpenSpec.ofChange Rows.plistDeadSpec).bare Rows.plistDeadRow = true := (and2 (and2 (and2 (and2 (and2 (and2 (and2 (and2 (and2 (and2 (and2 (and2 (and2 (and2 (and2 (and2 (and2 (and2 (and2 (and2 (and2 (and2 (and2 jf0 jf1) jf2) jf3) jf4) jf5) jf6) jf7) jf8) jf9) jf10) jf11) jf12) jf13) jf14) jf15) jf16) jf17) jf18) jf19) jf20) jf21) jf22) jf23)
theorem fact3 : Tryd.f4.isInstance Tryd.pinned.checked.prog Rows.plistDeadRow.origin Rows.plistDeadRow.targs := of_decide_eq_true (by kernel_rfl)
theorem fact4 : Tryd.f4.isWrapper Tryd.pinned.checked.prog Rows.plistDeadRow.wrapper Rows.plistDeadRow.mainSum := by unfold Func.isWrapper; first | (rw [if_pos (by decide +kernel)]; kernel_rfl) | (rw [if_neg (by decide +kernel)]; exact ⟨rfl, rfl⟩)
theorem fact5 : Rows.plistDeadRow.wfByText (OpenSpec.ofChange Rows.plistDeadSpec) = true := by kernel_rfl
theorem fact6 : false = Rows.plistDeadRow.goesBy Tryd.pinned.checked.prog := by kernel_rfl
theorem fact7 : (Tryd.f4.params.toList.all fun u => !Tryd.prog.wantsStandIn u) = true := by kernel_rfl
theorem said : Rows.PlistDeadSaid :=
  OpenClaim.holds_of_cond 4 Tryd.f4 rfl rfl rfl rfl rfl rfl rfl ⟨rfl, rfl, rfl, rfl, rfl⟩ rfl rfl rfl rfl rfl fact1 Tryd.func4 fact2 fact3 fact4
    (fun os started H enc _ F => by rw [OpenClaim.pre_eq_preRow]; exact lifted os started H enc F)
theorem proved : Rows.PlistDeadCardSaid :=
  Claim7.holds_tied_plain_at .later [] _ _ _ _ said (fun _ h => by cases h) fact5 (fun _ h => by cases h) plistDead_row_tie rfl ⟨rfl, rfl⟩ mainIs rfl (plain_of "confluence/confluencelaw17.PlistDead" 4 Tryd.f4 fact1 Tryd.func4 fact7 noLooks) fact6
end Go.Proofs.YtebccdinglohpaaDoor.plistDead

