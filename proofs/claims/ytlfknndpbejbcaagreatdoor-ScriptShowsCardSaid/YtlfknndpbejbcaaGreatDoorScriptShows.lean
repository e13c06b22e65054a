/-
  ScriptShows: the law returns true at every input, its arguments read behind the call as they did; its card: the listed package-level variables are tied to the program's text. No further condition.
-/
import Derived.Test.YtlfknndpbejbcaaGreatDoorSw5
import Derived.JoinedCond
import Derived.Lay
set_option linter.unusedSimpArgs false
set_option linter.unusedVariables false
namespace Go.Proofs.YtlfknndpbejbcaaGreatDoor.scriptShows
open Go.RowKit Go.WideShapes Go.ChangeShapes Go.ChangeAt Go.ChangeMaps

set_option maxRecDepth 100000 in
theorem contract (H : Type) (enc : TypeId × Value → H) (W : World) (base : Nat) (args : Array Value) (ds gs : List (DataW H)) (before : List MemPlace)
    (hval : ∀ (j : Nat) t v, Tryz.f6.params[j]? = some t → args[j]? = some v → Value.okWide Tryz.prog W .any base t v)
    (hW : DataW.Whole enc Tryz.prog Tryz.f6.params.toList Rows.scriptShowsSpec.vars false W args.toList ds gs before)
    (hreach : (DataW.weightsEach Tryz.prog (Tryz.f6.params.toList ++ (OpenSpec.ofChange Rows.scriptShowsSpec).bare.plain.varTypes Tryz.prog) (ds ++ gs)).all (· ≤ reachBytes) = true) (hL : laidMetH Tryz.prog Rows.scriptShowsRow.laid W) (hsh : W.ShapedOpen Tryz.prog) :
    Calls Tryz.prog 6 args W fun e W' => ∃ v, e = .returned v ∧ Rows.scriptShowsSpec.post enc Tryz.prog Tryz.f6 false true false false W args v W' := by
  have hW' := hW
  obtain ⟨p, q, hA0, hV, rfl, hfz, hnd⟩ := hW
  have hA : DataW.TrodAll enc Tryz.prog W 0 (fun _ => true) true Tryz.f6.params.toList args.toList ds p := hA0
  rw [Tryz.params6] at hA hval
  obtain ⟨v0, vs0, d0, ds0, p0, q0, hargs, rfl, rfl, h0, r0⟩ := trodAll_cons hA
  obtain ⟨v1, vs1, d1, ds1, p1, q1, rfl, rfl, rfl, h1, r1⟩ := trodAll_cons r0
  obtain ⟨rfl, rfl, rfl⟩ := trodAll_nil r1
  obtain rfl : args = #[v0, v1] := by cases args; simp_all
  obtain ⟨a0, A0, n0, c0, rfl, u0, k0, m0⟩ := mv_open (hval 0 32 v0 rfl rfl) h0
  obtain ⟨a1, A1, n1, c1, rfl, u1, k1, m1⟩ := mv_open (hval 1 32 v1 rfl rfl) h1
  have hsp := sp_of_laid (W := W) (laid := Rows.scriptShowsRow.laid) (by kernel_rfl) (List.mem_of_getElem? (i := 7) (by kernel_rfl)) hL
  have ht := tab_of_laid (W := W) (laid := Rows.scriptShowsRow.laid) (by kernel_rfl) (List.mem_of_getElem? (i := 2) (by kernel_rfl)) hL
  refine (scriptShows_any a0 a1 A0 A1 n0 c0 n1 c1 W u0 u1 k0 k1 m0 m1 (env_of (d1 := Rows.laid_strconv_ErrSyntax) (d2 := Rows.laid_strconv_ErrRange) ht (by kernel_rfl) hL hsh (List.mem_of_getElem? (i := 5) (by kernel_rfl)) (List.mem_of_getElem? (i := 4) (by kernel_rfl))) hsp).mono fun e W' ⟨he, hbel⟩ => ?_
  subst he
  exact ⟨_, rfl, law_post laidOut (by rw [Tryz.params6]; decide +kernel) hW' rfl rfl rfl Tryz.underlying4 hbel⟩

/-- The witness's world: the listed variables laid by the kit's function (a pinned table is among them). -/
noncomputable def layWorld (os : Os) : World := World.laidAll Tryz.prog os Rows.scriptShowsRow.laid
theorem laid_met (os : Os) (args : Array Value) : laidMet Tryz.prog Rows.scriptShowsRow.laid ((layWorld os).forCall (fun _ _ => 0) ⟨#[], args, []⟩).memory :=
  laidMet_laidAll args (by kernel_rfl) (by kernel_rfl)
theorem reads (os : Os) {H : Type} (enc : TypeId × Value → H) : ∃ places, DataW.whole enc Tryz.prog ((layWorld os).forCall (fun _ _ => 0) ⟨#[], #[.agg #[.int .i64 0, .int .u32 0, .int .i64 0, .slice none 0 0, .string ⟨#[]⟩, .int .u32 0, .int .i64 0, .int .u32 0, .bool false], .agg #[.int .i64 0, .int .u32 0, .int .i64 0, .slice none 0 0, .string ⟨#[]⟩, .int .u32 0, .int .i64 0, .int .u32 0, .bool false]], []⟩).memory Tryz.f6.params.toList Rows.scriptShowsSpec.vars false (#[.agg #[.int .i64 0, .int .u32 0, .int .i64 0, .slice none 0 0, .string ⟨#[]⟩, .int .u32 0, .int .i64 0, .int .u32 0, .bool false], .agg #[.int .i64 0, .int .u32 0, .int .i64 0, .slice none 0 0, .string ⟨#[]⟩, .int .u32 0, .int .i64 0, .int .u32 0, .bool false]] : Array Value).toList 8 = some ([.agg [.lit (.int .i64 0), .lit (.int .u32 0), .lit (.int .i64 0), .nil, .lit (.string []), .agg [.lit (.int .u32 0), .lit (.int .i64 0), .lit (.int .u32 0), .lit (.bool false)]], .agg [.lit (.int .i64 0), .lit (.int .u32 0), .lit (.int .i64 0), .nil, .lit (.string []), .agg [.lit (.int .u32 0), .lit (.int .i64 0), .lit (.int .u32 0), .lit (.bool false)]]], [], places) :=
  ⟨[], by kernel_rfl⟩
theorem start1 (os : Os) : ((layWorld os).forCall (fun _ _ => 0) ⟨#[], #[.agg #[.int .i64 0, .int .u32 0, .int .i64 0, .slice none 0 0, .string ⟨#[]⟩, .int .u32 0, .int .i64 0, .int .u32 0, .bool false], .agg #[.int .i64 0, .int .u32 0, .int .i64 0, .slice none 0 0, .string ⟨#[]⟩, .int .u32 0, .int .i64 0, .int .u32 0, .bool false]], []⟩).variablesRefB Tryz.checked.prog = true := by kernel_rfl
theorem start2 (os : Os) : (((layWorld os).forCall (fun _ _ => 0) ⟨#[], #[.agg #[.int .i64 0, .int .u32 0, .int .i64 0, .slice none 0 0, .string ⟨#[]⟩, .int .u32 0, .int .i64 0, .int .u32 0, .bool false], .agg #[.int .i64 0, .int .u32 0, .int .i64 0, .slice none 0 0, .string ⟨#[]⟩, .int .u32 0, .int .i64 0, .int .u32 0, .bool false]], []⟩).heap.toList.drop Tryz.checked.prog.globals.size).take ((begin Tryz.checked.prog (fun _ _ => 0) default).world.heap.size - Tryz.checked.prog.globals.size) =
      (begin Tryz.checked.prog (fun _ _ => 0) default).world.heap.toList.drop Tryz.checked.prog.globals.size := by kernel_rfl
theorem start3 (os : Os) : Input.okWideB Tryz.checked.prog ((layWorld os).forCall (fun _ _ => 0) ⟨#[], #[.agg #[.int .i64 0, .int .u32 0, .int .i64 0, .slice none 0 0, .string ⟨#[]⟩, .int .u32 0, .int .i64 0, .int .u32 0, .bool false], .agg #[.int .i64 0, .int .u32 0, .int .i64 0, .slice none 0 0, .string ⟨#[]⟩, .int .u32 0, .int .i64 0, .int .u32 0, .bool false]], []⟩) 6 ⟨#[], #[.agg #[.int .i64 0, .int .u32 0, .int .i64 0, .slice none 0 0, .string ⟨#[]⟩, .int .u32 0, .int .i64 0, .int .u32 0, .bool false], .agg #[.int .i64 0, .int .u32 0, .int .i64 0, .slice none 0 0, .string ⟨#[]⟩, .int .u32 0, .int .i64 0, .int .u32 0, .bool false]], []⟩ = true := by kernel_rfl

set_option maxRecDepth 100000 in
theorem lifted (os : Os) (started : os.Started) (H : Type) (enc : TypeId × Value → H) (F : Stop.Interp) :
    ReturnsInHanded {} Tryz.checked os 6 .any ((OpenSpec.ofChange Rows.scriptShowsSpec).preRow enc Tryz.prog Tryz.f6 Rows.scriptShowsRow.domain false Rows.scriptShowsRow.laid) (((OpenSpec.ofChange Rows.scriptShowsSpec).at F).post enc Tryz.prog Tryz.f6 false true false false) := by
  obtain ⟨places, hx⟩ := reads os enc
  refine returnsInHanded_of_row (C := Tryz.checked) (s := OpenSpec.ofChange Rows.scriptShowsSpec) own started (by kernel_rfl) Tryz.func6
    (witness_row_atRef (enc := enc) (C := Tryz.checked) false (layWorld os) #[.agg #[.int .i64 0, .int .u32 0, .int .i64 0, .slice none 0 0, .string ⟨#[]⟩, .int .u32 0, .int .i64 0, .int .u32 0, .bool false], .agg #[.int .i64 0, .int .u32 0, .int .i64 0, .slice none 0 0, .string ⟨#[]⟩, .int .u32 0, .int .i64 0, .int .u32 0, .bool false]] rfl (start1 os) (start2 os) (start3 os)
      (OpenSpec.preRow_of_cond 8 hx (by kernel_rfl) (fun k hk => by cases hk) (by kernel_rfl) (laid_met os _))) ?_
  intro W base args ds gs before hval hW _ _ hreach hL hsh _
  exact contract H enc W base args ds gs before hval hW hreach hL hsh

theorem fact1 : Tryz.pinned.checked.prog.funcNamed Rows.scriptShowsRow.func = some 6 := by kernel_rfl
theorem and2 {a b : Bool} (h : a = true) (k : b = true) : (a && b) = true := by rw [h, k]; rfl
theorem jf0 : (Rows.scriptShowsRow.wf (OpenSpec.ofChange (OpenSpec.ofChange Rows.scriptShowsSpec).bare) && laidOutB Tryz.pinned.checked.prog && mapsRowed Tryz.pinned.checked.prog && Tryz.f6.params.all (Tryz.pinned.checked.prog.readableRec ·) && namedTie Tryz.pinned.checked.prog Rows.scriptShowsRow.named ((OpenSpec.ofChange Rows.scriptShowsSpec).bare).vars && (Rows.scriptShowsRow.stops == []) && (Tryz.pinned.checked.prog.stops == []) && (Rows.scriptShowsRow.knobs == []) && (Tryz.pinned.checked.prog.stopKnobs == [])) = true := by kernel_rfl
theorem jf1 : (Rows.scriptShowsRow.inPlace == Tryz.pinned.checked.prog.inPlace 6) = true := by kernel_rfl
theorem jf2 : (Rows.scriptShowsRow.unfollowed == Tryz.pinned.checked.prog.unfollowed 6) = true := by kernel_rfl
theorem jf3 : (Rows.scriptShowsRow.recurses == Tryz.pinned.checked.prog.recurses 6) = true := by kernel_rfl
theorem jf4 : (Rows.scriptShowsRow.named == Tryz.pinned.checked.prog.varsNamed 6) = true := by kernel_rfl
theorem jf5 : (Rows.scriptShowsRow.maps == (Tryz.f6.params.toList ++ ((OpenSpec.ofChange Rows.scriptShowsSpec).bare).plain.varTypes Tryz.pinned.checked.prog).any (Tryz.pinned.checked.prog.mapsRec ·)) = true := by kernel_rfl
theorem jf6 : (Rows.scriptShowsRow.ifaces == (Tryz.f6.params.toList ++ ((OpenSpec.ofChange Rows.scriptShowsSpec).bare).plain.varTypes Tryz.pinned.checked.prog).any (Tryz.pinned.checked.prog.ifacesRec ·)) = true := by kernel_rfl
theorem jf7 : (Rows.scriptShowsRow.mapsOut == Tryz.pinned.checked.prog.mapsAmong Tryz.f6.resultTypes.toList) = true := by kernel_rfl
theorem jf8 : (Rows.scriptShowsRow.loops == (Tryz.f6.params.toList ++ ((OpenSpec.ofChange Rows.scriptShowsSpec).bare).plain.varTypes Tryz.pinned.checked.prog).any (Tryz.pinned.checked.prog.loopsFrom ·)) = true := by kernel_rfl
theorem jf9 : (Rows.scriptShowsRow.wideKeys == (Tryz.f6.params.toList ++ ((OpenSpec.ofChange Rows.scriptShowsSpec).bare).plain.varTypes Tryz.pinned.checked.prog ++ Tryz.f6.resultTypes.toList).any (Tryz.pinned.checked.prog.wideKeysFrom ·)) = true := by kernel_rfl
theorem jf10 : (((OpenSpec.ofChange Rows.scriptShowsSpec).bare).vars.all (Tryz.pinned.checked.prog.varReadable ·)) = true := by kernel_rfl
theorem jf11 : (Tryz.f6.resultTypes.all (fun t => Tryz.pinned.checked.prog.readableRec t && decide (t < Tryz.pinned.checked.prog.types.size))) = true := by kernel_rfl
theorem jf12 : (Rows.scriptShowsRow.ifacesOut == Tryz.f6.resultTypes.toList.any (Tryz.pinned.checked.prog.ifacesRec ·)) = true := by kernel_rfl
theorem jf13 : (Rows.scriptShowsRow.loopsOut == Tryz.f6.resultTypes.toList.any (Tryz.pinned.checked.prog.loopsFrom ·)) = true := by kernel_rfl
theorem jf14 : (Rows.scriptShowsRow.plainKeys == Tryz.pinned.checked.prog.plainKeys) = true := sf14
theorem jf15 : (Rows.scriptShowsRow.shortTexts.isNone) = true := by kernel_rfl
theorem jf16 : (Tryz.pinned.checked.prog.stopsHeard) = true := sf16
theorem jf17 : (Tryz.pinned.checked.prog.mayEnter) = true := sf17
theorem jf18 : (Rows.scriptShowsRow.lifted == Tryz.pinned.checked.prog.liftsFinal) = true := sf18
theorem jf19 : (Tryz.pinned.checked.prog.make == some Rows.scriptShowsRow.make) = true := sf19
theorem jf20 : (Rows.scriptShowsRow.kinds == (if Rows.scriptShowsRow.domain.isEmpty then [] else Tryz.f6.params.toList.map fun t => match Tryz.pinned.checked.prog.underlying t with | some (.int k) => some k | _ => none)) = true := by kernel_rfl
theorem jf21 : (Rows.scriptShowsRow.pinned == Rows.scriptShowsRow.pinnedBy) = true := by kernel_rfl
theorem jf22 : (Rows.scriptShowsRow.veiled == (Tryz.f6.params.toList ++ ((OpenSpec.ofChange Rows.scriptShowsSpec).bare).plain.varTypes Tryz.pinned.checked.prog ++ Tryz.f6.resultTypes.toList).any (Tryz.pinned.checked.prog.veiledRec ·)) = true := by kernel_rfl
theorem jf23 : (Rows.scriptShowsRow.veiledFits Tryz.pinned.checked.prog Tryz.f6.params.toList (Tryz.f6.params.toList ++ ((OpenSpec.ofChange Rows.scriptShowsSpec).bare).plain.varTypes Tryz.pinned.checked.prog ++ Tryz.f6.resultTypes.toList)) = true := by kernel_rfl
set_option maxRecDepth 100000 in
theorem fact2 : joinedFacts Tryz.pinned.checked.prog 6 Tryz.f6 (OpenSpec.ofChange Rows.scriptShowsSpec).bare Rows.scriptShowsRow = true := (and2 (and2 (and2 (and2 (and2 (and2 (and2 (and2 (and2 (and2 (and2 (and2 (and2 (and2 (and2 (and2 (and2 (and2 (and2 (and2 (and2 (and2 (and2 jf0 jf1) jf2) jf3) jf4) jf5) jf6) jf7) jf8) jf9) jf10) jf11) jf12) jf13) jf14) jf15) jf16) jf17) jf18) jf19) jf20) jf21) jf22) jf23)
theorem fact3 : Tryz.f6.isInstance Tryz.pinned.checked.prog Rows.scriptShowsRow.origin Rows.scriptShowsRow.targs := of_decide_eq_true (by kernel_rfl)
theorem fact4 : Tryz.f6.isWrapper Tryz.pinned.checked.prog Rows.scriptShowsRow.wrapper Rows.scriptShowsRow.mainSum := by unfold Func.isWrapper; first | (rw [if_pos (by decide +kernel)]; kernel_rfl) | (rw [if_neg (by decide +kernel)]; exact ⟨rfl, rfl⟩)
theorem fact5 : Rows.scriptShowsRow.wfByText (OpenSpec.ofChange Rows.scriptShowsSpec) = true := by kernel_rfl
theorem fact6 : false = Rows.scriptShowsRow.goesBy Tryz.pinned.checked.prog := by kernel_rfl
theorem fact7 : (Tryz.f6.params.toList.all fun u => !Tryz.prog.wantsStandIn u) = true := by kernel_rfl
theorem said : Rows.ScriptShowsSaid :=
  OpenClaim.holds_of_cond 6 Tryz.f6 rfl rfl rfl rfl rfl rfl rfl ⟨rfl, rfl, rfl, rfl, rfl⟩ rfl rfl rfl rfl rfl fact1 Tryz.func6 fact2 fact3 fact4
    (fun os started H enc _ F => by rw [OpenClaim.pre_eq_preRow]; exact lifted os started H enc F)
theorem proved : Rows.ScriptShowsCardSaid :=
  Claim7.holds_tied_plain_at .later [] _ _ _ _ said (fun _ h => by cases h) fact5 (fun _ h => by cases h) scriptShows_row_tie rfl ⟨rfl, rfl⟩ mainIs rfl (plain_of "confluence/confluencelaw40.ScriptShows" 6 Tryz.f6 fact1 Tryz.func6 fact7 noLooks) fact6
end Go.Proofs.YtlfknndpbejbcaaGreatDoor.scriptShows

