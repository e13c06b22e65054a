/-
  A CARD's FRAME: what the listed variables hold, out of the row's condition; the world of the witness: the one that the program's own start-up leaves.
-/
import Derived.Test.YtiibglkiakhfgaaDoorLaw
import Derived.Test.YtiibglkiakhfgaaDoorCards
import Derived.Test.YtiibglkiakhfgaaDoorTie
import Derived.Deep.DeepHandedRow
import Derived.Deep.DeepWitnessRowRef
import Derived.Lib.LaidTab
import Derived.Lib.AppendIntMem
import Derived.LaidMore
import Derived.MakeChecks
import Derived.Lib.Itoa
namespace Go.Proofs.YtiibglkiakhfgaaDoor
open Go.RowKit Go.WideShapes Go.ChangeShapes Go.ChangeAt

theorem laidVars_mem {P : Program} {W : World} {n : String} {d : DataW Unit} : ∀ {l : List (String × DataW Unit)} {ps : List MemPlace}, DataW.LaidVars P W l ps → (n, d) ∈ l →
    ∃ g t cs fuel p, P.globalNamed n = some g ∧ (P.globals[g]?).map (·.type) = some t ∧ W.var? P n = some cs ∧ DataW.trod (fun _ => ()) P W 0 (fun _ => true) false fuel t cs.toList = some (d, p)
  | [], _, _, hm => by simp at hm
  | (n', d') :: l, ps, h, hm => by
    obtain ⟨g, t, cs, fuel, p, q, h1, h2, h3, h4, h5, _⟩ := h
    rcases List.mem_cons.1 hm with e | e
    · cases e; exact ⟨g, t, cs, fuel, p, h1, h2, h3, h4⟩
    · exact laidVars_mem h5 e

/-- A LISTED TABLE OF INTEGERS, wherever it stands on the list. -/
theorem tabIs_of_mem {P : Program} {W : World} {name : String} {k : IntKind} {zs : List Int} {laid : List (String × DataW Unit)} {g : Nat} {t e : TypeId} {n : Nat}
    (hg : P.globalNamed name = some g) (hty : (P.globals[g]?).map (·.type) = some t) (ht : P.underlying t = some (.array n e)) (he : P.underlying e = some (.int k)) (hce : P.cellsOf e = 1) (hct : P.cellsOf t = n)
    (h : laidMet P laid W) (hm : (name, Lib.tabData k zs) ∈ laid) : Lib.TabIs P W name k zs := by
  obtain ⟨ps, hl, _⟩ := h
  obtain ⟨g', t', cs, fuel, p, hg', ht', hvar, hd⟩ := laidVars_mem hl hm
  obtain rfl := Option.some.inj (hg.symm.trans hg')
  obtain rfl := Option.some.inj (hty.symm.trans ht')
  unfold Lib.TabIs
  rw [hvar, ← Lib.cells_of_tab ht he hce hct hd]

theorem own : ownKnob Tryd.prog.godebug = none := by kernel_rfl
theorem laidOut : laidOutB Tryd.prog = true := by kernel_rfl

/-- The table of powers of ten holds what its initialiser lays. -/
def Tab (w : World) : Prop := Lib.TabIs Tryd.prog w "internal/strconv.uint64pow10" .u64 Lib.pow10Tab
theorem Tab.below {w w' : World} (h : Tab w) (hb : Below w.heap.size w w') : Tab w' := Lib.tabBelow_of_tabIs h w' hb

theorem gPow : Tryd.prog.globalNamed "internal/strconv.uint64pow10" = some 5 := by kernel_rfl
theorem gPowType : (Tryd.prog.globals[5]?).map (·.type) = some 222 := by kernel_rfl
theorem cells20 : Tryd.prog.cellsOf 222 = 20 := by kernel_rfl
theorem cells64 : Tryd.prog.cellsOf 123 = 1 := by kernel_rfl
theorem tab_of_laid {W : World} {laid : List (String × DataW Unit)} (hh : (laid.all fun x => x.2.handleName?.isNone) = true) (hm : ("internal/strconv.uint64pow10", Rows.laid_internal_strconv_uint64pow10) ∈ laid) (h : laidMetH Tryd.prog laid W) : Tab W := by
  rw [MakeChecks.laidMetH_plain _ _ _ hh] at h
  exact tabIs_of_mem (zs := Lib.pow10Tab) gPow gPowType Tryd.underlying222 Tryd.underlying123 cells64 cells20 h hm

/-- The world of the witness: the heap that the program's own start-up leaves. -/
noncomputable def startWorld (os : Os) : World := World.doorLaid Tryd.prog 400 os

theorem mainIs : Tryd.pinned.checked.prog.mainIs = some (Rows.commApartCard.stood.harness.1, Rows.commApartCard.stood.harness.2.toList) := by kernel_rfl
theorem noLooks : true = Tryd.pinned.checked.prog.looks [] := by kernel_rfl

/-- No parameter wants a stand-in; the program's own looks are off: what a card asks. -/
theorem plain_of (name : String) (k : FuncId) (fk : Func) (h1 : Tryd.prog.funcNamed name = some k) (h2 : Tryd.prog.funcs[k]? = some fk) (h3 : (fk.params.toList.all fun u => !Tryd.prog.wantsStandIn u) = true) (h4 : true = Tryd.pinned.checked.prog.looks [])
    (f : FuncId) (fn : Func) (hf : Tryd.pinned.checked.prog.funcNamed name = some f) (hfn : Tryd.pinned.checked.prog.funcs[f]? = some fn) :
    true = Tryd.pinned.checked.prog.looks [] ∧ ∀ (j : Nat) t, fn.params[j]? = some t → Tryd.pinned.checked.prog.wantsStandIn t = false := by
  obtain rfl : f = k := Option.some.inj (hf.symm.trans h1)
  obtain rfl : fn = fk := Option.some.inj (hfn.symm.trans h2)
  refine ⟨h4, fun j t ht => ?_⟩
  have hm : t ∈ fn.params.toList := by simpa using Array.mem_of_getElem? ht
  show Tryd.prog.wantsStandIn t = false
  simpa using List.all_eq_true.1 h3 t hm
end Go.Proofs.YtiibglkiakhfgaaDoor
