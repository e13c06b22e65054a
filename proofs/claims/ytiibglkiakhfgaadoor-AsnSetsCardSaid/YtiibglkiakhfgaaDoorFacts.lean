/-
  FACTS OF THE PROGRAM ALONE that every row's closed facts ask for: shown once.
-/
import Derived.Test.YtiibglkiakhfgaaDoorCard
import Derived.JoinedCond
namespace Go.Proofs.YtiibglkiakhfgaaDoor
open Go.RowKit Go.WideShapes Go.ChangeShapes Go.ChangeAt Go.ChangeMaps
theorem sf14 : (Rows.prefixApartRow.plainKeys == Tryd.pinned.checked.prog.plainKeys) = true := by kernel_rfl
theorem sf16 : (Tryd.pinned.checked.prog.stopsHeard) = true := by kernel_rfl
theorem sf17 : (Tryd.pinned.checked.prog.mayEnter) = true := by kernel_rfl
theorem sf18 : (Rows.prefixApartRow.lifted == Tryd.pinned.checked.prog.liftsFinal) = true := by kernel_rfl
theorem sf19 : (Tryd.pinned.checked.prog.make == some Rows.prefixApartRow.make) = true := by kernel_rfl
end Go.Proofs.YtiibglkiakhfgaaDoor
