import Derived.Test.YtiibglkiakhfgaaDoorPrefixText
import Derived.Lib.SmallJoins
set_option linter.unusedSimpArgs false
set_option linter.unusedVariables false
namespace Go.Proofs.YtiibglkiakhfgaaDoor
open Go.RowKit
set_option maxRecDepth 100000 in
open Go.WideShapes Go.ChangeShapes Go.ChangeAt Go.ChangeMaps in
theorem prefix_open {H : Type} {enc : TypeId × Value → H} {W : World} {r : Reach} {b0 : Nat} {v : Value} {d : DataW H} {p : List MemPlace} (hv : Value.okWide Tryd.prog W r b0 46 v)
    (h : DataW.Trod enc Tryd.prog W 0 (fun _ => true) true 46 v d p) :
    ∃ (a : Nat) (n : Int), v = pfx a n ∧ a < 4294967296 ∧ -9223372036854775808 ≤ n ∧ n ≤ 9223372036854775807 := by
  obtain ⟨v0, v1, y0, y1, k, rfl, _, _, h0, h1⟩ := Go.Joins.open_agg2 Tryd.underlying46 (by kernel_rfl) (by kernel_rfl) hv h
  obtain ⟨z0, e0, _, w0⟩ := DataW.trod_int Tryd.underlying22 h0
  obtain ⟨z1, e1, _, w1⟩ := DataW.trod_int Tryd.underlying3 h1
  obtain rfl : v0 = _ := by simpa using e0
  obtain rfl : v1 = _ := by simpa using e1
  have c0 : 0 ≤ z0 ∧ z0 ≤ 4294967295 := by simpa [Lit.wf, IntKind.min, IntKind.max, IntKind.signed, IntKind.bits] using w0
  have c1 : -9223372036854775808 ≤ z1 ∧ z1 ≤ 9223372036854775807 := by simpa [Lit.wf, IntKind.min, IntKind.max, IntKind.signed, IntKind.bits] using w1
  obtain ⟨a, rfl⟩ := Int.eq_ofNat_of_zero_le c0.1
  exact ⟨a, z1, rfl, by omega, c1.1, c1.2⟩
end Go.Proofs.YtiibglkiakhfgaaDoor
