/-
  REGIONS THAT DRAW THEIR ORDER AND HOLD CALLS THAT MAKE MEMORY: one walk in the order of the text. The kit's theorem on quiet regions (Deep/Quiet) is stated over any class of worlds: here the class is 'the world at hand, its heap gone on, drawn as may be': what 'Below' says of a call.
-/
import Derived.Test.YtiibglkiakhfgaaDoorKit
import Derived.Deep.Quiet
import Derived.BigQuiet
namespace Go.Proofs.YtiibglkiakhfgaaDoor
open Go.RowKit

/-- The world gone on: new blocks behind the heap, the draws counted on. -/
def far (W x : World) : World := { W with heap := W.heap ++ x.heap, drawn := x.drawn }
theorem below_far (W : World) (x : World) : Below W.heap.size W (far W x) :=
  ⟨rfl, rfl, rfl, by simp [far], fun k hk => by simp [far, Array.getElem?_append, hk]⟩
theorem far_of_below {W w' : World} (h : Below W.heap.size W w') : ∃ x, w' = far W x := by
  refine ⟨{ w' with heap := w'.heap.extract W.heap.size w'.heap.size }, ?_⟩
  obtain ⟨h1, h2, h3, h4, h5⟩ := h
  have e : w'.heap = W.heap ++ w'.heap.extract W.heap.size w'.heap.size := by
    apply Array.ext_getElem?
    intro i
    by_cases hi : i < W.heap.size
    · rw [Array.getElem?_append_left hi]; exact h5 i hi
    · rw [Array.getElem?_append_right (by omega), Array.getElem?_extract]
      by_cases hi2 : i < w'.heap.size
      · rw [if_pos (by omega)]; congr 1; omega
      · rw [if_neg (by omega), Array.getElem?_eq_none (by omega)]
  obtain ⟨heap, tape, drawn, os, output⟩ := w'
  simp only at h1 h2 h3 e
  unfold far
  simp only [← e, h1, h2, h3]
theorem far_below {W w' : World} {x : World} (h : Below (far W x).heap.size (far W x) w') : ∃ y, w' = far W y :=
  far_of_below ((below_far W x).trans (h.mono (by simp [far])))
theorem cell?_far {W : World} (x : World) {p : Addr} {v : Value} (h : W.cell? p = some v) : (far W x).cell? p = some v :=
  ((below_far W x).cell (World.block_lt_of_cell? W p h)).trans h

/-- A callee's contract, met in the world gone on. -/
theorem far_call {P : Program} {f : FuncId} {args : Array Value} {W : World} {x : World} {v : Value} (h : Calls P f args (far W x) fun e w' => e = .returned v ∧ Below (far W x).heap.size (far W x) w') :
    Calls P f args (far W x) fun e w'' => e = .returned v ∧ ∃ y, w'' = far W y := h.mono fun _ _ ⟨he, hb⟩ => ⟨he, far_below hb⟩
theorem far_same {P : Program} {f : FuncId} {args : Array Value} {W : World} {x : World} {v : Value} (h : Calls P f args (far W x) fun e w' => e = .returned v ∧ far W x = w') :
    Calls P f args (far W x) fun e w'' => e = .returned v ∧ ∃ y, w'' = far W y := h.mono fun _ _ ⟨he, hb⟩ => ⟨he, x, hb.symm⟩

theorem wp_region_far {P : Program} {id : Nat} {Q : Exit → Act → World → Prop} {a : Act} {W : World} {l : List Oper} (hm : P.follows .mixedOrders = true) (hB : Region.lexB .any l.toArray = true)
    (h : wpQuiet P l.toArray (fun w' => ∃ x, w' = far W x) (fun a' => ∀ w', (∃ x, w' = far W x) → Q .normal a' w') l a) : (Code.region id l.toArray true).wp P Q a W :=
  wp_region_quiet (C := fun w' => ∃ x, w' = far W x) hm hB ⟨{ W with heap := #[], drawn := W.drawn + 1 }, by simp [far]⟩ (by simpa using h)
end Go.Proofs.YtiibglkiakhfgaaDoor
