/-
  DERIVED. GIVEN WITH THE SEED: THE CARDS: each row of YtplhnhoijficgaaGreatDoorRows.lean that lists a variable, with what it lists TIED to the program's text (the seventh form; the later family's looks); each row that meets fmt, with fmt's text TOLD by the authors' own Lean function (tested against real Go, not proved from fmt's source: count such statements apart). THE CARD IS WHAT COUNTS. Prove the row's statement (the work); the ties are given (YtplhnhoijficgaaGreatDoorTie.lean); close each card by the builder's one call (the guide's Derived/Test/ToyasCard.lean, 'card_holds'). Laid BY PROGRAM, IN A SANDBOX (cutbox-door.mjs). By AI agents, Wed Nov 11 2026. No macro, syntax, notation, axiom, sorry.
-/
import Derived.Test.YtplhnhoijficgaaGreatDoorRows
import GoSem.ClaimSeven
namespace Go.Proofs.YtplhnhoijficgaaGreatDoor
namespace Rows

/-- THE TIED CARD OF 'confluencelaw04.PathMakes'. -/
def pathMakesCard : Claim7 := { stood := { row := pathMakesRow, standIns := [], harness := (true, "74362b89b33b045ef71eacc530262cbabe70169a28b5b979f93085e1240e5ec0"), looks := true }, kinds := [], alts := [], laidByText := true, laidKinds := [.data, .data, .data, .data, .sentinel, .sentinel, .pinned], laidTests := true, laidLooks := .later }
def PathMakesCardSaid : Prop := Claim7.holds Tryz.pinned (.plain (OpenSpec.ofChange pathMakesSpec)) pathMakesCard

/-- THE SECOND FORM's CARD OF 'confluencelaw04.PathMakes'. -/
def pathMakesUptoCard : Claim7 := { stood := { row := pathMakesUptoRow, standIns := [], harness := (true, "74362b89b33b045ef71eacc530262cbabe70169a28b5b979f93085e1240e5ec0"), looks := true }, kinds := [], alts := [], laidByText := true, laidKinds := [.data, .data, .data, .data, .sentinel, .sentinel, .pinned], laidTests := true, laidLooks := .later }
def PathMakesUptoCardSaid : Prop := Claim7.holds Tryz.pinned (.plain (OpenSpec.upto pathMakesSpec)) pathMakesUptoCard
end Rows
end Go.Proofs.YtplhnhoijficgaaGreatDoor
