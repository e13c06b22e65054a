/-
  DERIVED. GIVEN WITH THE SEED: THE CARDS: each row of YtebccdinglohpaaGreatDoorRows.lean that lists a variable, with what it lists TIED to the program's text (the seventh form; the later family's looks); each row that meets fmt, with fmt's text TOLD by the authors' own Lean function (tested against real Go, not proved from fmt's source: count such statements apart). THE CARD IS WHAT COUNTS. Prove the row's statement (the work); the ties are given (YtebccdinglohpaaGreatDoorTie.lean); close each card by the builder's one call (the guide's Derived/Test/ToyasCard.lean, 'card_holds'). Laid BY PROGRAM, IN A SANDBOX (cutbox-door.mjs). By AI agents, Wed Nov 11 2026. No macro, syntax, notation, axiom, sorry.
-/
import Derived.Test.YtebccdinglohpaaGreatDoorRows
import GoSem.ClaimSeven
namespace Go.Proofs.YtebccdinglohpaaGreatDoor
namespace Rows

/-- THE TIED CARD OF 'confluencelaw19.ClistPermits'. -/
def clistPermitsCard : Claim7 := { stood := { row := clistPermitsRow, standIns := [], harness := (true, "486ff938f76ad6c7b5a7bba086006d38df683df32183c6e416f5870886ae0517"), looks := true }, kinds := [], alts := [], laidByText := true, laidKinds := [.data, .data, .data, .data, .sentinel, .sentinel, .pinned], laidTests := true, laidLooks := .later }
def ClistPermitsCardSaid : Prop := Claim7.holds Tryz.pinned (.plain (OpenSpec.ofChange clistPermitsSpec)) clistPermitsCard

/-- THE TIED CARD OF 'confluencelaw17.PlistPermits'. -/
def plistPermitsCard : Claim7 := { stood := { row := plistPermitsRow, standIns := [], harness := (true, "486ff938f76ad6c7b5a7bba086006d38df683df32183c6e416f5870886ae0517"), looks := true }, kinds := [], alts := [], laidByText := true, laidKinds := [.data, .data, .data, .data, .sentinel, .sentinel, .pinned], laidTests := true, laidLooks := .later }
def PlistPermitsCardSaid : Prop := Claim7.holds Tryz.pinned (.plain (OpenSpec.ofChange plistPermitsSpec)) plistPermitsCard

/-- THE SECOND FORM's CARD OF 'confluencelaw19.ClistPermits'. -/
def clistPermitsUptoCard : Claim7 := { stood := { row := clistPermitsUptoRow, standIns := [], harness := (true, "486ff938f76ad6c7b5a7bba086006d38df683df32183c6e416f5870886ae0517"), looks := true }, kinds := [], alts := [], laidByText := true, laidKinds := [.data, .data, .data, .data, .sentinel, .sentinel, .pinned], laidTests := true, laidLooks := .later }
def ClistPermitsUptoCardSaid : Prop := Claim7.holds Tryz.pinned (.plain (OpenSpec.upto clistPermitsSpec)) clistPermitsUptoCard

/-- THE SECOND FORM's CARD OF 'confluencelaw17.PlistPermits'. -/
def plistPermitsUptoCard : Claim7 := { stood := { row := plistPermitsUptoRow, standIns := [], harness := (true, "486ff938f76ad6c7b5a7bba086006d38df683df32183c6e416f5870886ae0517"), looks := true }, kinds := [], alts := [], laidByText := true, laidKinds := [.data, .data, .data, .data, .sentinel, .sentinel, .pinned], laidTests := true, laidLooks := .later }
def PlistPermitsUptoCardSaid : Prop := Claim7.holds Tryz.pinned (.plain (OpenSpec.upto plistPermitsSpec)) plistPermitsUptoCard
end Rows
end Go.Proofs.YtebccdinglohpaaGreatDoor
