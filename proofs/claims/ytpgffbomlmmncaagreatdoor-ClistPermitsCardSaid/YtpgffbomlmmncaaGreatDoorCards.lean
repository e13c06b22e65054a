/-
  DERIVED. GIVEN WITH THE SEED: THE CARDS: each row of YtpgffbomlmmncaaGreatDoorRows.lean that lists a variable, with what it lists TIED to the program's text (the seventh form; the later family's looks); each row that meets fmt, with fmt's text TOLD by the authors' own Lean function (tested against real Go, not proved from fmt's source: count such statements apart). THE CARD IS WHAT COUNTS. Prove the row's statement (the work); the ties are given (YtpgffbomlmmncaaGreatDoorTie.lean); close each card by the builder's one call (the guide's Derived/Test/ToyasCard.lean, 'card_holds'). Laid BY PROGRAM, IN A SANDBOX (cutbox-door.mjs). By AI agents, Wed Nov 11 2026. No macro, syntax, notation, axiom, sorry.
-/
import Derived.Test.YtpgffbomlmmncaaGreatDoorRows
import GoSem.ClaimSeven
namespace Go.Proofs.YtpgffbomlmmncaaGreatDoor
namespace Rows

/-- THE TIED CARD OF 'confluencelaw19.ClistPermits'. -/
def clistPermitsCard : Claim7 := { stood := { row := clistPermitsRow, standIns := [], harness := (true, "506a0c3bd6b8ee0d60dafbd5bb19ff0e24b36bf85a254798e8dd2828ca51d988"), looks := true }, kinds := [], alts := [], laidByText := true, laidKinds := [.data, .data, .data, .data, .sentinel, .sentinel, .pinned], laidTests := true, laidLooks := .later }
def ClistPermitsCardSaid : Prop := Claim7.holds Tryz.pinned (.plain (OpenSpec.ofChange clistPermitsSpec)) clistPermitsCard

/-- THE TIED CARD OF 'confluencelaw40.ScriptHex'. -/
def scriptHexCard : Claim7 := { stood := { row := scriptHexRow, standIns := [], harness := (true, "506a0c3bd6b8ee0d60dafbd5bb19ff0e24b36bf85a254798e8dd2828ca51d988"), looks := true }, kinds := [], alts := [], laidByText := true, laidKinds := [.data, .data, .data, .data, .sentinel, .sentinel, .listed, .data, .pinned], laidTests := true, laidLooks := .later }
def ScriptHexCardSaid : Prop := Claim7.holds Tryz.pinned (.plain (OpenSpec.ofChange scriptHexSpec)) scriptHexCard

/-- THE SECOND FORM's CARD OF 'confluencelaw19.ClistPermits'. -/
def clistPermitsUptoCard : Claim7 := { stood := { row := clistPermitsUptoRow, standIns := [], harness := (true, "506a0c3bd6b8ee0d60dafbd5bb19ff0e24b36bf85a254798e8dd2828ca51d988"), looks := true }, kinds := [], alts := [], laidByText := true, laidKinds := [.data, .data, .data, .data, .sentinel, .sentinel, .pinned], laidTests := true, laidLooks := .later }
def ClistPermitsUptoCardSaid : Prop := Claim7.holds Tryz.pinned (.plain (OpenSpec.upto clistPermitsSpec)) clistPermitsUptoCard

/-- THE SECOND FORM's CARD OF 'confluencelaw40.ScriptHex'. -/
def scriptHexUptoCard : Claim7 := { stood := { row := scriptHexUptoRow, standIns := [], harness := (true, "506a0c3bd6b8ee0d60dafbd5bb19ff0e24b36bf85a254798e8dd2828ca51d988"), looks := true }, kinds := [], alts := [], laidByText := true, laidKinds := [.data, .data, .data, .data, .sentinel, .sentinel, .listed, .data, .pinned], laidTests := true, laidLooks := .later }
def ScriptHexUptoCardSaid : Prop := Claim7.holds Tryz.pinned (.plain (OpenSpec.upto scriptHexSpec)) scriptHexUptoCard
end Rows
end Go.Proofs.YtpgffbomlmmncaaGreatDoor
