/-
  DERIVED. GIVEN WITH THE SEED: THE CARDS: each row of YtebccdinglohpaaDoorRows.lean that lists a variable, with what it lists TIED to the program's text (the seventh form; the later family's looks); each row that meets fmt, with fmt's text TOLD by the authors' own Lean function (tested against real Go, not proved from fmt's source: count such statements apart). THE CARD IS WHAT COUNTS. Prove the row's statement (the work); the ties are given (YtebccdinglohpaaDoorTie.lean); close each card by the builder's one call (the guide's Derived/Test/ToyasCard.lean, 'card_holds'). Laid BY PROGRAM, IN A SANDBOX (cutbox-door.mjs). By AI agents, Wed Nov 11 2026. No macro, syntax, notation, axiom, sorry.
-/
import Derived.Test.YtebccdinglohpaaDoorRows
import GoSem.ClaimSeven
namespace Go.Proofs.YtebccdinglohpaaDoor
namespace Rows

/-- THE TIED CARD OF 'confluencelaw19.ClistMore'. -/
def clistMoreCard : Claim7 := { stood := { row := clistMoreRow, standIns := [], harness := (true, "9edbd593599693488d63b6c1b370489a17573897be7632dac172f595aa9f313d"), looks := true }, kinds := [], alts := [], laidByText := true, laidKinds := [.data, .data, .data, .data, .sentinel, .sentinel, .pinned], laidTests := true, laidLooks := .later }
def ClistMoreCardSaid : Prop := Claim7.holds Tryd.pinned (.plain (OpenSpec.ofChange clistMoreSpec)) clistMoreCard

/-- THE TIED CARD OF 'confluencelaw17.PlistDead'. -/
def plistDeadCard : Claim7 := { stood := { row := plistDeadRow, standIns := [], harness := (true, "9edbd593599693488d63b6c1b370489a17573897be7632dac172f595aa9f313d"), looks := true }, kinds := [], alts := [], laidByText := true, laidKinds := [.data, .data, .data, .data, .sentinel, .sentinel, .pinned], laidTests := true, laidLooks := .later }
def PlistDeadCardSaid : Prop := Claim7.holds Tryd.pinned (.plain (OpenSpec.ofChange plistDeadSpec)) plistDeadCard

/-- THE SECOND FORM's CARD OF 'confluencelaw19.ClistMore'. -/
def clistMoreUptoCard : Claim7 := { stood := { row := clistMoreUptoRow, standIns := [], harness := (true, "9edbd593599693488d63b6c1b370489a17573897be7632dac172f595aa9f313d"), looks := true }, kinds := [], alts := [], laidByText := true, laidKinds := [.data, .data, .data, .data, .sentinel, .sentinel, .pinned], laidTests := true, laidLooks := .later }
def ClistMoreUptoCardSaid : Prop := Claim7.holds Tryd.pinned (.plain (OpenSpec.upto clistMoreSpec)) clistMoreUptoCard

/-- THE SECOND FORM's CARD OF 'confluencelaw17.PlistDead'. -/
def plistDeadUptoCard : Claim7 := { stood := { row := plistDeadUptoRow, standIns := [], harness := (true, "9edbd593599693488d63b6c1b370489a17573897be7632dac172f595aa9f313d"), looks := true }, kinds := [], alts := [], laidByText := true, laidKinds := [.data, .data, .data, .data, .sentinel, .sentinel, .pinned], laidTests := true, laidLooks := .later }
def PlistDeadUptoCardSaid : Prop := Claim7.holds Tryd.pinned (.plain (OpenSpec.upto plistDeadSpec)) plistDeadUptoCard
end Rows
end Go.Proofs.YtebccdinglohpaaDoor
