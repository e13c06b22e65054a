/-
  DERIVED. GIVEN WITH THE SEED: THE CARDS: each row of YtdjgenlhcjgafaaDoorRows.lean that lists a variable, with what it lists TIED to the program's text (the seventh form; the later family's looks); each row that meets fmt, with fmt's text TOLD by the authors' own Lean function (tested against real Go, not proved from fmt's source: count such statements apart). THE CARD IS WHAT COUNTS. Prove the row's statement (the work); the ties are given (YtdjgenlhcjgafaaDoorTie.lean); close each card by the builder's one call (the guide's Derived/Test/ToyasCard.lean, 'card_holds'). Laid BY PROGRAM, IN A SANDBOX (cutbox-door.mjs). By AI agents, Wed Nov 11 2026. No macro, syntax, notation, axiom, sorry.
-/
import Derived.Test.YtdjgenlhcjgafaaDoorRows
import GoSem.ClaimSeven
namespace Go.Proofs.YtdjgenlhcjgafaaDoor
namespace Rows

/-- THE TIED CARD OF 'confluencelaw19.ClistMore'. -/
def clistMoreCard : Claim7 := { stood := { row := clistMoreRow, standIns := [], harness := (true, "f077fa1ac89151d41fddd7a93600537e110fd7e4f0f74c13ef317e8620104071"), looks := true }, kinds := [], alts := [], laidByText := true, laidKinds := [.data, .data, .data, .data, .sentinel, .sentinel, .pinned], laidTests := true, laidLooks := .later }
def ClistMoreCardSaid : Prop := Claim7.holds Tryd.pinned (.plain (OpenSpec.ofChange clistMoreSpec)) clistMoreCard

/-- THE TIED CARD OF 'confluencelaw17.PlistDead'. -/
def plistDeadCard : Claim7 := { stood := { row := plistDeadRow, standIns := [], harness := (true, "f077fa1ac89151d41fddd7a93600537e110fd7e4f0f74c13ef317e8620104071"), looks := true }, kinds := [], alts := [], laidByText := true, laidKinds := [.data, .data, .data, .data, .sentinel, .sentinel, .pinned], laidTests := true, laidLooks := .later }
def PlistDeadCardSaid : Prop := Claim7.holds Tryd.pinned (.plain (OpenSpec.ofChange plistDeadSpec)) plistDeadCard

/-- THE TIED CARD OF 'confluencelaw02.AsnTexts'. -/
def asnTextsCard : Claim7 := { stood := { row := asnTextsRow, standIns := [], harness := (true, "f077fa1ac89151d41fddd7a93600537e110fd7e4f0f74c13ef317e8620104071"), looks := true }, kinds := [], alts := [], laidByText := true, laidKinds := [.data, .data, .data, .data, .sentinel, .sentinel, .pinned], laidTests := true, laidLooks := .later }
def AsnTextsCardSaid : Prop := Claim7.holds Tryd.pinned (.plain (OpenSpec.ofChange asnTextsSpec)) asnTextsCard

/-- THE TIED CARD OF 'confluencelaw40.ScriptLong'. -/
def scriptLongCard : Claim7 := { stood := { row := scriptLongRow, standIns := [], harness := (true, "f077fa1ac89151d41fddd7a93600537e110fd7e4f0f74c13ef317e8620104071"), looks := true }, kinds := [], alts := [], laidByText := true, laidKinds := [.data, .data, .data, .data, .sentinel, .sentinel, .listed, .data, .pinned], laidTests := true, laidLooks := .later }
def ScriptLongCardSaid : Prop := Claim7.holds Tryd.pinned (.plain (OpenSpec.ofChange scriptLongSpec)) scriptLongCard

/-- THE SECOND FORM's CARD OF 'confluencelaw19.ClistMore'. -/
def clistMoreUptoCard : Claim7 := { stood := { row := clistMoreUptoRow, standIns := [], harness := (true, "f077fa1ac89151d41fddd7a93600537e110fd7e4f0f74c13ef317e8620104071"), looks := true }, kinds := [], alts := [], laidByText := true, laidKinds := [.data, .data, .data, .data, .sentinel, .sentinel, .pinned], laidTests := true, laidLooks := .later }
def ClistMoreUptoCardSaid : Prop := Claim7.holds Tryd.pinned (.plain (OpenSpec.upto clistMoreSpec)) clistMoreUptoCard

/-- THE SECOND FORM's CARD OF 'confluencelaw17.PlistDead'. -/
def plistDeadUptoCard : Claim7 := { stood := { row := plistDeadUptoRow, standIns := [], harness := (true, "f077fa1ac89151d41fddd7a93600537e110fd7e4f0f74c13ef317e8620104071"), looks := true }, kinds := [], alts := [], laidByText := true, laidKinds := [.data, .data, .data, .data, .sentinel, .sentinel, .pinned], laidTests := true, laidLooks := .later }
def PlistDeadUptoCardSaid : Prop := Claim7.holds Tryd.pinned (.plain (OpenSpec.upto plistDeadSpec)) plistDeadUptoCard

/-- THE SECOND FORM's CARD OF 'confluencelaw02.AsnTexts'. -/
def asnTextsUptoCard : Claim7 := { stood := { row := asnTextsUptoRow, standIns := [], harness := (true, "f077fa1ac89151d41fddd7a93600537e110fd7e4f0f74c13ef317e8620104071"), looks := true }, kinds := [], alts := [], laidByText := true, laidKinds := [.data, .data, .data, .data, .sentinel, .sentinel, .pinned], laidTests := true, laidLooks := .later }
def AsnTextsUptoCardSaid : Prop := Claim7.holds Tryd.pinned (.plain (OpenSpec.upto asnTextsSpec)) asnTextsUptoCard

/-- THE SECOND FORM's CARD OF 'confluencelaw40.ScriptLong'. -/
def scriptLongUptoCard : Claim7 := { stood := { row := scriptLongUptoRow, standIns := [], harness := (true, "f077fa1ac89151d41fddd7a93600537e110fd7e4f0f74c13ef317e8620104071"), looks := true }, kinds := [], alts := [], laidByText := true, laidKinds := [.data, .data, .data, .data, .sentinel, .sentinel, .listed, .data, .pinned], laidTests := true, laidLooks := .later }
def ScriptLongUptoCardSaid : Prop := Claim7.holds Tryd.pinned (.plain (OpenSpec.upto scriptLongSpec)) scriptLongUptoCard
end Rows
end Go.Proofs.YtdjgenlhcjgafaaDoor
