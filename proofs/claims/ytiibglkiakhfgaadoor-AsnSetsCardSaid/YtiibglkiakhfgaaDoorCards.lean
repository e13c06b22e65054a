/-
  DERIVED. GIVEN WITH THE SEED: THE CARDS: each row of YtiibglkiakhfgaaDoorRows.lean that lists a variable, with what it lists TIED to the program's text (the seventh form; the later family's looks); each row that meets fmt, with fmt's text TOLD by the authors' own Lean function (tested against real Go, not proved from fmt's source: count such statements apart). THE CARD IS WHAT COUNTS. Prove the row's statement (the work); the ties are given (YtiibglkiakhfgaaDoorTie.lean); close each card by the builder's one call (the guide's Derived/Test/ToyasCard.lean, 'card_holds'). Laid BY PROGRAM, IN A SANDBOX (cutbox-door.mjs). By AI agents, Wed Nov 11 2026. No macro, syntax, notation, axiom, sorry.
-/
import Derived.Test.YtiibglkiakhfgaaDoorRows
import GoSem.ClaimSeven
namespace Go.Proofs.YtiibglkiakhfgaaDoor
namespace Rows

/-- THE TIED CARD OF 'confluencelaw03.CommApart'. -/
def commApartCard : Claim7 := { stood := { row := commApartRow, standIns := [], harness := (true, "6e45f7c800f59b6975e945d391b21d3f5071c8e9dd6b902bdc296561574adf27"), looks := true }, kinds := [], alts := [], laidByText := true, laidKinds := [.data, .data, .data], laidTests := true, laidLooks := .later }
def CommApartCardSaid : Prop := Claim7.holds Tryd.pinned (.plain (OpenSpec.ofChange commApartSpec)) commApartCard

/-- THE TIED CARD OF 'confluencelaw03.CommParts'. -/
def commPartsCard : Claim7 := { stood := { row := commPartsRow, standIns := [], harness := (true, "6e45f7c800f59b6975e945d391b21d3f5071c8e9dd6b902bdc296561574adf27"), looks := true }, kinds := [], alts := [], laidByText := true, laidKinds := [.data, .data, .data], laidTests := true, laidLooks := .later }
def CommPartsCardSaid : Prop := Claim7.holds Tryd.pinned (.plain (OpenSpec.ofChange commPartsSpec)) commPartsCard

/-- THE TIED CARD OF 'confluencelaw16.LexLong'. -/
def lexLongCard : Claim7 := { stood := { row := lexLongRow, standIns := [], harness := (true, "6e45f7c800f59b6975e945d391b21d3f5071c8e9dd6b902bdc296561574adf27"), looks := true }, kinds := [], alts := [], laidByText := true, laidKinds := [.data, .pinned], laidTests := true, laidLooks := .later }
def LexLongCardSaid : Prop := Claim7.holds Tryd.pinned (.plain (OpenSpec.ofChange lexLongSpec)) lexLongCard

/-- THE TIED CARD OF 'confluencelaw01.PrefixMakes'. -/
def prefixMakesCard : Claim7 := { stood := { row := prefixMakesRow, standIns := [], harness := (true, "6e45f7c800f59b6975e945d391b21d3f5071c8e9dd6b902bdc296561574adf27"), looks := true }, kinds := [], alts := [], laidByText := true, laidKinds := [.data, .data, .data], laidTests := true, laidLooks := .later }
def PrefixMakesCardSaid : Prop := Claim7.holds Tryd.pinned (.plain (OpenSpec.ofChange prefixMakesSpec)) prefixMakesCard

/-- THE TIED CARD OF 'confluencelaw01.PrefixHalves'. -/
def prefixHalvesCard : Claim7 := { stood := { row := prefixHalvesRow, standIns := [], harness := (true, "6e45f7c800f59b6975e945d391b21d3f5071c8e9dd6b902bdc296561574adf27"), looks := true }, kinds := [], alts := [], laidByText := true, laidKinds := [.data, .data, .data], laidTests := true, laidLooks := .later }
def PrefixHalvesCardSaid : Prop := Claim7.holds Tryd.pinned (.plain (OpenSpec.ofChange prefixHalvesSpec)) prefixHalvesCard

/-- THE TIED CARD OF 'confluencelaw01.PrefixApart'. -/
def prefixApartCard : Claim7 := { stood := { row := prefixApartRow, standIns := [], harness := (true, "6e45f7c800f59b6975e945d391b21d3f5071c8e9dd6b902bdc296561574adf27"), looks := true }, kinds := [], alts := [], laidByText := true, laidKinds := [.data, .data, .data], laidTests := true, laidLooks := .later }
def PrefixApartCardSaid : Prop := Claim7.holds Tryd.pinned (.plain (OpenSpec.ofChange prefixApartSpec)) prefixApartCard

/-- THE TIED CARD OF 'confluencelaw16.LexLines'. -/
def lexLinesCard : Claim7 := { stood := { row := lexLinesRow, standIns := [], harness := (true, "6e45f7c800f59b6975e945d391b21d3f5071c8e9dd6b902bdc296561574adf27"), looks := true }, kinds := [], alts := [], laidByText := true, laidKinds := [.data, .pinned], laidTests := true, laidLooks := .later }
def LexLinesCardSaid : Prop := Claim7.holds Tryd.pinned (.plain (OpenSpec.ofChange lexLinesSpec)) lexLinesCard

/-- THE TIED CARD OF 'confluencelaw01.PrefixCovers'. -/
def prefixCoversCard : Claim7 := { stood := { row := prefixCoversRow, standIns := [], harness := (true, "6e45f7c800f59b6975e945d391b21d3f5071c8e9dd6b902bdc296561574adf27"), looks := true }, kinds := [], alts := [], laidByText := true, laidKinds := [.data, .data, .data], laidTests := true, laidLooks := .later }
def PrefixCoversCardSaid : Prop := Claim7.holds Tryd.pinned (.plain (OpenSpec.ofChange prefixCoversSpec)) prefixCoversCard

/-- THE TIED CARD OF 'confluencelaw03.CommTexts'. -/
def commTextsCard : Claim7 := { stood := { row := commTextsRow, standIns := [], harness := (true, "6e45f7c800f59b6975e945d391b21d3f5071c8e9dd6b902bdc296561574adf27"), looks := true }, kinds := [], alts := [], laidByText := true, laidKinds := [.data, .data, .data, .sentinel, .sentinel], laidTests := true, laidLooks := .later }
def CommTextsCardSaid : Prop := Claim7.holds Tryd.pinned (.plain (OpenSpec.ofChange commTextsSpec)) commTextsCard

/-- THE TIED CARD OF 'confluencelaw16.LexWords'. -/
def lexWordsCard : Claim7 := { stood := { row := lexWordsRow, standIns := [], harness := (true, "6e45f7c800f59b6975e945d391b21d3f5071c8e9dd6b902bdc296561574adf27"), looks := true }, kinds := [], alts := [], laidByText := true, laidKinds := [.data, .data, .data, .sentinel, .sentinel], laidTests := true, laidLooks := .later }
def LexWordsCardSaid : Prop := Claim7.holds Tryd.pinned (.plain (OpenSpec.ofChange lexWordsSpec)) lexWordsCard

/-- THE TIED CARD OF 'confluencelaw18.AlistMatches'. -/
def alistMatchesCard : Claim7 := { stood := { row := alistMatchesRow, standIns := [], harness := (true, "6e45f7c800f59b6975e945d391b21d3f5071c8e9dd6b902bdc296561574adf27"), looks := true }, kinds := [], alts := [], laidByText := true, laidKinds := [.data, .data, .data, .sentinel, .sentinel], laidTests := true, laidLooks := .later }
def AlistMatchesCardSaid : Prop := Claim7.holds Tryd.pinned (.plain (OpenSpec.ofChange alistMatchesSpec)) alistMatchesCard

/-- THE TIED CARD OF 'confluencelaw02.AsnTwo'. -/
def asnTwoCard : Claim7 := { stood := { row := asnTwoRow, standIns := [], harness := (true, "6e45f7c800f59b6975e945d391b21d3f5071c8e9dd6b902bdc296561574adf27"), looks := true }, kinds := [], alts := [], laidByText := true, laidKinds := [.data, .data, .data], laidTests := true, laidLooks := .later }
def AsnTwoCardSaid : Prop := Claim7.holds Tryd.pinned (.plain (OpenSpec.ofChange asnTwoSpec)) asnTwoCard

/-- THE TIED CARD OF 'confluencelaw03.CommAll'. -/
def commAllCard : Claim7 := { stood := { row := commAllRow, standIns := [], harness := (true, "6e45f7c800f59b6975e945d391b21d3f5071c8e9dd6b902bdc296561574adf27"), looks := true }, kinds := [], alts := [], laidByText := true, laidKinds := [.data, .data, .data, .data, .sentinel, .sentinel, .pinned], laidTests := true, laidLooks := .later }
def CommAllCardSaid : Prop := Claim7.holds Tryd.pinned (.plain (OpenSpec.ofChange commAllSpec)) commAllCard

/-- THE TIED CARD OF 'confluencelaw01.PrefixTexts'. -/
def prefixTextsCard : Claim7 := { stood := { row := prefixTextsRow, standIns := [], harness := (true, "6e45f7c800f59b6975e945d391b21d3f5071c8e9dd6b902bdc296561574adf27"), looks := true }, kinds := [], alts := [], laidByText := true, laidKinds := [.data, .data, .data, .data, .sentinel, .sentinel, .pinned], laidTests := true, laidLooks := .later }
def PrefixTextsCardSaid : Prop := Claim7.holds Tryd.pinned (.plain (OpenSpec.ofChange prefixTextsSpec)) prefixTextsCard

/-- THE TIED CARD OF 'confluencelaw02.AsnSets'. -/
def asnSetsCard : Claim7 := { stood := { row := asnSetsRow, standIns := [], harness := (true, "6e45f7c800f59b6975e945d391b21d3f5071c8e9dd6b902bdc296561574adf27"), looks := true }, kinds := [], alts := [], laidByText := true, laidKinds := [.data, .data, .data], laidTests := true, laidLooks := .later }
def AsnSetsCardSaid : Prop := Claim7.holds Tryd.pinned (.plain (OpenSpec.ofChange asnSetsSpec)) asnSetsCard

/-- THE SECOND FORM's CARD OF 'confluencelaw03.CommApart'. -/
def commApartUptoCard : Claim7 := { stood := { row := commApartUptoRow, standIns := [], harness := (true, "6e45f7c800f59b6975e945d391b21d3f5071c8e9dd6b902bdc296561574adf27"), looks := true }, kinds := [], alts := [], laidByText := true, laidKinds := [.data, .data, .data], laidTests := true, laidLooks := .later }
def CommApartUptoCardSaid : Prop := Claim7.holds Tryd.pinned (.plain (OpenSpec.upto commApartSpec)) commApartUptoCard

/-- THE SECOND FORM's CARD OF 'confluencelaw03.CommParts'. -/
def commPartsUptoCard : Claim7 := { stood := { row := commPartsUptoRow, standIns := [], harness := (true, "6e45f7c800f59b6975e945d391b21d3f5071c8e9dd6b902bdc296561574adf27"), looks := true }, kinds := [], alts := [], laidByText := true, laidKinds := [.data, .data, .data], laidTests := true, laidLooks := .later }
def CommPartsUptoCardSaid : Prop := Claim7.holds Tryd.pinned (.plain (OpenSpec.upto commPartsSpec)) commPartsUptoCard

/-- THE SECOND FORM's CARD OF 'confluencelaw16.LexLong'. -/
def lexLongUptoCard : Claim7 := { stood := { row := lexLongUptoRow, standIns := [], harness := (true, "6e45f7c800f59b6975e945d391b21d3f5071c8e9dd6b902bdc296561574adf27"), looks := true }, kinds := [], alts := [], laidByText := true, laidKinds := [.data, .pinned], laidTests := true, laidLooks := .later }
def LexLongUptoCardSaid : Prop := Claim7.holds Tryd.pinned (.plain (OpenSpec.upto lexLongSpec)) lexLongUptoCard

/-- THE SECOND FORM's CARD OF 'confluencelaw01.PrefixMakes'. -/
def prefixMakesUptoCard : Claim7 := { stood := { row := prefixMakesUptoRow, standIns := [], harness := (true, "6e45f7c800f59b6975e945d391b21d3f5071c8e9dd6b902bdc296561574adf27"), looks := true }, kinds := [], alts := [], laidByText := true, laidKinds := [.data, .data, .data], laidTests := true, laidLooks := .later }
def PrefixMakesUptoCardSaid : Prop := Claim7.holds Tryd.pinned (.plain (OpenSpec.upto prefixMakesSpec)) prefixMakesUptoCard

/-- THE SECOND FORM's CARD OF 'confluencelaw01.PrefixHalves'. -/
def prefixHalvesUptoCard : Claim7 := { stood := { row := prefixHalvesUptoRow, standIns := [], harness := (true, "6e45f7c800f59b6975e945d391b21d3f5071c8e9dd6b902bdc296561574adf27"), looks := true }, kinds := [], alts := [], laidByText := true, laidKinds := [.data, .data, .data], laidTests := true, laidLooks := .later }
def PrefixHalvesUptoCardSaid : Prop := Claim7.holds Tryd.pinned (.plain (OpenSpec.upto prefixHalvesSpec)) prefixHalvesUptoCard

/-- THE SECOND FORM's CARD OF 'confluencelaw01.PrefixApart'. -/
def prefixApartUptoCard : Claim7 := { stood := { row := prefixApartUptoRow, standIns := [], harness := (true, "6e45f7c800f59b6975e945d391b21d3f5071c8e9dd6b902bdc296561574adf27"), looks := true }, kinds := [], alts := [], laidByText := true, laidKinds := [.data, .data, .data], laidTests := true, laidLooks := .later }
def PrefixApartUptoCardSaid : Prop := Claim7.holds Tryd.pinned (.plain (OpenSpec.upto prefixApartSpec)) prefixApartUptoCard

/-- THE SECOND FORM's CARD OF 'confluencelaw16.LexLines'. -/
def lexLinesUptoCard : Claim7 := { stood := { row := lexLinesUptoRow, standIns := [], harness := (true, "6e45f7c800f59b6975e945d391b21d3f5071c8e9dd6b902bdc296561574adf27"), looks := true }, kinds := [], alts := [], laidByText := true, laidKinds := [.data, .pinned], laidTests := true, laidLooks := .later }
def LexLinesUptoCardSaid : Prop := Claim7.holds Tryd.pinned (.plain (OpenSpec.upto lexLinesSpec)) lexLinesUptoCard

/-- THE SECOND FORM's CARD OF 'confluencelaw01.PrefixCovers'. -/
def prefixCoversUptoCard : Claim7 := { stood := { row := prefixCoversUptoRow, standIns := [], harness := (true, "6e45f7c800f59b6975e945d391b21d3f5071c8e9dd6b902bdc296561574adf27"), looks := true }, kinds := [], alts := [], laidByText := true, laidKinds := [.data, .data, .data], laidTests := true, laidLooks := .later }
def PrefixCoversUptoCardSaid : Prop := Claim7.holds Tryd.pinned (.plain (OpenSpec.upto prefixCoversSpec)) prefixCoversUptoCard

/-- THE SECOND FORM's CARD OF 'confluencelaw03.CommTexts'. -/
def commTextsUptoCard : Claim7 := { stood := { row := commTextsUptoRow, standIns := [], harness := (true, "6e45f7c800f59b6975e945d391b21d3f5071c8e9dd6b902bdc296561574adf27"), looks := true }, kinds := [], alts := [], laidByText := true, laidKinds := [.data, .data, .data, .sentinel, .sentinel], laidTests := true, laidLooks := .later }
def CommTextsUptoCardSaid : Prop := Claim7.holds Tryd.pinned (.plain (OpenSpec.upto commTextsSpec)) commTextsUptoCard

/-- THE SECOND FORM's CARD OF 'confluencelaw16.LexWords'. -/
def lexWordsUptoCard : Claim7 := { stood := { row := lexWordsUptoRow, standIns := [], harness := (true, "6e45f7c800f59b6975e945d391b21d3f5071c8e9dd6b902bdc296561574adf27"), looks := true }, kinds := [], alts := [], laidByText := true, laidKinds := [.data, .data, .data, .sentinel, .sentinel], laidTests := true, laidLooks := .later }
def LexWordsUptoCardSaid : Prop := Claim7.holds Tryd.pinned (.plain (OpenSpec.upto lexWordsSpec)) lexWordsUptoCard

/-- THE SECOND FORM's CARD OF 'confluencelaw18.AlistMatches'. -/
def alistMatchesUptoCard : Claim7 := { stood := { row := alistMatchesUptoRow, standIns := [], harness := (true, "6e45f7c800f59b6975e945d391b21d3f5071c8e9dd6b902bdc296561574adf27"), looks := true }, kinds := [], alts := [], laidByText := true, laidKinds := [.data, .data, .data, .sentinel, .sentinel], laidTests := true, laidLooks := .later }
def AlistMatchesUptoCardSaid : Prop := Claim7.holds Tryd.pinned (.plain (OpenSpec.upto alistMatchesSpec)) alistMatchesUptoCard

/-- THE SECOND FORM's CARD OF 'confluencelaw02.AsnTwo'. -/
def asnTwoUptoCard : Claim7 := { stood := { row := asnTwoUptoRow, standIns := [], harness := (true, "6e45f7c800f59b6975e945d391b21d3f5071c8e9dd6b902bdc296561574adf27"), looks := true }, kinds := [], alts := [], laidByText := true, laidKinds := [.data, .data, .data], laidTests := true, laidLooks := .later }
def AsnTwoUptoCardSaid : Prop := Claim7.holds Tryd.pinned (.plain (OpenSpec.upto asnTwoSpec)) asnTwoUptoCard

/-- THE SECOND FORM's CARD OF 'confluencelaw03.CommAll'. -/
def commAllUptoCard : Claim7 := { stood := { row := commAllUptoRow, standIns := [], harness := (true, "6e45f7c800f59b6975e945d391b21d3f5071c8e9dd6b902bdc296561574adf27"), looks := true }, kinds := [], alts := [], laidByText := true, laidKinds := [.data, .data, .data, .data, .sentinel, .sentinel, .pinned], laidTests := true, laidLooks := .later }
def CommAllUptoCardSaid : Prop := Claim7.holds Tryd.pinned (.plain (OpenSpec.upto commAllSpec)) commAllUptoCard

/-- THE SECOND FORM's CARD OF 'confluencelaw01.PrefixTexts'. -/
def prefixTextsUptoCard : Claim7 := { stood := { row := prefixTextsUptoRow, standIns := [], harness := (true, "6e45f7c800f59b6975e945d391b21d3f5071c8e9dd6b902bdc296561574adf27"), looks := true }, kinds := [], alts := [], laidByText := true, laidKinds := [.data, .data, .data, .data, .sentinel, .sentinel, .pinned], laidTests := true, laidLooks := .later }
def PrefixTextsUptoCardSaid : Prop := Claim7.holds Tryd.pinned (.plain (OpenSpec.upto prefixTextsSpec)) prefixTextsUptoCard

/-- THE SECOND FORM's CARD OF 'confluencelaw02.AsnSets'. -/
def asnSetsUptoCard : Claim7 := { stood := { row := asnSetsUptoRow, standIns := [], harness := (true, "6e45f7c800f59b6975e945d391b21d3f5071c8e9dd6b902bdc296561574adf27"), looks := true }, kinds := [], alts := [], laidByText := true, laidKinds := [.data, .data, .data], laidTests := true, laidLooks := .later }
def AsnSetsUptoCardSaid : Prop := Claim7.holds Tryd.pinned (.plain (OpenSpec.upto asnSetsSpec)) asnSetsUptoCard
end Rows
end Go.Proofs.YtiibglkiakhfgaaDoor
