/-
  NARROWER THAN 'FOR EVERY INPUT', by the rows' own cells (each row's printed sentence says how): CommApart: laid · CommParts: laid · LexLong: laid · PrefixMakes: laid · PrefixHalves: laid · PrefixApart: laid · LexLines: laid · PrefixCovers: laid · CommTexts: laid · LexWords: laid · AlistMatches: laid · AsnTwo: laid · CommAll: laid · PrefixTexts: laid · AsnSets: laid.
  DERIVED. THE GIVEN ROWS OF THIS SEAT. 15 by the template 'for every input the law returns true; each argument reads behind the call as it read before'; 0 by the template 'total and deterministic' (their statements: YtiibglkiakhfgaaDoorTotals.lean).
  GIVEN WITH THE SEED: the statements are not yours to turn. If you find one false, say at which input.
  Laid BY PROGRAM, IN A SANDBOX (cutbox-rows.mjs): the forced cells as the released guide's own fill.sh prints them over the translation 889179cbdef0a7e1… (all of the seat's roots in one cut). By AI agents, Wed Nov 11 2026. No macro, syntax, notation, axiom, sorry.
-/
import Derived.Test.YtiibglkiakhfgaaDoorChecked
import GoSem.PinnedTables
import GoSem.Claim
import GoSem.ClaimJoined
import GoSem.ClaimMapViews
import Derived.JoinedTies
import Derived.KernelRfl
namespace Go.Proofs.YtiibglkiakhfgaaDoor
/- THE CELL 'sum', in the pinned program and in every row, IS THE sha256 OF THE DUMP (.gsa) THAT YtiibglkiakhfgaaDoorProg.lean LOADS. Nothing in Lean hashes anything: it is a label: what it is worth is what the hold of that sum in a sandbox is worth. -/
noncomputable def Tryd.pinned : Pinned := { name := "ytiibglkiakhfgaadoor", sum := "889179cbdef0a7e1e9fc9cde4a7394d9ce7c53d092b328a3ee2eea0f138b4e25", checked := Tryd.checked }
namespace Rows
def none {H : Type} : Left H := { results := [], args := [] }

/- WHAT THE LISTED PACKAGE-LEVEL VARIABLES READ AS WHEN THE CALL BEGINS. Each datum BY PROGRAM (the guide's laid-datum.mjs) off the statement by which the dump's own 'gosem.cut.vars' lays the variable. In a bare row this is a premise. The card (YtiibglkiakhfgaaDoorCards.lean) ties it to the program's text. -/
def laid_math_bits_deBruijn32tab {H : Type} : DataW H := .agg [.lit (.int .u8 0), .lit (.int .u8 1), .lit (.int .u8 28), .lit (.int .u8 2), .lit (.int .u8 29), .lit (.int .u8 14), .lit (.int .u8 24), .lit (.int .u8 3), .lit (.int .u8 30), .lit (.int .u8 22), .lit (.int .u8 20), .lit (.int .u8 15), .lit (.int .u8 25), .lit (.int .u8 17), .lit (.int .u8 4), .lit (.int .u8 8), .lit (.int .u8 31), .lit (.int .u8 27), .lit (.int .u8 13), .lit (.int .u8 23), .lit (.int .u8 21), .lit (.int .u8 19), .lit (.int .u8 16), .lit (.int .u8 7), .lit (.int .u8 26), .lit (.int .u8 12), .lit (.int .u8 18), .lit (.int .u8 6), .lit (.int .u8 11), .lit (.int .u8 5), .lit (.int .u8 10), .lit (.int .u8 9)]
def laid_math_bits_deBruijn64tab {H : Type} : DataW H := .agg [.lit (.int .u8 0), .lit (.int .u8 1), .lit (.int .u8 56), .lit (.int .u8 2), .lit (.int .u8 57), .lit (.int .u8 49), .lit (.int .u8 28), .lit (.int .u8 3), .lit (.int .u8 61), .lit (.int .u8 58), .lit (.int .u8 42), .lit (.int .u8 50), .lit (.int .u8 38), .lit (.int .u8 29), .lit (.int .u8 17), .lit (.int .u8 4), .lit (.int .u8 62), .lit (.int .u8 47), .lit (.int .u8 59), .lit (.int .u8 36), .lit (.int .u8 45), .lit (.int .u8 43), .lit (.int .u8 51), .lit (.int .u8 22), .lit (.int .u8 53), .lit (.int .u8 39), .lit (.int .u8 33), .lit (.int .u8 30), .lit (.int .u8 24), .lit (.int .u8 18), .lit (.int .u8 12), .lit (.int .u8 5), .lit (.int .u8 63), .lit (.int .u8 55), .lit (.int .u8 48), .lit (.int .u8 27), .lit (.int .u8 60), .lit (.int .u8 41), .lit (.int .u8 37), .lit (.int .u8 16), .lit (.int .u8 46), .lit (.int .u8 35), .lit (.int .u8 44), .lit (.int .u8 21), .lit (.int .u8 52), .lit (.int .u8 32), .lit (.int .u8 23), .lit (.int .u8 11), .lit (.int .u8 54), .lit (.int .u8 26), .lit (.int .u8 40), .lit (.int .u8 15), .lit (.int .u8 34), .lit (.int .u8 20), .lit (.int .u8 31), .lit (.int .u8 10), .lit (.int .u8 25), .lit (.int .u8 14), .lit (.int .u8 19), .lit (.int .u8 9), .lit (.int .u8 13), .lit (.int .u8 8), .lit (.int .u8 7), .lit (.int .u8 6)]
def laid_internal_strconv_uint64pow10 {H : Type} : DataW H := .agg [.lit (.int .u64 1), .lit (.int .u64 10), .lit (.int .u64 100), .lit (.int .u64 1000), .lit (.int .u64 10000), .lit (.int .u64 100000), .lit (.int .u64 1000000), .lit (.int .u64 10000000), .lit (.int .u64 100000000), .lit (.int .u64 1000000000), .lit (.int .u64 10000000000), .lit (.int .u64 100000000000), .lit (.int .u64 1000000000000), .lit (.int .u64 10000000000000), .lit (.int .u64 100000000000000), .lit (.int .u64 1000000000000000), .lit (.int .u64 10000000000000000), .lit (.int .u64 100000000000000000), .lit (.int .u64 1000000000000000000), .lit (.int .u64 10000000000000000000)]
def laid_unicode_utf8_acceptRanges {H : Type} : DataW H := .agg [.agg [.lit (.int .u8 128), .lit (.int .u8 191)], .agg [.lit (.int .u8 160), .lit (.int .u8 191)], .agg [.lit (.int .u8 128), .lit (.int .u8 159)], .agg [.lit (.int .u8 144), .lit (.int .u8 191)], .agg [.lit (.int .u8 128), .lit (.int .u8 143)], .agg [.lit (.int .u8 0), .lit (.int .u8 0)], .agg [.lit (.int .u8 0), .lit (.int .u8 0)], .agg [.lit (.int .u8 0), .lit (.int .u8 0)], .agg [.lit (.int .u8 0), .lit (.int .u8 0)], .agg [.lit (.int .u8 0), .lit (.int .u8 0)], .agg [.lit (.int .u8 0), .lit (.int .u8 0)], .agg [.lit (.int .u8 0), .lit (.int .u8 0)], .agg [.lit (.int .u8 0), .lit (.int .u8 0)], .agg [.lit (.int .u8 0), .lit (.int .u8 0)], .agg [.lit (.int .u8 0), .lit (.int .u8 0)], .agg [.lit (.int .u8 0), .lit (.int .u8 0)]]
/-- One of Go's own tables, pinned by name: the form's constant. -/
def laid_unicode_utf8_first : DataW Unit := Go.Pinned.utf8First
def laid_strconv_ErrRange {H : Type} : DataW H := .iface "*errors.errorString" (.ptr (.agg [.lit (.string [118, 97, 108, 117, 101, 32, 111, 117, 116, 32, 111, 102, 32, 114, 97, 110, 103, 101])]))
def laid_strconv_ErrSyntax {H : Type} : DataW H := .iface "*errors.errorString" (.ptr (.agg [.lit (.string [105, 110, 118, 97, 108, 105, 100, 32, 115, 121, 110, 116, 97, 120])]))

/-- 'confluencelaw03.CommApart': WHATEVER THE INPUT: true; the input reads as it did. -/
def commApartSpec : ChangeSpec := { name := "commApart", fn := fun _ => fun
  | [d1, d2] => { results := [.lit (.bool true)], args := [d1, d2] }
  | _ => none }
def commApartRow : OpenClaim := { program := "ytiibglkiakhfgaadoor", sum := "889179cbdef0a7e1e9fc9cde4a7394d9ce7c53d092b328a3ee2eea0f138b4e25", func := "confluence/confluencelaw03.CommApart", spec := "commApart", named := ["internal/strconv.uint64pow10", "math/bits.deBruijn32tab", "math/bits.deBruijn64tab"], apart := false, laid := [("math/bits.deBruijn32tab", laid_math_bits_deBruijn32tab), ("math/bits.deBruijn64tab", laid_math_bits_deBruijn64tab), ("internal/strconv.uint64pow10", laid_internal_strconv_uint64pow10)] }
def CommApartSaid : Prop := commApartRow.holds Tryd.pinned (OpenSpec.ofChange commApartSpec)

/-- ITS FALSE NEIGHBOUR: 'it returns false'. Refute it at one input. -/
def commApartWrong : ChangeSpec := { name := "commApart", fn := fun _ => fun
  | [d1, d2] => { results := [.lit (.bool false)], args := [d1, d2] }
  | _ => none }
def CommApartWrongFalsely : Prop := commApartRow.holds Tryd.pinned (OpenSpec.ofChange commApartWrong)

/-- 'confluencelaw03.CommParts': WHATEVER THE INPUT: true; the input reads as it did. -/
def commPartsSpec : ChangeSpec := { name := "commParts", fn := fun _ => fun
  | [d1, d2, d3] => { results := [.lit (.bool true)], args := [d1, d2, d3] }
  | _ => none }
def commPartsRow : OpenClaim := { program := "ytiibglkiakhfgaadoor", sum := "889179cbdef0a7e1e9fc9cde4a7394d9ce7c53d092b328a3ee2eea0f138b4e25", func := "confluence/confluencelaw03.CommParts", spec := "commParts", named := ["internal/strconv.uint64pow10", "math/bits.deBruijn32tab", "math/bits.deBruijn64tab"], apart := false, laid := [("math/bits.deBruijn32tab", laid_math_bits_deBruijn32tab), ("math/bits.deBruijn64tab", laid_math_bits_deBruijn64tab), ("internal/strconv.uint64pow10", laid_internal_strconv_uint64pow10)] }
def CommPartsSaid : Prop := commPartsRow.holds Tryd.pinned (OpenSpec.ofChange commPartsSpec)

/-- ITS FALSE NEIGHBOUR: 'it returns false'. Refute it at one input. -/
def commPartsWrong : ChangeSpec := { name := "commParts", fn := fun _ => fun
  | [d1, d2, d3] => { results := [.lit (.bool false)], args := [d1, d2, d3] }
  | _ => none }
def CommPartsWrongFalsely : Prop := commPartsRow.holds Tryd.pinned (OpenSpec.ofChange commPartsWrong)

/-- 'confluencelaw16.LexLong': WHATEVER THE INPUT: true; the input reads as it did. -/
def lexLongSpec : ChangeSpec := { name := "lexLong", fn := fun _ => fun
  | [d] => { results := [.lit (.bool true)], args := [d] }
  | _ => none }
def lexLongRow : OpenClaim := { program := "ytiibglkiakhfgaadoor", sum := "889179cbdef0a7e1e9fc9cde4a7394d9ce7c53d092b328a3ee2eea0f138b4e25", func := "confluence/confluencelaw16.LexLong", spec := "lexLong", inPlace := ["internal/bytealg.CountString", "internal/bytealg.IndexByteString", "internal/bytealg.IndexString"], unfollowed := true, recurses := true, named := ["internal/bytealg.MaxLen", "unicode/utf8.first", "unicode/utf8.acceptRanges"], apart := false, laid := [("unicode/utf8.acceptRanges", laid_unicode_utf8_acceptRanges), ("unicode/utf8.first", laid_unicode_utf8_first)] }
def LexLongSaid : Prop := lexLongRow.holds Tryd.pinned (OpenSpec.ofChange lexLongSpec)

/-- ITS FALSE NEIGHBOUR: 'it returns false'. Refute it at one input. -/
def lexLongWrong : ChangeSpec := { name := "lexLong", fn := fun _ => fun
  | [d] => { results := [.lit (.bool false)], args := [d] }
  | _ => none }
def LexLongWrongFalsely : Prop := lexLongRow.holds Tryd.pinned (OpenSpec.ofChange lexLongWrong)

/-- 'confluencelaw01.PrefixMakes': WHATEVER THE INPUT: true; the input reads as it did. -/
def prefixMakesSpec : ChangeSpec := { name := "prefixMakes", fn := fun _ => fun
  | [d1, d2, d3] => { results := [.lit (.bool true)], args := [d1, d2, d3] }
  | _ => none }
def prefixMakesRow : OpenClaim := { program := "ytiibglkiakhfgaadoor", sum := "889179cbdef0a7e1e9fc9cde4a7394d9ce7c53d092b328a3ee2eea0f138b4e25", func := "confluence/confluencelaw01.PrefixMakes", spec := "prefixMakes", inPlace := ["internal/abi.NoEscape", "internal/bytealg.MakeNoZero"], named := ["internal/strconv.uint64pow10", "math/bits.deBruijn32tab", "math/bits.deBruijn64tab"], apart := false, laid := [("math/bits.deBruijn32tab", laid_math_bits_deBruijn32tab), ("math/bits.deBruijn64tab", laid_math_bits_deBruijn64tab), ("internal/strconv.uint64pow10", laid_internal_strconv_uint64pow10)] }
def PrefixMakesSaid : Prop := prefixMakesRow.holds Tryd.pinned (OpenSpec.ofChange prefixMakesSpec)

/-- ITS FALSE NEIGHBOUR: 'it returns false'. Refute it at one input. -/
def prefixMakesWrong : ChangeSpec := { name := "prefixMakes", fn := fun _ => fun
  | [d1, d2, d3] => { results := [.lit (.bool false)], args := [d1, d2, d3] }
  | _ => none }
def PrefixMakesWrongFalsely : Prop := prefixMakesRow.holds Tryd.pinned (OpenSpec.ofChange prefixMakesWrong)

/-- 'confluencelaw01.PrefixHalves': WHATEVER THE INPUT: true; the input reads as it did. -/
def prefixHalvesSpec : ChangeSpec := { name := "prefixHalves", fn := fun _ => fun
  | [d1, d2] => { results := [.lit (.bool true)], args := [d1, d2] }
  | _ => none }
def prefixHalvesRow : OpenClaim := { program := "ytiibglkiakhfgaadoor", sum := "889179cbdef0a7e1e9fc9cde4a7394d9ce7c53d092b328a3ee2eea0f138b4e25", func := "confluence/confluencelaw01.PrefixHalves", spec := "prefixHalves", inPlace := ["internal/abi.NoEscape", "internal/bytealg.MakeNoZero"], named := ["internal/strconv.uint64pow10", "math/bits.deBruijn32tab", "math/bits.deBruijn64tab"], apart := false, laid := [("math/bits.deBruijn32tab", laid_math_bits_deBruijn32tab), ("math/bits.deBruijn64tab", laid_math_bits_deBruijn64tab), ("internal/strconv.uint64pow10", laid_internal_strconv_uint64pow10)] }
def PrefixHalvesSaid : Prop := prefixHalvesRow.holds Tryd.pinned (OpenSpec.ofChange prefixHalvesSpec)

/-- ITS FALSE NEIGHBOUR: 'it returns false'. Refute it at one input. -/
def prefixHalvesWrong : ChangeSpec := { name := "prefixHalves", fn := fun _ => fun
  | [d1, d2] => { results := [.lit (.bool false)], args := [d1, d2] }
  | _ => none }
def PrefixHalvesWrongFalsely : Prop := prefixHalvesRow.holds Tryd.pinned (OpenSpec.ofChange prefixHalvesWrong)

/-- 'confluencelaw01.PrefixApart': WHATEVER THE INPUT: true; the input reads as it did. -/
def prefixApartSpec : ChangeSpec := { name := "prefixApart", fn := fun _ => fun
  | [d1, d2, d3] => { results := [.lit (.bool true)], args := [d1, d2, d3] }
  | _ => none }
def prefixApartRow : OpenClaim := { program := "ytiibglkiakhfgaadoor", sum := "889179cbdef0a7e1e9fc9cde4a7394d9ce7c53d092b328a3ee2eea0f138b4e25", func := "confluence/confluencelaw01.PrefixApart", spec := "prefixApart", inPlace := ["internal/abi.NoEscape", "internal/bytealg.MakeNoZero"], named := ["internal/strconv.uint64pow10", "math/bits.deBruijn32tab", "math/bits.deBruijn64tab"], apart := false, laid := [("math/bits.deBruijn32tab", laid_math_bits_deBruijn32tab), ("math/bits.deBruijn64tab", laid_math_bits_deBruijn64tab), ("internal/strconv.uint64pow10", laid_internal_strconv_uint64pow10)] }
def PrefixApartSaid : Prop := prefixApartRow.holds Tryd.pinned (OpenSpec.ofChange prefixApartSpec)

/-- ITS FALSE NEIGHBOUR: 'it returns false'. Refute it at one input. -/
def prefixApartWrong : ChangeSpec := { name := "prefixApart", fn := fun _ => fun
  | [d1, d2, d3] => { results := [.lit (.bool false)], args := [d1, d2, d3] }
  | _ => none }
def PrefixApartWrongFalsely : Prop := prefixApartRow.holds Tryd.pinned (OpenSpec.ofChange prefixApartWrong)

/-- 'confluencelaw16.LexLines': WHATEVER THE INPUT: true; the input reads as it did. -/
def lexLinesSpec : ChangeSpec := { name := "lexLines", fn := fun _ => fun
  | [d] => { results := [.lit (.bool true)], args := [d] }
  | _ => none }
def lexLinesRow : OpenClaim := { program := "ytiibglkiakhfgaadoor", sum := "889179cbdef0a7e1e9fc9cde4a7394d9ce7c53d092b328a3ee2eea0f138b4e25", func := "confluence/confluencelaw16.LexLines", spec := "lexLines", inPlace := ["internal/bytealg.CountString", "internal/bytealg.IndexByteString", "internal/bytealg.IndexString", "internal/abi.NoEscape", "internal/bytealg.MakeNoZero"], unfollowed := true, recurses := true, named := ["internal/bytealg.MaxLen", "unicode/utf8.first", "unicode/utf8.acceptRanges"], apart := false, laid := [("unicode/utf8.acceptRanges", laid_unicode_utf8_acceptRanges), ("unicode/utf8.first", laid_unicode_utf8_first)] }
def LexLinesSaid : Prop := lexLinesRow.holds Tryd.pinned (OpenSpec.ofChange lexLinesSpec)

/-- ITS FALSE NEIGHBOUR: 'it returns false'. Refute it at one input. -/
def lexLinesWrong : ChangeSpec := { name := "lexLines", fn := fun _ => fun
  | [d] => { results := [.lit (.bool false)], args := [d] }
  | _ => none }
def LexLinesWrongFalsely : Prop := lexLinesRow.holds Tryd.pinned (OpenSpec.ofChange lexLinesWrong)

/-- 'confluencelaw01.PrefixCovers': WHATEVER THE INPUT: true; the input reads as it did. -/
def prefixCoversSpec : ChangeSpec := { name := "prefixCovers", fn := fun _ => fun
  | [d1, d2, d3] => { results := [.lit (.bool true)], args := [d1, d2, d3] }
  | _ => none }
def prefixCoversRow : OpenClaim := { program := "ytiibglkiakhfgaadoor", sum := "889179cbdef0a7e1e9fc9cde4a7394d9ce7c53d092b328a3ee2eea0f138b4e25", func := "confluence/confluencelaw01.PrefixCovers", spec := "prefixCovers", inPlace := ["internal/abi.NoEscape", "internal/bytealg.MakeNoZero"], named := ["internal/strconv.uint64pow10", "math/bits.deBruijn32tab", "math/bits.deBruijn64tab"], apart := false, laid := [("math/bits.deBruijn32tab", laid_math_bits_deBruijn32tab), ("math/bits.deBruijn64tab", laid_math_bits_deBruijn64tab), ("internal/strconv.uint64pow10", laid_internal_strconv_uint64pow10)] }
def PrefixCoversSaid : Prop := prefixCoversRow.holds Tryd.pinned (OpenSpec.ofChange prefixCoversSpec)

/-- ITS FALSE NEIGHBOUR: 'it returns false'. Refute it at one input. -/
def prefixCoversWrong : ChangeSpec := { name := "prefixCovers", fn := fun _ => fun
  | [d1, d2, d3] => { results := [.lit (.bool false)], args := [d1, d2, d3] }
  | _ => none }
def PrefixCoversWrongFalsely : Prop := prefixCoversRow.holds Tryd.pinned (OpenSpec.ofChange prefixCoversWrong)

/-- 'confluencelaw03.CommTexts': WHATEVER THE INPUT: true; the input reads as it did. -/
def commTextsSpec : ChangeSpec := { name := "commTexts", fn := fun _ => fun
  | [d1, d2] => { results := [.lit (.bool true)], args := [d1, d2] }
  | _ => none }
def commTextsRow : OpenClaim := { program := "ytiibglkiakhfgaadoor", sum := "889179cbdef0a7e1e9fc9cde4a7394d9ce7c53d092b328a3ee2eea0f138b4e25", func := "confluence/confluencelaw03.CommTexts", spec := "commTexts", inPlace := ["internal/bytealg.IndexByteString", "internal/bytealg.IndexString"], recurses := true, named := ["internal/strconv.uint64pow10", "math/bits.deBruijn32tab", "math/bits.deBruijn64tab", "internal/bytealg.MaxLen", "strconv.ErrSyntax", "strconv.ErrRange"], apart := false, laid := [("math/bits.deBruijn32tab", laid_math_bits_deBruijn32tab), ("math/bits.deBruijn64tab", laid_math_bits_deBruijn64tab), ("internal/strconv.uint64pow10", laid_internal_strconv_uint64pow10), ("strconv.ErrRange", laid_strconv_ErrRange), ("strconv.ErrSyntax", laid_strconv_ErrSyntax)] }
def CommTextsSaid : Prop := commTextsRow.holds Tryd.pinned (OpenSpec.ofChange commTextsSpec)

/-- ITS FALSE NEIGHBOUR: 'it returns false'. Refute it at one input. -/
def commTextsWrong : ChangeSpec := { name := "commTexts", fn := fun _ => fun
  | [d1, d2] => { results := [.lit (.bool false)], args := [d1, d2] }
  | _ => none }
def CommTextsWrongFalsely : Prop := commTextsRow.holds Tryd.pinned (OpenSpec.ofChange commTextsWrong)

/-- 'confluencelaw16.LexWords': WHATEVER THE INPUT: true; the input reads as it did. -/
def lexWordsSpec : ChangeSpec := { name := "lexWords", fn := fun _ => fun
  | [d1, d2, d3] => { results := [.lit (.bool true)], args := [d1, d2, d3] }
  | _ => none }
def lexWordsRow : OpenClaim := { program := "ytiibglkiakhfgaadoor", sum := "889179cbdef0a7e1e9fc9cde4a7394d9ce7c53d092b328a3ee2eea0f138b4e25", func := "confluence/confluencelaw16.LexWords", spec := "lexWords", inPlace := ["internal/abi.NoEscape", "internal/bytealg.MakeNoZero"], recurses := true, named := ["strconv.ErrSyntax", "strconv.ErrRange", "internal/strconv.uint64pow10", "math/bits.deBruijn32tab", "math/bits.deBruijn64tab"], apart := false, laid := [("math/bits.deBruijn32tab", laid_math_bits_deBruijn32tab), ("math/bits.deBruijn64tab", laid_math_bits_deBruijn64tab), ("internal/strconv.uint64pow10", laid_internal_strconv_uint64pow10), ("strconv.ErrRange", laid_strconv_ErrRange), ("strconv.ErrSyntax", laid_strconv_ErrSyntax)] }
def LexWordsSaid : Prop := lexWordsRow.holds Tryd.pinned (OpenSpec.ofChange lexWordsSpec)

/-- ITS FALSE NEIGHBOUR: 'it returns false'. Refute it at one input. -/
def lexWordsWrong : ChangeSpec := { name := "lexWords", fn := fun _ => fun
  | [d1, d2, d3] => { results := [.lit (.bool false)], args := [d1, d2, d3] }
  | _ => none }
def LexWordsWrongFalsely : Prop := lexWordsRow.holds Tryd.pinned (OpenSpec.ofChange lexWordsWrong)

/-- 'confluencelaw18.AlistMatches': WHATEVER THE INPUT: true; the input reads as it did. -/
def alistMatchesSpec : ChangeSpec := { name := "alistMatches", fn := fun _ => fun
  | [d1, d2] => { results := [.lit (.bool true)], args := [d1, d2] }
  | _ => none }
def alistMatchesRow : OpenClaim := { program := "ytiibglkiakhfgaadoor", sum := "889179cbdef0a7e1e9fc9cde4a7394d9ce7c53d092b328a3ee2eea0f138b4e25", func := "confluence/confluencelaw18.AlistMatches", spec := "alistMatches", unfollowed := true, recurses := true, named := ["strconv.ErrSyntax", "strconv.ErrRange", "internal/strconv.uint64pow10", "math/bits.deBruijn32tab", "math/bits.deBruijn64tab"], apart := false, laid := [("math/bits.deBruijn32tab", laid_math_bits_deBruijn32tab), ("math/bits.deBruijn64tab", laid_math_bits_deBruijn64tab), ("internal/strconv.uint64pow10", laid_internal_strconv_uint64pow10), ("strconv.ErrRange", laid_strconv_ErrRange), ("strconv.ErrSyntax", laid_strconv_ErrSyntax)] }
def AlistMatchesSaid : Prop := alistMatchesRow.holds Tryd.pinned (OpenSpec.ofChange alistMatchesSpec)

/-- ITS FALSE NEIGHBOUR: 'it returns false'. Refute it at one input. -/
def alistMatchesWrong : ChangeSpec := { name := "alistMatches", fn := fun _ => fun
  | [d1, d2] => { results := [.lit (.bool false)], args := [d1, d2] }
  | _ => none }
def AlistMatchesWrongFalsely : Prop := alistMatchesRow.holds Tryd.pinned (OpenSpec.ofChange alistMatchesWrong)

/-- 'confluencelaw02.AsnTwo': WHATEVER THE INPUT: true; the input reads as it did. -/
def asnTwoSpec : ChangeSpec := { name := "asnTwo", fn := fun _ => fun
  | [d1, d2] => { results := [.lit (.bool true)], args := [d1, d2] }
  | _ => none }
def asnTwoRow : OpenClaim := { program := "ytiibglkiakhfgaadoor", sum := "889179cbdef0a7e1e9fc9cde4a7394d9ce7c53d092b328a3ee2eea0f138b4e25", func := "confluence/confluencelaw02.AsnTwo", spec := "asnTwo", inPlace := ["internal/abi.NoEscape"], unfollowed := true, recurses := true, named := ["internal/strconv.uint64pow10", "math/bits.deBruijn32tab", "math/bits.deBruijn64tab"], apart := false, laid := [("math/bits.deBruijn32tab", laid_math_bits_deBruijn32tab), ("math/bits.deBruijn64tab", laid_math_bits_deBruijn64tab), ("internal/strconv.uint64pow10", laid_internal_strconv_uint64pow10)] }
def AsnTwoSaid : Prop := asnTwoRow.holds Tryd.pinned (OpenSpec.ofChange asnTwoSpec)

/-- ITS FALSE NEIGHBOUR: 'it returns false'. Refute it at one input. -/
def asnTwoWrong : ChangeSpec := { name := "asnTwo", fn := fun _ => fun
  | [d1, d2] => { results := [.lit (.bool false)], args := [d1, d2] }
  | _ => none }
def AsnTwoWrongFalsely : Prop := asnTwoRow.holds Tryd.pinned (OpenSpec.ofChange asnTwoWrong)

/-- 'confluencelaw03.CommAll': WHATEVER THE INPUT: true; the input reads as it did. -/
def commAllSpec : ChangeSpec := { name := "commAll", fn := fun _ => fun
  | [d1, d2] => { results := [.lit (.bool true)], args := [d1, d2] }
  | _ => none }
def commAllRow : OpenClaim := { program := "ytiibglkiakhfgaadoor", sum := "889179cbdef0a7e1e9fc9cde4a7394d9ce7c53d092b328a3ee2eea0f138b4e25", func := "confluence/confluencelaw03.CommAll", spec := "commAll", inPlace := ["internal/abi.NoEscape", "internal/bytealg.MakeNoZero", "internal/bytealg.IndexByteString", "internal/bytealg.IndexString"], unfollowed := true, recurses := true, named := ["internal/strconv.uint64pow10", "math/bits.deBruijn32tab", "math/bits.deBruijn64tab", "unicode/utf8.first", "unicode/utf8.acceptRanges", "internal/bytealg.MaxLen", "strconv.ErrSyntax", "strconv.ErrRange"], apart := false, laid := [("math/bits.deBruijn32tab", laid_math_bits_deBruijn32tab), ("math/bits.deBruijn64tab", laid_math_bits_deBruijn64tab), ("internal/strconv.uint64pow10", laid_internal_strconv_uint64pow10), ("unicode/utf8.acceptRanges", laid_unicode_utf8_acceptRanges), ("strconv.ErrRange", laid_strconv_ErrRange), ("strconv.ErrSyntax", laid_strconv_ErrSyntax), ("unicode/utf8.first", laid_unicode_utf8_first)] }
def CommAllSaid : Prop := commAllRow.holds Tryd.pinned (OpenSpec.ofChange commAllSpec)

/-- ITS FALSE NEIGHBOUR: 'it returns false'. Refute it at one input. -/
def commAllWrong : ChangeSpec := { name := "commAll", fn := fun _ => fun
  | [d1, d2] => { results := [.lit (.bool false)], args := [d1, d2] }
  | _ => none }
def CommAllWrongFalsely : Prop := commAllRow.holds Tryd.pinned (OpenSpec.ofChange commAllWrong)

/-- 'confluencelaw01.PrefixTexts': WHATEVER THE INPUT: true; the input reads as it did. -/
def prefixTextsSpec : ChangeSpec := { name := "prefixTexts", fn := fun _ => fun
  | [d1, d2] => { results := [.lit (.bool true)], args := [d1, d2] }
  | _ => none }
def prefixTextsRow : OpenClaim := { program := "ytiibglkiakhfgaadoor", sum := "889179cbdef0a7e1e9fc9cde4a7394d9ce7c53d092b328a3ee2eea0f138b4e25", func := "confluence/confluencelaw01.PrefixTexts", spec := "prefixTexts", inPlace := ["internal/abi.NoEscape", "internal/bytealg.MakeNoZero", "internal/bytealg.IndexByteString", "internal/bytealg.IndexString", "internal/bytealg.CountString"], recurses := true, named := ["internal/strconv.uint64pow10", "math/bits.deBruijn32tab", "math/bits.deBruijn64tab", "internal/bytealg.MaxLen", "unicode/utf8.first", "unicode/utf8.acceptRanges", "strconv.ErrSyntax", "strconv.ErrRange"], apart := false, laid := [("math/bits.deBruijn32tab", laid_math_bits_deBruijn32tab), ("math/bits.deBruijn64tab", laid_math_bits_deBruijn64tab), ("internal/strconv.uint64pow10", laid_internal_strconv_uint64pow10), ("unicode/utf8.acceptRanges", laid_unicode_utf8_acceptRanges), ("strconv.ErrRange", laid_strconv_ErrRange), ("strconv.ErrSyntax", laid_strconv_ErrSyntax), ("unicode/utf8.first", laid_unicode_utf8_first)] }
def PrefixTextsSaid : Prop := prefixTextsRow.holds Tryd.pinned (OpenSpec.ofChange prefixTextsSpec)

/-- ITS FALSE NEIGHBOUR: 'it returns false'. Refute it at one input. -/
def prefixTextsWrong : ChangeSpec := { name := "prefixTexts", fn := fun _ => fun
  | [d1, d2] => { results := [.lit (.bool false)], args := [d1, d2] }
  | _ => none }
def PrefixTextsWrongFalsely : Prop := prefixTextsRow.holds Tryd.pinned (OpenSpec.ofChange prefixTextsWrong)

/-- 'confluencelaw02.AsnSets': WHATEVER THE INPUT: true; the input reads as it did. -/
def asnSetsSpec : ChangeSpec := { name := "asnSets", fn := fun _ => fun
  | [d1, d2] => { results := [.lit (.bool true)], args := [d1, d2] }
  | _ => none }
def asnSetsRow : OpenClaim := { program := "ytiibglkiakhfgaadoor", sum := "889179cbdef0a7e1e9fc9cde4a7394d9ce7c53d092b328a3ee2eea0f138b4e25", func := "confluence/confluencelaw02.AsnSets", spec := "asnSets", inPlace := ["slices.overlaps[uint32]", "internal/abi.NoEscape"], unfollowed := true, recurses := true, named := ["internal/strconv.uint64pow10", "math/bits.deBruijn32tab", "math/bits.deBruijn64tab"], apart := false, laid := [("math/bits.deBruijn32tab", laid_math_bits_deBruijn32tab), ("math/bits.deBruijn64tab", laid_math_bits_deBruijn64tab), ("internal/strconv.uint64pow10", laid_internal_strconv_uint64pow10)] }
def AsnSetsSaid : Prop := asnSetsRow.holds Tryd.pinned (OpenSpec.ofChange asnSetsSpec)

/-- ITS FALSE NEIGHBOUR: 'it returns false'. Refute it at one input. -/
def asnSetsWrong : ChangeSpec := { name := "asnSets", fn := fun _ => fun
  | [d1, d2] => { results := [.lit (.bool false)], args := [d1, d2] }
  | _ => none }
def AsnSetsWrongFalsely : Prop := asnSetsRow.holds Tryd.pinned (OpenSpec.ofChange asnSetsWrong)

/- THE SECOND FORM. 'bulk': how many values and letters a reading holds, each counted each time it is reached (what is shared counts as often as it is met; a slice's spare places count too). A statement '..UptoSaid' is the law's where the arguments, and the package variables that the reading takes, are together of bulk at most 1048576: NARROWER than '..Said'. Prove '..Said' where nothing that the law and all that it calls make is longer than what came in: it says more and counts as full. Else prove '..UptoSaid'. A law counts once. -/
mutual
def uptoBulk {H : Type} : DataW H → Nat
  | .lit (.string bytes) => bytes.length + 1
  | .lit _ => 1
  | .nil => 1
  | .ptr d => uptoBulk d + 1
  | .slice elems spare => uptoBulkAll elems + uptoBulkAll spare + 1
  | .agg parts => uptoBulkAll parts + 1
  | .iface _ d => uptoBulk d + 1
  | .map entries => uptoBulkEntries entries + 1
  | .held _ => 1
def uptoBulkAll {H : Type} : List (DataW H) → Nat
  | [] => 0
  | d :: r => uptoBulk d + uptoBulkAll r
def uptoBulkEntries {H : Type} : List (Lit × DataW H) → Nat
  | [] => 0
  | x :: r => uptoBulkEntry x + uptoBulkEntries r
def uptoBulkEntry {H : Type} : Lit × DataW H → Nat
  | (.string bytes, d) => bytes.length + uptoBulk d + 1
  | (_, d) => uptoBulk d + 1
 end
def uptoSmall : (H : Type) → List (DataW H) → Bool := fun _ ds => decide (uptoBulkAll ds ≤ 1048576)
def OpenSpec.upto (s : _root_.Go.ChangeSpec) : _root_.Go.OpenSpec := { _root_.Go.OpenSpec.ofChange s with cond := some uptoSmall }

/-- 'confluencelaw03.CommApart', WHERE WHAT IT READS IS OF BULK AT MOST 1048576: true; the input reads as it did. -/
def commApartUptoRow : OpenClaim := { program := "ytiibglkiakhfgaadoor", sum := "889179cbdef0a7e1e9fc9cde4a7394d9ce7c53d092b328a3ee2eea0f138b4e25", func := "confluence/confluencelaw03.CommApart", spec := "commApart", named := ["internal/strconv.uint64pow10", "math/bits.deBruijn32tab", "math/bits.deBruijn64tab"], apart := false, laid := [("math/bits.deBruijn32tab", laid_math_bits_deBruijn32tab), ("math/bits.deBruijn64tab", laid_math_bits_deBruijn64tab), ("internal/strconv.uint64pow10", laid_internal_strconv_uint64pow10)], narrowed := true }
def CommApartUptoSaid : Prop := commApartUptoRow.holds Tryd.pinned (OpenSpec.upto commApartSpec)

/-- 'confluencelaw03.CommParts', WHERE WHAT IT READS IS OF BULK AT MOST 1048576: true; the input reads as it did. -/
def commPartsUptoRow : OpenClaim := { program := "ytiibglkiakhfgaadoor", sum := "889179cbdef0a7e1e9fc9cde4a7394d9ce7c53d092b328a3ee2eea0f138b4e25", func := "confluence/confluencelaw03.CommParts", spec := "commParts", named := ["internal/strconv.uint64pow10", "math/bits.deBruijn32tab", "math/bits.deBruijn64tab"], apart := false, laid := [("math/bits.deBruijn32tab", laid_math_bits_deBruijn32tab), ("math/bits.deBruijn64tab", laid_math_bits_deBruijn64tab), ("internal/strconv.uint64pow10", laid_internal_strconv_uint64pow10)], narrowed := true }
def CommPartsUptoSaid : Prop := commPartsUptoRow.holds Tryd.pinned (OpenSpec.upto commPartsSpec)

/-- 'confluencelaw16.LexLong', WHERE WHAT IT READS IS OF BULK AT MOST 1048576: true; the input reads as it did. -/
def lexLongUptoRow : OpenClaim := { program := "ytiibglkiakhfgaadoor", sum := "889179cbdef0a7e1e9fc9cde4a7394d9ce7c53d092b328a3ee2eea0f138b4e25", func := "confluence/confluencelaw16.LexLong", spec := "lexLong", inPlace := ["internal/bytealg.CountString", "internal/bytealg.IndexByteString", "internal/bytealg.IndexString"], unfollowed := true, recurses := true, named := ["internal/bytealg.MaxLen", "unicode/utf8.first", "unicode/utf8.acceptRanges"], apart := false, laid := [("unicode/utf8.acceptRanges", laid_unicode_utf8_acceptRanges), ("unicode/utf8.first", laid_unicode_utf8_first)], narrowed := true }
def LexLongUptoSaid : Prop := lexLongUptoRow.holds Tryd.pinned (OpenSpec.upto lexLongSpec)

/-- 'confluencelaw01.PrefixMakes', WHERE WHAT IT READS IS OF BULK AT MOST 1048576: true; the input reads as it did. -/
def prefixMakesUptoRow : OpenClaim := { program := "ytiibglkiakhfgaadoor", sum := "889179cbdef0a7e1e9fc9cde4a7394d9ce7c53d092b328a3ee2eea0f138b4e25", func := "confluence/confluencelaw01.PrefixMakes", spec := "prefixMakes", inPlace := ["internal/abi.NoEscape", "internal/bytealg.MakeNoZero"], named := ["internal/strconv.uint64pow10", "math/bits.deBruijn32tab", "math/bits.deBruijn64tab"], apart := false, laid := [("math/bits.deBruijn32tab", laid_math_bits_deBruijn32tab), ("math/bits.deBruijn64tab", laid_math_bits_deBruijn64tab), ("internal/strconv.uint64pow10", laid_internal_strconv_uint64pow10)], narrowed := true }
def PrefixMakesUptoSaid : Prop := prefixMakesUptoRow.holds Tryd.pinned (OpenSpec.upto prefixMakesSpec)

/-- 'confluencelaw01.PrefixHalves', WHERE WHAT IT READS IS OF BULK AT MOST 1048576: true; the input reads as it did. -/
def prefixHalvesUptoRow : OpenClaim := { program := "ytiibglkiakhfgaadoor", sum := "889179cbdef0a7e1e9fc9cde4a7394d9ce7c53d092b328a3ee2eea0f138b4e25", func := "confluence/confluencelaw01.PrefixHalves", spec := "prefixHalves", inPlace := ["internal/abi.NoEscape", "internal/bytealg.MakeNoZero"], named := ["internal/strconv.uint64pow10", "math/bits.deBruijn32tab", "math/bits.deBruijn64tab"], apart := false, laid := [("math/bits.deBruijn32tab", laid_math_bits_deBruijn32tab), ("math/bits.deBruijn64tab", laid_math_bits_deBruijn64tab), ("internal/strconv.uint64pow10", laid_internal_strconv_uint64pow10)], narrowed := true }
def PrefixHalvesUptoSaid : Prop := prefixHalvesUptoRow.holds Tryd.pinned (OpenSpec.upto prefixHalvesSpec)

/-- 'confluencelaw01.PrefixApart', WHERE WHAT IT READS IS OF BULK AT MOST 1048576: true; the input reads as it did. -/
def prefixApartUptoRow : OpenClaim := { program := "ytiibglkiakhfgaadoor", sum := "889179cbdef0a7e1e9fc9cde4a7394d9ce7c53d092b328a3ee2eea0f138b4e25", func := "confluence/confluencelaw01.PrefixApart", spec := "prefixApart", inPlace := ["internal/abi.NoEscape", "internal/bytealg.MakeNoZero"], named := ["internal/strconv.uint64pow10", "math/bits.deBruijn32tab", "math/bits.deBruijn64tab"], apart := false, laid := [("math/bits.deBruijn32tab", laid_math_bits_deBruijn32tab), ("math/bits.deBruijn64tab", laid_math_bits_deBruijn64tab), ("internal/strconv.uint64pow10", laid_internal_strconv_uint64pow10)], narrowed := true }
def PrefixApartUptoSaid : Prop := prefixApartUptoRow.holds Tryd.pinned (OpenSpec.upto prefixApartSpec)

/-- 'confluencelaw16.LexLines', WHERE WHAT IT READS IS OF BULK AT MOST 1048576: true; the input reads as it did. -/
def lexLinesUptoRow : OpenClaim := { program := "ytiibglkiakhfgaadoor", sum := "889179cbdef0a7e1e9fc9cde4a7394d9ce7c53d092b328a3ee2eea0f138b4e25", func := "confluence/confluencelaw16.LexLines", spec := "lexLines", inPlace := ["internal/bytealg.CountString", "internal/bytealg.IndexByteString", "internal/bytealg.IndexString", "internal/abi.NoEscape", "internal/bytealg.MakeNoZero"], unfollowed := true, recurses := true, named := ["internal/bytealg.MaxLen", "unicode/utf8.first", "unicode/utf8.acceptRanges"], apart := false, laid := [("unicode/utf8.acceptRanges", laid_unicode_utf8_acceptRanges), ("unicode/utf8.first", laid_unicode_utf8_first)], narrowed := true }
def LexLinesUptoSaid : Prop := lexLinesUptoRow.holds Tryd.pinned (OpenSpec.upto lexLinesSpec)

/-- 'confluencelaw01.PrefixCovers', WHERE WHAT IT READS IS OF BULK AT MOST 1048576: true; the input reads as it did. -/
def prefixCoversUptoRow : OpenClaim := { program := "ytiibglkiakhfgaadoor", sum := "889179cbdef0a7e1e9fc9cde4a7394d9ce7c53d092b328a3ee2eea0f138b4e25", func := "confluence/confluencelaw01.PrefixCovers", spec := "prefixCovers", inPlace := ["internal/abi.NoEscape", "internal/bytealg.MakeNoZero"], named := ["internal/strconv.uint64pow10", "math/bits.deBruijn32tab", "math/bits.deBruijn64tab"], apart := false, laid := [("math/bits.deBruijn32tab", laid_math_bits_deBruijn32tab), ("math/bits.deBruijn64tab", laid_math_bits_deBruijn64tab), ("internal/strconv.uint64pow10", laid_internal_strconv_uint64pow10)], narrowed := true }
def PrefixCoversUptoSaid : Prop := prefixCoversUptoRow.holds Tryd.pinned (OpenSpec.upto prefixCoversSpec)

/-- 'confluencelaw03.CommTexts', WHERE WHAT IT READS IS OF BULK AT MOST 1048576: true; the input reads as it did. -/
def commTextsUptoRow : OpenClaim := { program := "ytiibglkiakhfgaadoor", sum := "889179cbdef0a7e1e9fc9cde4a7394d9ce7c53d092b328a3ee2eea0f138b4e25", func := "confluence/confluencelaw03.CommTexts", spec := "commTexts", inPlace := ["internal/bytealg.IndexByteString", "internal/bytealg.IndexString"], recurses := true, named := ["internal/strconv.uint64pow10", "math/bits.deBruijn32tab", "math/bits.deBruijn64tab", "internal/bytealg.MaxLen", "strconv.ErrSyntax", "strconv.ErrRange"], apart := false, laid := [("math/bits.deBruijn32tab", laid_math_bits_deBruijn32tab), ("math/bits.deBruijn64tab", laid_math_bits_deBruijn64tab), ("internal/strconv.uint64pow10", laid_internal_strconv_uint64pow10), ("strconv.ErrRange", laid_strconv_ErrRange), ("strconv.ErrSyntax", laid_strconv_ErrSyntax)], narrowed := true }
def CommTextsUptoSaid : Prop := commTextsUptoRow.holds Tryd.pinned (OpenSpec.upto commTextsSpec)

/-- 'confluencelaw16.LexWords', WHERE WHAT IT READS IS OF BULK AT MOST 1048576: true; the input reads as it did. -/
def lexWordsUptoRow : OpenClaim := { program := "ytiibglkiakhfgaadoor", sum := "889179cbdef0a7e1e9fc9cde4a7394d9ce7c53d092b328a3ee2eea0f138b4e25", func := "confluence/confluencelaw16.LexWords", spec := "lexWords", inPlace := ["internal/abi.NoEscape", "internal/bytealg.MakeNoZero"], recurses := true, named := ["strconv.ErrSyntax", "strconv.ErrRange", "internal/strconv.uint64pow10", "math/bits.deBruijn32tab", "math/bits.deBruijn64tab"], apart := false, laid := [("math/bits.deBruijn32tab", laid_math_bits_deBruijn32tab), ("math/bits.deBruijn64tab", laid_math_bits_deBruijn64tab), ("internal/strconv.uint64pow10", laid_internal_strconv_uint64pow10), ("strconv.ErrRange", laid_strconv_ErrRange), ("strconv.ErrSyntax", laid_strconv_ErrSyntax)], narrowed := true }
def LexWordsUptoSaid : Prop := lexWordsUptoRow.holds Tryd.pinned (OpenSpec.upto lexWordsSpec)

/-- 'confluencelaw18.AlistMatches', WHERE WHAT IT READS IS OF BULK AT MOST 1048576: true; the input reads as it did. -/
def alistMatchesUptoRow : OpenClaim := { program := "ytiibglkiakhfgaadoor", sum := "889179cbdef0a7e1e9fc9cde4a7394d9ce7c53d092b328a3ee2eea0f138b4e25", func := "confluence/confluencelaw18.AlistMatches", spec := "alistMatches", unfollowed := true, recurses := true, named := ["strconv.ErrSyntax", "strconv.ErrRange", "internal/strconv.uint64pow10", "math/bits.deBruijn32tab", "math/bits.deBruijn64tab"], apart := false, laid := [("math/bits.deBruijn32tab", laid_math_bits_deBruijn32tab), ("math/bits.deBruijn64tab", laid_math_bits_deBruijn64tab), ("internal/strconv.uint64pow10", laid_internal_strconv_uint64pow10), ("strconv.ErrRange", laid_strconv_ErrRange), ("strconv.ErrSyntax", laid_strconv_ErrSyntax)], narrowed := true }
def AlistMatchesUptoSaid : Prop := alistMatchesUptoRow.holds Tryd.pinned (OpenSpec.upto alistMatchesSpec)

/-- 'confluencelaw02.AsnTwo', WHERE WHAT IT READS IS OF BULK AT MOST 1048576: true; the input reads as it did. -/
def asnTwoUptoRow : OpenClaim := { program := "ytiibglkiakhfgaadoor", sum := "889179cbdef0a7e1e9fc9cde4a7394d9ce7c53d092b328a3ee2eea0f138b4e25", func := "confluence/confluencelaw02.AsnTwo", spec := "asnTwo", inPlace := ["internal/abi.NoEscape"], unfollowed := true, recurses := true, named := ["internal/strconv.uint64pow10", "math/bits.deBruijn32tab", "math/bits.deBruijn64tab"], apart := false, laid := [("math/bits.deBruijn32tab", laid_math_bits_deBruijn32tab), ("math/bits.deBruijn64tab", laid_math_bits_deBruijn64tab), ("internal/strconv.uint64pow10", laid_internal_strconv_uint64pow10)], narrowed := true }
def AsnTwoUptoSaid : Prop := asnTwoUptoRow.holds Tryd.pinned (OpenSpec.upto asnTwoSpec)

/-- 'confluencelaw03.CommAll', WHERE WHAT IT READS IS OF BULK AT MOST 1048576: true; the input reads as it did. -/
def commAllUptoRow : OpenClaim := { program := "ytiibglkiakhfgaadoor", sum := "889179cbdef0a7e1e9fc9cde4a7394d9ce7c53d092b328a3ee2eea0f138b4e25", func := "confluence/confluencelaw03.CommAll", spec := "commAll", inPlace := ["internal/abi.NoEscape", "internal/bytealg.MakeNoZero", "internal/bytealg.IndexByteString", "internal/bytealg.IndexString"], unfollowed := true, recurses := true, named := ["internal/strconv.uint64pow10", "math/bits.deBruijn32tab", "math/bits.deBruijn64tab", "unicode/utf8.first", "unicode/utf8.acceptRanges", "internal/bytealg.MaxLen", "strconv.ErrSyntax", "strconv.ErrRange"], apart := false, laid := [("math/bits.deBruijn32tab", laid_math_bits_deBruijn32tab), ("math/bits.deBruijn64tab", laid_math_bits_deBruijn64tab), ("internal/strconv.uint64pow10", laid_internal_strconv_uint64pow10), ("unicode/utf8.acceptRanges", laid_unicode_utf8_acceptRanges), ("strconv.ErrRange", laid_strconv_ErrRange), ("strconv.ErrSyntax", laid_strconv_ErrSyntax), ("unicode/utf8.first", laid_unicode_utf8_first)], narrowed := true }
def CommAllUptoSaid : Prop := commAllUptoRow.holds Tryd.pinned (OpenSpec.upto commAllSpec)

/-- 'confluencelaw01.PrefixTexts', WHERE WHAT IT READS IS OF BULK AT MOST 1048576: true; the input reads as it did. -/
def prefixTextsUptoRow : OpenClaim := { program := "ytiibglkiakhfgaadoor", sum := "889179cbdef0a7e1e9fc9cde4a7394d9ce7c53d092b328a3ee2eea0f138b4e25", func := "confluence/confluencelaw01.PrefixTexts", spec := "prefixTexts", inPlace := ["internal/abi.NoEscape", "internal/bytealg.MakeNoZero", "internal/bytealg.IndexByteString", "internal/bytealg.IndexString", "internal/bytealg.CountString"], recurses := true, named := ["internal/strconv.uint64pow10", "math/bits.deBruijn32tab", "math/bits.deBruijn64tab", "internal/bytealg.MaxLen", "unicode/utf8.first", "unicode/utf8.acceptRanges", "strconv.ErrSyntax", "strconv.ErrRange"], apart := false, laid := [("math/bits.deBruijn32tab", laid_math_bits_deBruijn32tab), ("math/bits.deBruijn64tab", laid_math_bits_deBruijn64tab), ("internal/strconv.uint64pow10", laid_internal_strconv_uint64pow10), ("unicode/utf8.acceptRanges", laid_unicode_utf8_acceptRanges), ("strconv.ErrRange", laid_strconv_ErrRange), ("strconv.ErrSyntax", laid_strconv_ErrSyntax), ("unicode/utf8.first", laid_unicode_utf8_first)], narrowed := true }
def PrefixTextsUptoSaid : Prop := prefixTextsUptoRow.holds Tryd.pinned (OpenSpec.upto prefixTextsSpec)

/-- 'confluencelaw02.AsnSets', WHERE WHAT IT READS IS OF BULK AT MOST 1048576: true; the input reads as it did. -/
def asnSetsUptoRow : OpenClaim := { program := "ytiibglkiakhfgaadoor", sum := "889179cbdef0a7e1e9fc9cde4a7394d9ce7c53d092b328a3ee2eea0f138b4e25", func := "confluence/confluencelaw02.AsnSets", spec := "asnSets", inPlace := ["slices.overlaps[uint32]", "internal/abi.NoEscape"], unfollowed := true, recurses := true, named := ["internal/strconv.uint64pow10", "math/bits.deBruijn32tab", "math/bits.deBruijn64tab"], apart := false, laid := [("math/bits.deBruijn32tab", laid_math_bits_deBruijn32tab), ("math/bits.deBruijn64tab", laid_math_bits_deBruijn64tab), ("internal/strconv.uint64pow10", laid_internal_strconv_uint64pow10)], narrowed := true }
def AsnSetsUptoSaid : Prop := asnSetsUptoRow.holds Tryd.pinned (OpenSpec.upto asnSetsSpec)

end Rows
end Go.Proofs.YtiibglkiakhfgaaDoor
