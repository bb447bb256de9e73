/-
  NARROWER THAN 'FOR EVERY INPUT', by the rows' own cells (each row's printed sentence says how): CharsetCuts: laid · CharsetNames: laid · CharsetTries: laid · DetectScores: laid · DetectGuesses: laid · DetectSums: laid · DetectMarks: laid · CharsetReads: laid · CharsetWrites: laid · CharsetPlain: laid · DetectResolves: laid · DetectSigns: laid.
  DERIVED. THE GIVEN ROWS OF THIS SEAT. 12 by the template 'for every input the law returns true; each argument reads behind the call as it read before'; 0 by the template 'total and deterministic' (their statements: YtbijjomknbnmfaaGreatDoorTotals.lean).
  GIVEN WITH THE SEED: the statements are not yours to turn. If you find one false, say at which input.
  Laid BY PROGRAM, IN A SANDBOX (cutbox-rows.mjs): the forced cells as the released guide's own fill.sh prints them over the translation 61375cfef99dc4db… (all of the seat's roots in one cut). By AI agents, Wed Nov 11 2026. No macro, syntax, notation, axiom, sorry.
-/
import Derived.Test.YtbijjomknbnmfaaGreatDoorChecked
import GoSem.PinnedTables
import GoSem.Claim
import GoSem.ClaimJoined
import GoSem.ClaimMapViews
import Derived.JoinedTies
import Derived.KernelRfl
namespace Go.Proofs.YtbijjomknbnmfaaGreatDoor
/- THE CELL 'sum', in the pinned program and in every row, IS THE sha256 OF THE DUMP (.gsa) THAT YtbijjomknbnmfaaGreatDoorProg.lean LOADS. Nothing in Lean hashes anything: it is a label: what it is worth is what the hold of that sum in a sandbox is worth. -/
noncomputable def Tryz.pinned : Pinned := { name := "ytbijjomknbnmfaagreatdoor", sum := "61375cfef99dc4dbf66be8747ecb76f9903578c74ce509865cf95f9f27b17343", checked := Tryz.checked }
namespace Rows
def none {H : Type} : Left H := { results := [], args := [] }

/- WHAT THE LISTED PACKAGE-LEVEL VARIABLES READ AS WHEN THE CALL BEGINS. Each datum BY PROGRAM (the guide's laid-datum.mjs) off the statement by which the dump's own 'gosem.cut.vars' lays the variable. In a bare row this is a premise. The card (YtbijjomknbnmfaaGreatDoorCards.lean) ties it to the program's text. -/
def laid_math_bits_deBruijn32tab {H : Type} : DataW H := .agg [.lit (.int .u8 0), .lit (.int .u8 1), .lit (.int .u8 28), .lit (.int .u8 2), .lit (.int .u8 29), .lit (.int .u8 14), .lit (.int .u8 24), .lit (.int .u8 3), .lit (.int .u8 30), .lit (.int .u8 22), .lit (.int .u8 20), .lit (.int .u8 15), .lit (.int .u8 25), .lit (.int .u8 17), .lit (.int .u8 4), .lit (.int .u8 8), .lit (.int .u8 31), .lit (.int .u8 27), .lit (.int .u8 13), .lit (.int .u8 23), .lit (.int .u8 21), .lit (.int .u8 19), .lit (.int .u8 16), .lit (.int .u8 7), .lit (.int .u8 26), .lit (.int .u8 12), .lit (.int .u8 18), .lit (.int .u8 6), .lit (.int .u8 11), .lit (.int .u8 5), .lit (.int .u8 10), .lit (.int .u8 9)]
def laid_unicode_utf8_acceptRanges {H : Type} : DataW H := .agg [.agg [.lit (.int .u8 128), .lit (.int .u8 191)], .agg [.lit (.int .u8 160), .lit (.int .u8 191)], .agg [.lit (.int .u8 128), .lit (.int .u8 159)], .agg [.lit (.int .u8 144), .lit (.int .u8 191)], .agg [.lit (.int .u8 128), .lit (.int .u8 143)], .agg [.lit (.int .u8 0), .lit (.int .u8 0)], .agg [.lit (.int .u8 0), .lit (.int .u8 0)], .agg [.lit (.int .u8 0), .lit (.int .u8 0)], .agg [.lit (.int .u8 0), .lit (.int .u8 0)], .agg [.lit (.int .u8 0), .lit (.int .u8 0)], .agg [.lit (.int .u8 0), .lit (.int .u8 0)], .agg [.lit (.int .u8 0), .lit (.int .u8 0)], .agg [.lit (.int .u8 0), .lit (.int .u8 0)], .agg [.lit (.int .u8 0), .lit (.int .u8 0)], .agg [.lit (.int .u8 0), .lit (.int .u8 0)], .agg [.lit (.int .u8 0), .lit (.int .u8 0)]]
/-- One of Go's own tables, pinned by name: the form's constant. -/
def laid_unicode_utf8_first : DataW Unit := Go.Pinned.utf8First

/-- 'diacriticlaw09.CharsetCuts': WHATEVER THE INPUT: true; the input reads as it did. -/
def charsetCutsSpec : ChangeSpec := { name := "charsetCuts", fn := fun _ => fun
  | [d1, d2, d3] => { results := [.lit (.bool true)], args := [d1, d2, d3] }
  | _ => none }
def charsetCutsRow : OpenClaim := { program := "ytbijjomknbnmfaagreatdoor", sum := "61375cfef99dc4dbf66be8747ecb76f9903578c74ce509865cf95f9f27b17343", func := "diacritic/diacriticlaw09.CharsetCuts", spec := "charsetCuts", inPlace := ["internal/bytealg.IndexByteString", "internal/bytealg.IndexString"], unfollowed := true, recurses := true, named := ["unicode/utf8.first", "unicode/utf8.acceptRanges", "math/bits.deBruijn32tab", "internal/bytealg.MaxLen"], plainKeys := false, apart := false, laid := [("math/bits.deBruijn32tab", laid_math_bits_deBruijn32tab), ("unicode/utf8.acceptRanges", laid_unicode_utf8_acceptRanges), ("unicode/utf8.first", laid_unicode_utf8_first)] }
def CharsetCutsSaid : Prop := charsetCutsRow.holds Tryz.pinned (OpenSpec.ofChange charsetCutsSpec)

/-- ITS FALSE NEIGHBOUR: 'it returns false'. Refute it at one input. -/
def charsetCutsWrong : ChangeSpec := { name := "charsetCuts", fn := fun _ => fun
  | [d1, d2, d3] => { results := [.lit (.bool false)], args := [d1, d2, d3] }
  | _ => none }
def CharsetCutsWrongFalsely : Prop := charsetCutsRow.holds Tryz.pinned (OpenSpec.ofChange charsetCutsWrong)

/-- 'diacriticlaw09.CharsetNames': WHATEVER THE INPUT: true; the input reads as it did. -/
def charsetNamesSpec : ChangeSpec := { name := "charsetNames", fn := fun _ => fun
  | [d1, d2] => { results := [.lit (.bool true)], args := [d1, d2] }
  | _ => none }
def charsetNamesRow : OpenClaim := { program := "ytbijjomknbnmfaagreatdoor", sum := "61375cfef99dc4dbf66be8747ecb76f9903578c74ce509865cf95f9f27b17343", func := "diacritic/diacriticlaw09.CharsetNames", spec := "charsetNames", inPlace := ["internal/bytealg.IndexByteString", "internal/bytealg.IndexString"], unfollowed := true, recurses := true, named := ["unicode/utf8.first", "unicode/utf8.acceptRanges", "math/bits.deBruijn32tab", "internal/bytealg.MaxLen"], plainKeys := false, apart := false, laid := [("math/bits.deBruijn32tab", laid_math_bits_deBruijn32tab), ("unicode/utf8.acceptRanges", laid_unicode_utf8_acceptRanges), ("unicode/utf8.first", laid_unicode_utf8_first)] }
def CharsetNamesSaid : Prop := charsetNamesRow.holds Tryz.pinned (OpenSpec.ofChange charsetNamesSpec)

/-- ITS FALSE NEIGHBOUR: 'it returns false'. Refute it at one input. -/
def charsetNamesWrong : ChangeSpec := { name := "charsetNames", fn := fun _ => fun
  | [d1, d2] => { results := [.lit (.bool false)], args := [d1, d2] }
  | _ => none }
def CharsetNamesWrongFalsely : Prop := charsetNamesRow.holds Tryz.pinned (OpenSpec.ofChange charsetNamesWrong)

/-- 'diacriticlaw09.CharsetTries': WHATEVER THE INPUT: true; the input reads as it did. -/
def charsetTriesSpec : ChangeSpec := { name := "charsetTries", fn := fun _ => fun
  | [d1, d2] => { results := [.lit (.bool true)], args := [d1, d2] }
  | _ => none }
def charsetTriesRow : OpenClaim := { program := "ytbijjomknbnmfaagreatdoor", sum := "61375cfef99dc4dbf66be8747ecb76f9903578c74ce509865cf95f9f27b17343", func := "diacritic/diacriticlaw09.CharsetTries", spec := "charsetTries", inPlace := ["internal/bytealg.IndexByteString", "internal/bytealg.IndexString"], unfollowed := true, recurses := true, named := ["unicode/utf8.first", "unicode/utf8.acceptRanges", "math/bits.deBruijn32tab", "internal/bytealg.MaxLen"], plainKeys := false, apart := false, laid := [("math/bits.deBruijn32tab", laid_math_bits_deBruijn32tab), ("unicode/utf8.acceptRanges", laid_unicode_utf8_acceptRanges), ("unicode/utf8.first", laid_unicode_utf8_first)] }
def CharsetTriesSaid : Prop := charsetTriesRow.holds Tryz.pinned (OpenSpec.ofChange charsetTriesSpec)

/-- ITS FALSE NEIGHBOUR: 'it returns false'. Refute it at one input. -/
def charsetTriesWrong : ChangeSpec := { name := "charsetTries", fn := fun _ => fun
  | [d1, d2] => { results := [.lit (.bool false)], args := [d1, d2] }
  | _ => none }
def CharsetTriesWrongFalsely : Prop := charsetTriesRow.holds Tryz.pinned (OpenSpec.ofChange charsetTriesWrong)

/-- 'diacriticlaw10.DetectScores': WHATEVER THE INPUT: true; the input reads as it did. -/
def detectScoresSpec : ChangeSpec := { name := "detectScores", fn := fun _ => fun
  | [d1, d2] => { results := [.lit (.bool true)], args := [d1, d2] }
  | _ => none }
def detectScoresRow : OpenClaim := { program := "ytbijjomknbnmfaagreatdoor", sum := "61375cfef99dc4dbf66be8747ecb76f9903578c74ce509865cf95f9f27b17343", func := "diacritic/diacriticlaw10.DetectScores", spec := "detectScores", inPlace := ["internal/bytealg.IndexByteString", "internal/bytealg.IndexString"], unfollowed := true, recurses := true, named := ["unicode/utf8.first", "unicode/utf8.acceptRanges", "math/bits.deBruijn32tab", "internal/bytealg.MaxLen"], plainKeys := false, apart := false, laid := [("math/bits.deBruijn32tab", laid_math_bits_deBruijn32tab), ("unicode/utf8.acceptRanges", laid_unicode_utf8_acceptRanges), ("unicode/utf8.first", laid_unicode_utf8_first)] }
def DetectScoresSaid : Prop := detectScoresRow.holds Tryz.pinned (OpenSpec.ofChange detectScoresSpec)

/-- ITS FALSE NEIGHBOUR: 'it returns false'. Refute it at one input. -/
def detectScoresWrong : ChangeSpec := { name := "detectScores", fn := fun _ => fun
  | [d1, d2] => { results := [.lit (.bool false)], args := [d1, d2] }
  | _ => none }
def DetectScoresWrongFalsely : Prop := detectScoresRow.holds Tryz.pinned (OpenSpec.ofChange detectScoresWrong)

/-- 'diacriticlaw10.DetectGuesses': WHATEVER THE INPUT: true; the input reads as it did. -/
def detectGuessesSpec : ChangeSpec := { name := "detectGuesses", fn := fun _ => fun
  | [d1, d2] => { results := [.lit (.bool true)], args := [d1, d2] }
  | _ => none }
def detectGuessesRow : OpenClaim := { program := "ytbijjomknbnmfaagreatdoor", sum := "61375cfef99dc4dbf66be8747ecb76f9903578c74ce509865cf95f9f27b17343", func := "diacritic/diacriticlaw10.DetectGuesses", spec := "detectGuesses", inPlace := ["internal/bytealg.IndexByteString", "internal/bytealg.IndexString"], unfollowed := true, recurses := true, named := ["unicode/utf8.first", "unicode/utf8.acceptRanges", "math/bits.deBruijn32tab", "internal/bytealg.MaxLen"], plainKeys := false, apart := false, laid := [("math/bits.deBruijn32tab", laid_math_bits_deBruijn32tab), ("unicode/utf8.acceptRanges", laid_unicode_utf8_acceptRanges), ("unicode/utf8.first", laid_unicode_utf8_first)] }
def DetectGuessesSaid : Prop := detectGuessesRow.holds Tryz.pinned (OpenSpec.ofChange detectGuessesSpec)

/-- ITS FALSE NEIGHBOUR: 'it returns false'. Refute it at one input. -/
def detectGuessesWrong : ChangeSpec := { name := "detectGuesses", fn := fun _ => fun
  | [d1, d2] => { results := [.lit (.bool false)], args := [d1, d2] }
  | _ => none }
def DetectGuessesWrongFalsely : Prop := detectGuessesRow.holds Tryz.pinned (OpenSpec.ofChange detectGuessesWrong)

/-- 'diacriticlaw10.DetectSums': WHATEVER THE INPUT: true; the input reads as it did. -/
def detectSumsSpec : ChangeSpec := { name := "detectSums", fn := fun _ => fun
  | [d1, d2, d3] => { results := [.lit (.bool true)], args := [d1, d2, d3] }
  | _ => none }
def detectSumsRow : OpenClaim := { program := "ytbijjomknbnmfaagreatdoor", sum := "61375cfef99dc4dbf66be8747ecb76f9903578c74ce509865cf95f9f27b17343", func := "diacritic/diacriticlaw10.DetectSums", spec := "detectSums", inPlace := ["internal/bytealg.IndexByteString", "internal/bytealg.IndexString"], unfollowed := true, recurses := true, named := ["unicode/utf8.first", "unicode/utf8.acceptRanges", "math/bits.deBruijn32tab", "internal/bytealg.MaxLen"], plainKeys := false, apart := false, laid := [("math/bits.deBruijn32tab", laid_math_bits_deBruijn32tab), ("unicode/utf8.acceptRanges", laid_unicode_utf8_acceptRanges), ("unicode/utf8.first", laid_unicode_utf8_first)] }
def DetectSumsSaid : Prop := detectSumsRow.holds Tryz.pinned (OpenSpec.ofChange detectSumsSpec)

/-- ITS FALSE NEIGHBOUR: 'it returns false'. Refute it at one input. -/
def detectSumsWrong : ChangeSpec := { name := "detectSums", fn := fun _ => fun
  | [d1, d2, d3] => { results := [.lit (.bool false)], args := [d1, d2, d3] }
  | _ => none }
def DetectSumsWrongFalsely : Prop := detectSumsRow.holds Tryz.pinned (OpenSpec.ofChange detectSumsWrong)

/-- 'diacriticlaw10.DetectMarks': WHATEVER THE INPUT: true; the input reads as it did. -/
def detectMarksSpec : ChangeSpec := { name := "detectMarks", fn := fun _ => fun
  | [d] => { results := [.lit (.bool true)], args := [d] }
  | _ => none }
def detectMarksRow : OpenClaim := { program := "ytbijjomknbnmfaagreatdoor", sum := "61375cfef99dc4dbf66be8747ecb76f9903578c74ce509865cf95f9f27b17343", func := "diacritic/diacriticlaw10.DetectMarks", spec := "detectMarks", inPlace := ["internal/bytealg.IndexByteString", "internal/bytealg.IndexString"], unfollowed := true, recurses := true, named := ["unicode/utf8.first", "unicode/utf8.acceptRanges", "math/bits.deBruijn32tab", "internal/bytealg.MaxLen"], plainKeys := false, apart := false, laid := [("math/bits.deBruijn32tab", laid_math_bits_deBruijn32tab), ("unicode/utf8.acceptRanges", laid_unicode_utf8_acceptRanges), ("unicode/utf8.first", laid_unicode_utf8_first)] }
def DetectMarksSaid : Prop := detectMarksRow.holds Tryz.pinned (OpenSpec.ofChange detectMarksSpec)

/-- ITS FALSE NEIGHBOUR: 'it returns false'. Refute it at one input. -/
def detectMarksWrong : ChangeSpec := { name := "detectMarks", fn := fun _ => fun
  | [d] => { results := [.lit (.bool false)], args := [d] }
  | _ => none }
def DetectMarksWrongFalsely : Prop := detectMarksRow.holds Tryz.pinned (OpenSpec.ofChange detectMarksWrong)

/-- 'diacriticlaw09.CharsetReads': WHATEVER THE INPUT: true; the input reads as it did. -/
def charsetReadsSpec : ChangeSpec := { name := "charsetReads", fn := fun _ => fun
  | [d1, d2] => { results := [.lit (.bool true)], args := [d1, d2] }
  | _ => none }
def charsetReadsRow : OpenClaim := { program := "ytbijjomknbnmfaagreatdoor", sum := "61375cfef99dc4dbf66be8747ecb76f9903578c74ce509865cf95f9f27b17343", func := "diacritic/diacriticlaw09.CharsetReads", spec := "charsetReads", inPlace := ["internal/bytealg.IndexByteString", "internal/bytealg.IndexString"], unfollowed := true, recurses := true, named := ["unicode/utf8.first", "unicode/utf8.acceptRanges", "math/bits.deBruijn32tab", "internal/bytealg.MaxLen"], plainKeys := false, apart := false, laid := [("math/bits.deBruijn32tab", laid_math_bits_deBruijn32tab), ("unicode/utf8.acceptRanges", laid_unicode_utf8_acceptRanges), ("unicode/utf8.first", laid_unicode_utf8_first)] }
def CharsetReadsSaid : Prop := charsetReadsRow.holds Tryz.pinned (OpenSpec.ofChange charsetReadsSpec)

/-- ITS FALSE NEIGHBOUR: 'it returns false'. Refute it at one input. -/
def charsetReadsWrong : ChangeSpec := { name := "charsetReads", fn := fun _ => fun
  | [d1, d2] => { results := [.lit (.bool false)], args := [d1, d2] }
  | _ => none }
def CharsetReadsWrongFalsely : Prop := charsetReadsRow.holds Tryz.pinned (OpenSpec.ofChange charsetReadsWrong)

/-- 'diacriticlaw09.CharsetWrites': WHATEVER THE INPUT: true; the input reads as it did. -/
def charsetWritesSpec : ChangeSpec := { name := "charsetWrites", fn := fun _ => fun
  | [d1, d2] => { results := [.lit (.bool true)], args := [d1, d2] }
  | _ => none }
def charsetWritesRow : OpenClaim := { program := "ytbijjomknbnmfaagreatdoor", sum := "61375cfef99dc4dbf66be8747ecb76f9903578c74ce509865cf95f9f27b17343", func := "diacritic/diacriticlaw09.CharsetWrites", spec := "charsetWrites", inPlace := ["internal/bytealg.IndexByteString", "internal/bytealg.IndexString"], unfollowed := true, recurses := true, named := ["unicode/utf8.first", "unicode/utf8.acceptRanges", "math/bits.deBruijn32tab", "internal/bytealg.MaxLen"], plainKeys := false, apart := false, laid := [("math/bits.deBruijn32tab", laid_math_bits_deBruijn32tab), ("unicode/utf8.acceptRanges", laid_unicode_utf8_acceptRanges), ("unicode/utf8.first", laid_unicode_utf8_first)] }
def CharsetWritesSaid : Prop := charsetWritesRow.holds Tryz.pinned (OpenSpec.ofChange charsetWritesSpec)

/-- ITS FALSE NEIGHBOUR: 'it returns false'. Refute it at one input. -/
def charsetWritesWrong : ChangeSpec := { name := "charsetWrites", fn := fun _ => fun
  | [d1, d2] => { results := [.lit (.bool false)], args := [d1, d2] }
  | _ => none }
def CharsetWritesWrongFalsely : Prop := charsetWritesRow.holds Tryz.pinned (OpenSpec.ofChange charsetWritesWrong)

/-- 'diacriticlaw09.CharsetPlain': WHATEVER THE INPUT: true; the input reads as it did. -/
def charsetPlainSpec : ChangeSpec := { name := "charsetPlain", fn := fun _ => fun
  | [d1, d2] => { results := [.lit (.bool true)], args := [d1, d2] }
  | _ => none }
def charsetPlainRow : OpenClaim := { program := "ytbijjomknbnmfaagreatdoor", sum := "61375cfef99dc4dbf66be8747ecb76f9903578c74ce509865cf95f9f27b17343", func := "diacritic/diacriticlaw09.CharsetPlain", spec := "charsetPlain", inPlace := ["internal/bytealg.IndexByteString", "internal/bytealg.IndexString"], unfollowed := true, recurses := true, named := ["unicode/utf8.first", "unicode/utf8.acceptRanges", "math/bits.deBruijn32tab", "internal/bytealg.MaxLen"], plainKeys := false, apart := false, laid := [("math/bits.deBruijn32tab", laid_math_bits_deBruijn32tab), ("unicode/utf8.acceptRanges", laid_unicode_utf8_acceptRanges), ("unicode/utf8.first", laid_unicode_utf8_first)] }
def CharsetPlainSaid : Prop := charsetPlainRow.holds Tryz.pinned (OpenSpec.ofChange charsetPlainSpec)

/-- ITS FALSE NEIGHBOUR: 'it returns false'. Refute it at one input. -/
def charsetPlainWrong : ChangeSpec := { name := "charsetPlain", fn := fun _ => fun
  | [d1, d2] => { results := [.lit (.bool false)], args := [d1, d2] }
  | _ => none }
def CharsetPlainWrongFalsely : Prop := charsetPlainRow.holds Tryz.pinned (OpenSpec.ofChange charsetPlainWrong)

/-- 'diacriticlaw10.DetectResolves': WHATEVER THE INPUT: true; the input reads as it did. -/
def detectResolvesSpec : ChangeSpec := { name := "detectResolves", fn := fun _ => fun
  | [d1, d2, d3, d4] => { results := [.lit (.bool true)], args := [d1, d2, d3, d4] }
  | _ => none }
def detectResolvesRow : OpenClaim := { program := "ytbijjomknbnmfaagreatdoor", sum := "61375cfef99dc4dbf66be8747ecb76f9903578c74ce509865cf95f9f27b17343", func := "diacritic/diacriticlaw10.DetectResolves", spec := "detectResolves", inPlace := ["internal/bytealg.IndexByteString", "internal/bytealg.IndexString"], unfollowed := true, recurses := true, named := ["unicode/utf8.first", "unicode/utf8.acceptRanges", "math/bits.deBruijn32tab", "internal/bytealg.MaxLen"], plainKeys := false, apart := false, laid := [("math/bits.deBruijn32tab", laid_math_bits_deBruijn32tab), ("unicode/utf8.acceptRanges", laid_unicode_utf8_acceptRanges), ("unicode/utf8.first", laid_unicode_utf8_first)] }
def DetectResolvesSaid : Prop := detectResolvesRow.holds Tryz.pinned (OpenSpec.ofChange detectResolvesSpec)

/-- ITS FALSE NEIGHBOUR: 'it returns false'. Refute it at one input. -/
def detectResolvesWrong : ChangeSpec := { name := "detectResolves", fn := fun _ => fun
  | [d1, d2, d3, d4] => { results := [.lit (.bool false)], args := [d1, d2, d3, d4] }
  | _ => none }
def DetectResolvesWrongFalsely : Prop := detectResolvesRow.holds Tryz.pinned (OpenSpec.ofChange detectResolvesWrong)

/-- 'diacriticlaw10.DetectSigns': WHATEVER THE INPUT: true; the input reads as it did. -/
def detectSignsSpec : ChangeSpec := { name := "detectSigns", fn := fun _ => fun
  | [d1, d2, d3, d4, d5] => { results := [.lit (.bool true)], args := [d1, d2, d3, d4, d5] }
  | _ => none }
def detectSignsRow : OpenClaim := { program := "ytbijjomknbnmfaagreatdoor", sum := "61375cfef99dc4dbf66be8747ecb76f9903578c74ce509865cf95f9f27b17343", func := "diacritic/diacriticlaw10.DetectSigns", spec := "detectSigns", inPlace := ["internal/bytealg.IndexByteString", "internal/bytealg.IndexString"], unfollowed := true, recurses := true, named := ["unicode/utf8.first", "unicode/utf8.acceptRanges", "math/bits.deBruijn32tab", "internal/bytealg.MaxLen"], plainKeys := false, apart := false, laid := [("math/bits.deBruijn32tab", laid_math_bits_deBruijn32tab), ("unicode/utf8.acceptRanges", laid_unicode_utf8_acceptRanges), ("unicode/utf8.first", laid_unicode_utf8_first)] }
def DetectSignsSaid : Prop := detectSignsRow.holds Tryz.pinned (OpenSpec.ofChange detectSignsSpec)

/-- ITS FALSE NEIGHBOUR: 'it returns false'. Refute it at one input. -/
def detectSignsWrong : ChangeSpec := { name := "detectSigns", fn := fun _ => fun
  | [d1, d2, d3, d4, d5] => { results := [.lit (.bool false)], args := [d1, d2, d3, d4, d5] }
  | _ => none }
def DetectSignsWrongFalsely : Prop := detectSignsRow.holds Tryz.pinned (OpenSpec.ofChange detectSignsWrong)

/- THE SECOND FORM. 'bulk': how many values and letters a reading holds, each counted each time it is reached (what is shared counts as often as it is met; a slice's spare places count too). A statement '..UptoSaid' is the law's where the arguments, and the package variables that the reading takes, are together of bulk at most 1048576: NARROWER than '..Said'. Prove '..Said' where nothing that the law and all that it calls make is longer than what came in: it says more and counts as full. Else prove '..UptoSaid'. A law counts once. -/
mutual
def uptoBulk {H : Type} : DataW H → Nat
  | .lit (.string bytes) => bytes.length + 1
  | .lit _ => 1
  | .nil => 1
  | .ptr d => uptoBulk d + 1
  | .slice elems spare => uptoBulkAll elems + uptoBulkAll spare + 1
  | .agg parts => uptoBulkAll parts + 1
  | .iface _ d => uptoBulk d + 1
  | .map entries => uptoBulkEntries entries + 1
  | .held _ => 1
def uptoBulkAll {H : Type} : List (DataW H) → Nat
  | [] => 0
  | d :: r => uptoBulk d + uptoBulkAll r
def uptoBulkEntries {H : Type} : List (Lit × DataW H) → Nat
  | [] => 0
  | x :: r => uptoBulkEntry x + uptoBulkEntries r
def uptoBulkEntry {H : Type} : Lit × DataW H → Nat
  | (.string bytes, d) => bytes.length + uptoBulk d + 1
  | (_, d) => uptoBulk d + 1
 end
def uptoSmall : (H : Type) → List (DataW H) → Bool := fun _ ds => decide (uptoBulkAll ds ≤ 1048576)
def OpenSpec.upto (s : _root_.Go.ChangeSpec) : _root_.Go.OpenSpec := { _root_.Go.OpenSpec.ofChange s with cond := some uptoSmall }

/-- 'diacriticlaw09.CharsetCuts', WHERE WHAT IT READS IS OF BULK AT MOST 1048576: true; the input reads as it did. -/
def charsetCutsUptoRow : OpenClaim := { program := "ytbijjomknbnmfaagreatdoor", sum := "61375cfef99dc4dbf66be8747ecb76f9903578c74ce509865cf95f9f27b17343", func := "diacritic/diacriticlaw09.CharsetCuts", spec := "charsetCuts", inPlace := ["internal/bytealg.IndexByteString", "internal/bytealg.IndexString"], unfollowed := true, recurses := true, named := ["unicode/utf8.first", "unicode/utf8.acceptRanges", "math/bits.deBruijn32tab", "internal/bytealg.MaxLen"], plainKeys := false, apart := false, laid := [("math/bits.deBruijn32tab", laid_math_bits_deBruijn32tab), ("unicode/utf8.acceptRanges", laid_unicode_utf8_acceptRanges), ("unicode/utf8.first", laid_unicode_utf8_first)], narrowed := true }
def CharsetCutsUptoSaid : Prop := charsetCutsUptoRow.holds Tryz.pinned (OpenSpec.upto charsetCutsSpec)

/-- 'diacriticlaw09.CharsetNames', WHERE WHAT IT READS IS OF BULK AT MOST 1048576: true; the input reads as it did. -/
def charsetNamesUptoRow : OpenClaim := { program := "ytbijjomknbnmfaagreatdoor", sum := "61375cfef99dc4dbf66be8747ecb76f9903578c74ce509865cf95f9f27b17343", func := "diacritic/diacriticlaw09.CharsetNames", spec := "charsetNames", inPlace := ["internal/bytealg.IndexByteString", "internal/bytealg.IndexString"], unfollowed := true, recurses := true, named := ["unicode/utf8.first", "unicode/utf8.acceptRanges", "math/bits.deBruijn32tab", "internal/bytealg.MaxLen"], plainKeys := false, apart := false, laid := [("math/bits.deBruijn32tab", laid_math_bits_deBruijn32tab), ("unicode/utf8.acceptRanges", laid_unicode_utf8_acceptRanges), ("unicode/utf8.first", laid_unicode_utf8_first)], narrowed := true }
def CharsetNamesUptoSaid : Prop := charsetNamesUptoRow.holds Tryz.pinned (OpenSpec.upto charsetNamesSpec)

/-- 'diacriticlaw09.CharsetTries', WHERE WHAT IT READS IS OF BULK AT MOST 1048576: true; the input reads as it did. -/
def charsetTriesUptoRow : OpenClaim := { program := "ytbijjomknbnmfaagreatdoor", sum := "61375cfef99dc4dbf66be8747ecb76f9903578c74ce509865cf95f9f27b17343", func := "diacritic/diacriticlaw09.CharsetTries", spec := "charsetTries", inPlace := ["internal/bytealg.IndexByteString", "internal/bytealg.IndexString"], unfollowed := true, recurses := true, named := ["unicode/utf8.first", "unicode/utf8.acceptRanges", "math/bits.deBruijn32tab", "internal/bytealg.MaxLen"], plainKeys := false, apart := false, laid := [("math/bits.deBruijn32tab", laid_math_bits_deBruijn32tab), ("unicode/utf8.acceptRanges", laid_unicode_utf8_acceptRanges), ("unicode/utf8.first", laid_unicode_utf8_first)], narrowed := true }
def CharsetTriesUptoSaid : Prop := charsetTriesUptoRow.holds Tryz.pinned (OpenSpec.upto charsetTriesSpec)

/-- 'diacriticlaw10.DetectScores', WHERE WHAT IT READS IS OF BULK AT MOST 1048576: true; the input reads as it did. -/
def detectScoresUptoRow : OpenClaim := { program := "ytbijjomknbnmfaagreatdoor", sum := "61375cfef99dc4dbf66be8747ecb76f9903578c74ce509865cf95f9f27b17343", func := "diacritic/diacriticlaw10.DetectScores", spec := "detectScores", inPlace := ["internal/bytealg.IndexByteString", "internal/bytealg.IndexString"], unfollowed := true, recurses := true, named := ["unicode/utf8.first", "unicode/utf8.acceptRanges", "math/bits.deBruijn32tab", "internal/bytealg.MaxLen"], plainKeys := false, apart := false, laid := [("math/bits.deBruijn32tab", laid_math_bits_deBruijn32tab), ("unicode/utf8.acceptRanges", laid_unicode_utf8_acceptRanges), ("unicode/utf8.first", laid_unicode_utf8_first)], narrowed := true }
def DetectScoresUptoSaid : Prop := detectScoresUptoRow.holds Tryz.pinned (OpenSpec.upto detectScoresSpec)

/-- 'diacriticlaw10.DetectGuesses', WHERE WHAT IT READS IS OF BULK AT MOST 1048576: true; the input reads as it did. -/
def detectGuessesUptoRow : OpenClaim := { program := "ytbijjomknbnmfaagreatdoor", sum := "61375cfef99dc4dbf66be8747ecb76f9903578c74ce509865cf95f9f27b17343", func := "diacritic/diacriticlaw10.DetectGuesses", spec := "detectGuesses", inPlace := ["internal/bytealg.IndexByteString", "internal/bytealg.IndexString"], unfollowed := true, recurses := true, named := ["unicode/utf8.first", "unicode/utf8.acceptRanges", "math/bits.deBruijn32tab", "internal/bytealg.MaxLen"], plainKeys := false, apart := false, laid := [("math/bits.deBruijn32tab", laid_math_bits_deBruijn32tab), ("unicode/utf8.acceptRanges", laid_unicode_utf8_acceptRanges), ("unicode/utf8.first", laid_unicode_utf8_first)], narrowed := true }
def DetectGuessesUptoSaid : Prop := detectGuessesUptoRow.holds Tryz.pinned (OpenSpec.upto detectGuessesSpec)

/-- 'diacriticlaw10.DetectSums', WHERE WHAT IT READS IS OF BULK AT MOST 1048576: true; the input reads as it did. -/
def detectSumsUptoRow : OpenClaim := { program := "ytbijjomknbnmfaagreatdoor", sum := "61375cfef99dc4dbf66be8747ecb76f9903578c74ce509865cf95f9f27b17343", func := "diacritic/diacriticlaw10.DetectSums", spec := "detectSums", inPlace := ["internal/bytealg.IndexByteString", "internal/bytealg.IndexString"], unfollowed := true, recurses := true, named := ["unicode/utf8.first", "unicode/utf8.acceptRanges", "math/bits.deBruijn32tab", "internal/bytealg.MaxLen"], plainKeys := false, apart := false, laid := [("math/bits.deBruijn32tab", laid_math_bits_deBruijn32tab), ("unicode/utf8.acceptRanges", laid_unicode_utf8_acceptRanges), ("unicode/utf8.first", laid_unicode_utf8_first)], narrowed := true }
def DetectSumsUptoSaid : Prop := detectSumsUptoRow.holds Tryz.pinned (OpenSpec.upto detectSumsSpec)

/-- 'diacriticlaw10.DetectMarks', WHERE WHAT IT READS IS OF BULK AT MOST 1048576: true; the input reads as it did. -/
def detectMarksUptoRow : OpenClaim := { program := "ytbijjomknbnmfaagreatdoor", sum := "61375cfef99dc4dbf66be8747ecb76f9903578c74ce509865cf95f9f27b17343", func := "diacritic/diacriticlaw10.DetectMarks", spec := "detectMarks", inPlace := ["internal/bytealg.IndexByteString", "internal/bytealg.IndexString"], unfollowed := true, recurses := true, named := ["unicode/utf8.first", "unicode/utf8.acceptRanges", "math/bits.deBruijn32tab", "internal/bytealg.MaxLen"], plainKeys := false, apart := false, laid := [("math/bits.deBruijn32tab", laid_math_bits_deBruijn32tab), ("unicode/utf8.acceptRanges", laid_unicode_utf8_acceptRanges), ("unicode/utf8.first", laid_unicode_utf8_first)], narrowed := true }
def DetectMarksUptoSaid : Prop := detectMarksUptoRow.holds Tryz.pinned (OpenSpec.upto detectMarksSpec)

/-- 'diacriticlaw09.CharsetReads', WHERE WHAT IT READS IS OF BULK AT MOST 1048576: true; the input reads as it did. -/
def charsetReadsUptoRow : OpenClaim := { program := "ytbijjomknbnmfaagreatdoor", sum := "61375cfef99dc4dbf66be8747ecb76f9903578c74ce509865cf95f9f27b17343", func := "diacritic/diacriticlaw09.CharsetReads", spec := "charsetReads", inPlace := ["internal/bytealg.IndexByteString", "internal/bytealg.IndexString"], unfollowed := true, recurses := true, named := ["unicode/utf8.first", "unicode/utf8.acceptRanges", "math/bits.deBruijn32tab", "internal/bytealg.MaxLen"], plainKeys := false, apart := false, laid := [("math/bits.deBruijn32tab", laid_math_bits_deBruijn32tab), ("unicode/utf8.acceptRanges", laid_unicode_utf8_acceptRanges), ("unicode/utf8.first", laid_unicode_utf8_first)], narrowed := true }
def CharsetReadsUptoSaid : Prop := charsetReadsUptoRow.holds Tryz.pinned (OpenSpec.upto charsetReadsSpec)

/-- 'diacriticlaw09.CharsetWrites', WHERE WHAT IT READS IS OF BULK AT MOST 1048576: true; the input reads as it did. -/
def charsetWritesUptoRow : OpenClaim := { program := "ytbijjomknbnmfaagreatdoor", sum := "61375cfef99dc4dbf66be8747ecb76f9903578c74ce509865cf95f9f27b17343", func := "diacritic/diacriticlaw09.CharsetWrites", spec := "charsetWrites", inPlace := ["internal/bytealg.IndexByteString", "internal/bytealg.IndexString"], unfollowed := true, recurses := true, named := ["unicode/utf8.first", "unicode/utf8.acceptRanges", "math/bits.deBruijn32tab", "internal/bytealg.MaxLen"], plainKeys := false, apart := false, laid := [("math/bits.deBruijn32tab", laid_math_bits_deBruijn32tab), ("unicode/utf8.acceptRanges", laid_unicode_utf8_acceptRanges), ("unicode/utf8.first", laid_unicode_utf8_first)], narrowed := true }
def CharsetWritesUptoSaid : Prop := charsetWritesUptoRow.holds Tryz.pinned (OpenSpec.upto charsetWritesSpec)

/-- 'diacriticlaw09.CharsetPlain', WHERE WHAT IT READS IS OF BULK AT MOST 1048576: true; the input reads as it did. -/
def charsetPlainUptoRow : OpenClaim := { program := "ytbijjomknbnmfaagreatdoor", sum := "61375cfef99dc4dbf66be8747ecb76f9903578c74ce509865cf95f9f27b17343", func := "diacritic/diacriticlaw09.CharsetPlain", spec := "charsetPlain", inPlace := ["internal/bytealg.IndexByteString", "internal/bytealg.IndexString"], unfollowed := true, recurses := true, named := ["unicode/utf8.first", "unicode/utf8.acceptRanges", "math/bits.deBruijn32tab", "internal/bytealg.MaxLen"], plainKeys := false, apart := false, laid := [("math/bits.deBruijn32tab", laid_math_bits_deBruijn32tab), ("unicode/utf8.acceptRanges", laid_unicode_utf8_acceptRanges), ("unicode/utf8.first", laid_unicode_utf8_first)], narrowed := true }
def CharsetPlainUptoSaid : Prop := charsetPlainUptoRow.holds Tryz.pinned (OpenSpec.upto charsetPlainSpec)

/-- 'diacriticlaw10.DetectResolves', WHERE WHAT IT READS IS OF BULK AT MOST 1048576: true; the input reads as it did. -/
def detectResolvesUptoRow : OpenClaim := { program := "ytbijjomknbnmfaagreatdoor", sum := "61375cfef99dc4dbf66be8747ecb76f9903578c74ce509865cf95f9f27b17343", func := "diacritic/diacriticlaw10.DetectResolves", spec := "detectResolves", inPlace := ["internal/bytealg.IndexByteString", "internal/bytealg.IndexString"], unfollowed := true, recurses := true, named := ["unicode/utf8.first", "unicode/utf8.acceptRanges", "math/bits.deBruijn32tab", "internal/bytealg.MaxLen"], plainKeys := false, apart := false, laid := [("math/bits.deBruijn32tab", laid_math_bits_deBruijn32tab), ("unicode/utf8.acceptRanges", laid_unicode_utf8_acceptRanges), ("unicode/utf8.first", laid_unicode_utf8_first)], narrowed := true }
def DetectResolvesUptoSaid : Prop := detectResolvesUptoRow.holds Tryz.pinned (OpenSpec.upto detectResolvesSpec)

/-- 'diacriticlaw10.DetectSigns', WHERE WHAT IT READS IS OF BULK AT MOST 1048576: true; the input reads as it did. -/
def detectSignsUptoRow : OpenClaim := { program := "ytbijjomknbnmfaagreatdoor", sum := "61375cfef99dc4dbf66be8747ecb76f9903578c74ce509865cf95f9f27b17343", func := "diacritic/diacriticlaw10.DetectSigns", spec := "detectSigns", inPlace := ["internal/bytealg.IndexByteString", "internal/bytealg.IndexString"], unfollowed := true, recurses := true, named := ["unicode/utf8.first", "unicode/utf8.acceptRanges", "math/bits.deBruijn32tab", "internal/bytealg.MaxLen"], plainKeys := false, apart := false, laid := [("math/bits.deBruijn32tab", laid_math_bits_deBruijn32tab), ("unicode/utf8.acceptRanges", laid_unicode_utf8_acceptRanges), ("unicode/utf8.first", laid_unicode_utf8_first)], narrowed := true }
def DetectSignsUptoSaid : Prop := detectSignsUptoRow.holds Tryz.pinned (OpenSpec.upto detectSignsSpec)

end Rows
end Go.Proofs.YtbijjomknbnmfaaGreatDoor
