/-
  NARROWER THAN 'FOR EVERY INPUT', by the rows' own cells (each row's printed sentence says how): UtfReads: laid · UtfCuts: laid · UtfOne: laid · UtfReadOnly: laid · UtfCases: laid · UtfThere: laid · UtfBack: laid · UtfLiteral: laid · UtfEscapes: laid · UtfFinds: laid · UtfFresh: laid · UtfSplits: laid · UtfParts: laid · UtfAnswers: laid.
  DERIVED. THE GIVEN ROWS OF THIS SEAT. 14 by the template 'for every input the law returns true; each argument reads behind the call as it read before'; 0 by the template 'total and deterministic' (their statements: YtfkianfddjccgaaDoorTotals.lean).
  GIVEN WITH THE SEED: the statements are not yours to turn. If you find one false, say at which input.
  Laid BY PROGRAM, IN A SANDBOX (cutbox-rows.mjs): the forced cells as the released guide's own fill.sh prints them over the translation 089a69a2b838da73… (all of the seat's roots in one cut). By AI agents, Wed Nov 11 2026. No macro, syntax, notation, axiom, sorry.
-/
import Derived.Test.YtfkianfddjccgaaDoorChecked
import GoSem.PinnedTables
import GoSem.Claim
import GoSem.ClaimJoined
import GoSem.ClaimMapViews
import Derived.JoinedTies
import Derived.KernelRfl
namespace Go.Proofs.YtfkianfddjccgaaDoor
/- THE CELL 'sum', in the pinned program and in every row, IS THE sha256 OF THE DUMP (.gsa) THAT YtfkianfddjccgaaDoorProg.lean LOADS. Nothing in Lean hashes anything: it is a label: what it is worth is what the hold of that sum in a sandbox is worth. -/
noncomputable def Tryd.pinned : Pinned := { name := "ytfkianfddjccgaadoor", sum := "089a69a2b838da73f6ebc8e782516f7e1b8ee0c82c5f4d1445ffd560e15303c0", checked := Tryd.checked }
namespace Rows
def none {H : Type} : Left H := { results := [], args := [] }

/- WHAT THE LISTED PACKAGE-LEVEL VARIABLES READ AS WHEN THE CALL BEGINS. Each datum BY PROGRAM (the guide's laid-datum.mjs) off the statement by which the dump's own 'gosem.cut.vars' lays the variable. In a bare row this is a premise. The card (YtfkianfddjccgaaDoorCards.lean) ties it to the program's text. -/
def laid_unicode_utf8_acceptRanges {H : Type} : DataW H := .agg [.agg [.lit (.int .u8 128), .lit (.int .u8 191)], .agg [.lit (.int .u8 160), .lit (.int .u8 191)], .agg [.lit (.int .u8 128), .lit (.int .u8 159)], .agg [.lit (.int .u8 144), .lit (.int .u8 191)], .agg [.lit (.int .u8 128), .lit (.int .u8 143)], .agg [.lit (.int .u8 0), .lit (.int .u8 0)], .agg [.lit (.int .u8 0), .lit (.int .u8 0)], .agg [.lit (.int .u8 0), .lit (.int .u8 0)], .agg [.lit (.int .u8 0), .lit (.int .u8 0)], .agg [.lit (.int .u8 0), .lit (.int .u8 0)], .agg [.lit (.int .u8 0), .lit (.int .u8 0)], .agg [.lit (.int .u8 0), .lit (.int .u8 0)], .agg [.lit (.int .u8 0), .lit (.int .u8 0)], .agg [.lit (.int .u8 0), .lit (.int .u8 0)], .agg [.lit (.int .u8 0), .lit (.int .u8 0)], .agg [.lit (.int .u8 0), .lit (.int .u8 0)]]
/-- One of Go's own tables, pinned by name: the form's constant. -/
def laid_unicode_utf8_first : DataW Unit := Go.Pinned.utf8First

/-- 'hallmarklaw02.UtfReads': WHATEVER THE INPUT: true; the input reads as it did. -/
def utfReadsSpec : ChangeSpec := { name := "utfReads", fn := fun _ => fun
  | [d1, d2] => { results := [.lit (.bool true)], args := [d1, d2] }
  | _ => none }
def utfReadsRow : OpenClaim := { program := "ytfkianfddjccgaadoor", sum := "089a69a2b838da73f6ebc8e782516f7e1b8ee0c82c5f4d1445ffd560e15303c0", func := "hallmark/hallmarklaw02.UtfReads", spec := "utfReads", inPlace := ["internal/abi.NoEscape"], named := ["unicode/utf8.first", "unicode/utf8.acceptRanges"], apart := false, laid := [("unicode/utf8.acceptRanges", laid_unicode_utf8_acceptRanges), ("unicode/utf8.first", laid_unicode_utf8_first)] }
def UtfReadsSaid : Prop := utfReadsRow.holds Tryd.pinned (OpenSpec.ofChange utfReadsSpec)

/-- ITS FALSE NEIGHBOUR: 'it returns false'. Refute it at one input. -/
def utfReadsWrong : ChangeSpec := { name := "utfReads", fn := fun _ => fun
  | [d1, d2] => { results := [.lit (.bool false)], args := [d1, d2] }
  | _ => none }
def UtfReadsWrongFalsely : Prop := utfReadsRow.holds Tryd.pinned (OpenSpec.ofChange utfReadsWrong)

/-- 'hallmarklaw02.UtfCuts': WHATEVER THE INPUT: true; the input reads as it did. -/
def utfCutsSpec : ChangeSpec := { name := "utfCuts", fn := fun _ => fun
  | [d1, d2, d3] => { results := [.lit (.bool true)], args := [d1, d2, d3] }
  | _ => none }
def utfCutsRow : OpenClaim := { program := "ytfkianfddjccgaadoor", sum := "089a69a2b838da73f6ebc8e782516f7e1b8ee0c82c5f4d1445ffd560e15303c0", func := "hallmark/hallmarklaw02.UtfCuts", spec := "utfCuts", inPlace := ["internal/abi.NoEscape"], named := ["unicode/utf8.first", "unicode/utf8.acceptRanges"], apart := false, laid := [("unicode/utf8.acceptRanges", laid_unicode_utf8_acceptRanges), ("unicode/utf8.first", laid_unicode_utf8_first)] }
def UtfCutsSaid : Prop := utfCutsRow.holds Tryd.pinned (OpenSpec.ofChange utfCutsSpec)

/-- ITS FALSE NEIGHBOUR: 'it returns false'. Refute it at one input. -/
def utfCutsWrong : ChangeSpec := { name := "utfCuts", fn := fun _ => fun
  | [d1, d2, d3] => { results := [.lit (.bool false)], args := [d1, d2, d3] }
  | _ => none }
def UtfCutsWrongFalsely : Prop := utfCutsRow.holds Tryd.pinned (OpenSpec.ofChange utfCutsWrong)

/-- 'hallmarklaw02.UtfOne': WHATEVER THE INPUT: true; the input reads as it did. -/
def utfOneSpec : ChangeSpec := { name := "utfOne", fn := fun _ => fun
  | [d] => { results := [.lit (.bool true)], args := [d] }
  | _ => none }
def utfOneRow : OpenClaim := { program := "ytfkianfddjccgaadoor", sum := "089a69a2b838da73f6ebc8e782516f7e1b8ee0c82c5f4d1445ffd560e15303c0", func := "hallmark/hallmarklaw02.UtfOne", spec := "utfOne", inPlace := ["internal/abi.NoEscape"], named := ["unicode/utf8.first", "unicode/utf8.acceptRanges"], apart := false, laid := [("unicode/utf8.acceptRanges", laid_unicode_utf8_acceptRanges), ("unicode/utf8.first", laid_unicode_utf8_first)] }
def UtfOneSaid : Prop := utfOneRow.holds Tryd.pinned (OpenSpec.ofChange utfOneSpec)

/-- ITS FALSE NEIGHBOUR: 'it returns false'. Refute it at one input. -/
def utfOneWrong : ChangeSpec := { name := "utfOne", fn := fun _ => fun
  | [d] => { results := [.lit (.bool false)], args := [d] }
  | _ => none }
def UtfOneWrongFalsely : Prop := utfOneRow.holds Tryd.pinned (OpenSpec.ofChange utfOneWrong)

/-- 'hallmarklaw02.UtfReadOnly': WHATEVER THE INPUT: true; the input reads as it did. -/
def utfReadOnlySpec : ChangeSpec := { name := "utfReadOnly", fn := fun _ => fun
  | [d1, d2] => { results := [.lit (.bool true)], args := [d1, d2] }
  | _ => none }
def utfReadOnlyRow : OpenClaim := { program := "ytfkianfddjccgaadoor", sum := "089a69a2b838da73f6ebc8e782516f7e1b8ee0c82c5f4d1445ffd560e15303c0", func := "hallmark/hallmarklaw02.UtfReadOnly", spec := "utfReadOnly", inPlace := ["internal/abi.NoEscape"], named := ["unicode/utf8.first", "unicode/utf8.acceptRanges"], apart := false, laid := [("unicode/utf8.acceptRanges", laid_unicode_utf8_acceptRanges), ("unicode/utf8.first", laid_unicode_utf8_first)] }
def UtfReadOnlySaid : Prop := utfReadOnlyRow.holds Tryd.pinned (OpenSpec.ofChange utfReadOnlySpec)

/-- ITS FALSE NEIGHBOUR: 'it returns false'. Refute it at one input. -/
def utfReadOnlyWrong : ChangeSpec := { name := "utfReadOnly", fn := fun _ => fun
  | [d1, d2] => { results := [.lit (.bool false)], args := [d1, d2] }
  | _ => none }
def UtfReadOnlyWrongFalsely : Prop := utfReadOnlyRow.holds Tryd.pinned (OpenSpec.ofChange utfReadOnlyWrong)

/-- 'hallmarklaw02.UtfCases': WHATEVER THE INPUT: true; the input reads as it did. -/
def utfCasesSpec : ChangeSpec := { name := "utfCases", fn := fun _ => fun
  | [d] => { results := [.lit (.bool true)], args := [d] }
  | _ => none }
def utfCasesRow : OpenClaim := { program := "ytfkianfddjccgaadoor", sum := "089a69a2b838da73f6ebc8e782516f7e1b8ee0c82c5f4d1445ffd560e15303c0", func := "hallmark/hallmarklaw02.UtfCases", spec := "utfCases", inPlace := ["internal/abi.NoEscape"], named := ["unicode/utf8.first", "unicode/utf8.acceptRanges"], apart := false, laid := [("unicode/utf8.acceptRanges", laid_unicode_utf8_acceptRanges), ("unicode/utf8.first", laid_unicode_utf8_first)] }
def UtfCasesSaid : Prop := utfCasesRow.holds Tryd.pinned (OpenSpec.ofChange utfCasesSpec)

/-- ITS FALSE NEIGHBOUR: 'it returns false'. Refute it at one input. -/
def utfCasesWrong : ChangeSpec := { name := "utfCases", fn := fun _ => fun
  | [d] => { results := [.lit (.bool false)], args := [d] }
  | _ => none }
def UtfCasesWrongFalsely : Prop := utfCasesRow.holds Tryd.pinned (OpenSpec.ofChange utfCasesWrong)

/-- 'hallmarklaw02.UtfThere': WHATEVER THE INPUT: true; the input reads as it did. -/
def utfThereSpec : ChangeSpec := { name := "utfThere", fn := fun _ => fun
  | [d] => { results := [.lit (.bool true)], args := [d] }
  | _ => none }
def utfThereRow : OpenClaim := { program := "ytfkianfddjccgaadoor", sum := "089a69a2b838da73f6ebc8e782516f7e1b8ee0c82c5f4d1445ffd560e15303c0", func := "hallmark/hallmarklaw02.UtfThere", spec := "utfThere", inPlace := ["internal/abi.NoEscape"], named := ["unicode/utf8.first", "unicode/utf8.acceptRanges"], apart := false, laid := [("unicode/utf8.acceptRanges", laid_unicode_utf8_acceptRanges), ("unicode/utf8.first", laid_unicode_utf8_first)] }
def UtfThereSaid : Prop := utfThereRow.holds Tryd.pinned (OpenSpec.ofChange utfThereSpec)

/-- ITS FALSE NEIGHBOUR: 'it returns false'. Refute it at one input. -/
def utfThereWrong : ChangeSpec := { name := "utfThere", fn := fun _ => fun
  | [d] => { results := [.lit (.bool false)], args := [d] }
  | _ => none }
def UtfThereWrongFalsely : Prop := utfThereRow.holds Tryd.pinned (OpenSpec.ofChange utfThereWrong)

/-- 'hallmarklaw02.UtfBack': WHATEVER THE INPUT: true; the input reads as it did. -/
def utfBackSpec : ChangeSpec := { name := "utfBack", fn := fun _ => fun
  | [d] => { results := [.lit (.bool true)], args := [d] }
  | _ => none }
def utfBackRow : OpenClaim := { program := "ytfkianfddjccgaadoor", sum := "089a69a2b838da73f6ebc8e782516f7e1b8ee0c82c5f4d1445ffd560e15303c0", func := "hallmark/hallmarklaw02.UtfBack", spec := "utfBack", inPlace := ["internal/abi.NoEscape"], named := ["unicode/utf8.first", "unicode/utf8.acceptRanges"], apart := false, laid := [("unicode/utf8.acceptRanges", laid_unicode_utf8_acceptRanges), ("unicode/utf8.first", laid_unicode_utf8_first)] }
def UtfBackSaid : Prop := utfBackRow.holds Tryd.pinned (OpenSpec.ofChange utfBackSpec)

/-- ITS FALSE NEIGHBOUR: 'it returns false'. Refute it at one input. -/
def utfBackWrong : ChangeSpec := { name := "utfBack", fn := fun _ => fun
  | [d] => { results := [.lit (.bool false)], args := [d] }
  | _ => none }
def UtfBackWrongFalsely : Prop := utfBackRow.holds Tryd.pinned (OpenSpec.ofChange utfBackWrong)

/-- 'hallmarklaw02.UtfLiteral': WHATEVER THE INPUT: true; the input reads as it did. -/
def utfLiteralSpec : ChangeSpec := { name := "utfLiteral", fn := fun _ => fun
  | [d1, d2, d3] => { results := [.lit (.bool true)], args := [d1, d2, d3] }
  | _ => none }
def utfLiteralRow : OpenClaim := { program := "ytfkianfddjccgaadoor", sum := "089a69a2b838da73f6ebc8e782516f7e1b8ee0c82c5f4d1445ffd560e15303c0", func := "hallmark/hallmarklaw02.UtfLiteral", spec := "utfLiteral", inPlace := ["internal/abi.NoEscape"], named := ["unicode/utf8.first", "unicode/utf8.acceptRanges"], apart := false, laid := [("unicode/utf8.acceptRanges", laid_unicode_utf8_acceptRanges), ("unicode/utf8.first", laid_unicode_utf8_first)] }
def UtfLiteralSaid : Prop := utfLiteralRow.holds Tryd.pinned (OpenSpec.ofChange utfLiteralSpec)

/-- ITS FALSE NEIGHBOUR: 'it returns false'. Refute it at one input. -/
def utfLiteralWrong : ChangeSpec := { name := "utfLiteral", fn := fun _ => fun
  | [d1, d2, d3] => { results := [.lit (.bool false)], args := [d1, d2, d3] }
  | _ => none }
def UtfLiteralWrongFalsely : Prop := utfLiteralRow.holds Tryd.pinned (OpenSpec.ofChange utfLiteralWrong)

/-- 'hallmarklaw02.UtfEscapes': WHATEVER THE INPUT: true; the input reads as it did. -/
def utfEscapesSpec : ChangeSpec := { name := "utfEscapes", fn := fun _ => fun
  | [d1, d2, d3] => { results := [.lit (.bool true)], args := [d1, d2, d3] }
  | _ => none }
def utfEscapesRow : OpenClaim := { program := "ytfkianfddjccgaadoor", sum := "089a69a2b838da73f6ebc8e782516f7e1b8ee0c82c5f4d1445ffd560e15303c0", func := "hallmark/hallmarklaw02.UtfEscapes", spec := "utfEscapes", inPlace := ["internal/abi.NoEscape"], named := ["unicode/utf8.first", "unicode/utf8.acceptRanges"], apart := false, laid := [("unicode/utf8.acceptRanges", laid_unicode_utf8_acceptRanges), ("unicode/utf8.first", laid_unicode_utf8_first)] }
def UtfEscapesSaid : Prop := utfEscapesRow.holds Tryd.pinned (OpenSpec.ofChange utfEscapesSpec)

/-- ITS FALSE NEIGHBOUR: 'it returns false'. Refute it at one input. -/
def utfEscapesWrong : ChangeSpec := { name := "utfEscapes", fn := fun _ => fun
  | [d1, d2, d3] => { results := [.lit (.bool false)], args := [d1, d2, d3] }
  | _ => none }
def UtfEscapesWrongFalsely : Prop := utfEscapesRow.holds Tryd.pinned (OpenSpec.ofChange utfEscapesWrong)

/-- 'hallmarklaw02.UtfFinds': WHATEVER THE INPUT: true; the input reads as it did. -/
def utfFindsSpec : ChangeSpec := { name := "utfFinds", fn := fun _ => fun
  | [d1, d2] => { results := [.lit (.bool true)], args := [d1, d2] }
  | _ => none }
def utfFindsRow : OpenClaim := { program := "ytfkianfddjccgaadoor", sum := "089a69a2b838da73f6ebc8e782516f7e1b8ee0c82c5f4d1445ffd560e15303c0", func := "hallmark/hallmarklaw02.UtfFinds", spec := "utfFinds", inPlace := ["internal/abi.NoEscape"], named := ["unicode/utf8.first", "unicode/utf8.acceptRanges"], apart := false, laid := [("unicode/utf8.acceptRanges", laid_unicode_utf8_acceptRanges), ("unicode/utf8.first", laid_unicode_utf8_first)] }
def UtfFindsSaid : Prop := utfFindsRow.holds Tryd.pinned (OpenSpec.ofChange utfFindsSpec)

/-- ITS FALSE NEIGHBOUR: 'it returns false'. Refute it at one input. -/
def utfFindsWrong : ChangeSpec := { name := "utfFinds", fn := fun _ => fun
  | [d1, d2] => { results := [.lit (.bool false)], args := [d1, d2] }
  | _ => none }
def UtfFindsWrongFalsely : Prop := utfFindsRow.holds Tryd.pinned (OpenSpec.ofChange utfFindsWrong)

/-- 'hallmarklaw02.UtfFresh': WHATEVER THE INPUT: true; the input reads as it did. -/
def utfFreshSpec : ChangeSpec := { name := "utfFresh", fn := fun _ => fun
  | [d1, d2] => { results := [.lit (.bool true)], args := [d1, d2] }
  | _ => none }
def utfFreshRow : OpenClaim := { program := "ytfkianfddjccgaadoor", sum := "089a69a2b838da73f6ebc8e782516f7e1b8ee0c82c5f4d1445ffd560e15303c0", func := "hallmark/hallmarklaw02.UtfFresh", spec := "utfFresh", inPlace := ["internal/abi.NoEscape"], named := ["unicode/utf8.first", "unicode/utf8.acceptRanges"], apart := false, laid := [("unicode/utf8.acceptRanges", laid_unicode_utf8_acceptRanges), ("unicode/utf8.first", laid_unicode_utf8_first)] }
def UtfFreshSaid : Prop := utfFreshRow.holds Tryd.pinned (OpenSpec.ofChange utfFreshSpec)

/-- ITS FALSE NEIGHBOUR: 'it returns false'. Refute it at one input. -/
def utfFreshWrong : ChangeSpec := { name := "utfFresh", fn := fun _ => fun
  | [d1, d2] => { results := [.lit (.bool false)], args := [d1, d2] }
  | _ => none }
def UtfFreshWrongFalsely : Prop := utfFreshRow.holds Tryd.pinned (OpenSpec.ofChange utfFreshWrong)

/-- 'hallmarklaw02.UtfSplits': WHATEVER THE INPUT: true; the input reads as it did. -/
def utfSplitsSpec : ChangeSpec := { name := "utfSplits", fn := fun _ => fun
  | [d1, d2] => { results := [.lit (.bool true)], args := [d1, d2] }
  | _ => none }
def utfSplitsRow : OpenClaim := { program := "ytfkianfddjccgaadoor", sum := "089a69a2b838da73f6ebc8e782516f7e1b8ee0c82c5f4d1445ffd560e15303c0", func := "hallmark/hallmarklaw02.UtfSplits", spec := "utfSplits", inPlace := ["internal/abi.NoEscape", "internal/bytealg.CountString", "internal/bytealg.IndexByteString", "internal/bytealg.IndexString"], named := ["unicode/utf8.first", "unicode/utf8.acceptRanges", "internal/bytealg.MaxLen"], apart := false, laid := [("unicode/utf8.acceptRanges", laid_unicode_utf8_acceptRanges), ("unicode/utf8.first", laid_unicode_utf8_first)] }
def UtfSplitsSaid : Prop := utfSplitsRow.holds Tryd.pinned (OpenSpec.ofChange utfSplitsSpec)

/-- ITS FALSE NEIGHBOUR: 'it returns false'. Refute it at one input. -/
def utfSplitsWrong : ChangeSpec := { name := "utfSplits", fn := fun _ => fun
  | [d1, d2] => { results := [.lit (.bool false)], args := [d1, d2] }
  | _ => none }
def UtfSplitsWrongFalsely : Prop := utfSplitsRow.holds Tryd.pinned (OpenSpec.ofChange utfSplitsWrong)

/-- 'hallmarklaw02.UtfParts': WHATEVER THE INPUT: true; the input reads as it did. -/
def utfPartsSpec : ChangeSpec := { name := "utfParts", fn := fun _ => fun
  | [d1, d2] => { results := [.lit (.bool true)], args := [d1, d2] }
  | _ => none }
def utfPartsRow : OpenClaim := { program := "ytfkianfddjccgaadoor", sum := "089a69a2b838da73f6ebc8e782516f7e1b8ee0c82c5f4d1445ffd560e15303c0", func := "hallmark/hallmarklaw02.UtfParts", spec := "utfParts", inPlace := ["internal/abi.NoEscape", "internal/bytealg.CountString", "internal/bytealg.IndexByteString", "internal/bytealg.IndexString"], named := ["unicode/utf8.first", "unicode/utf8.acceptRanges", "internal/bytealg.MaxLen"], apart := false, laid := [("unicode/utf8.acceptRanges", laid_unicode_utf8_acceptRanges), ("unicode/utf8.first", laid_unicode_utf8_first)] }
def UtfPartsSaid : Prop := utfPartsRow.holds Tryd.pinned (OpenSpec.ofChange utfPartsSpec)

/-- ITS FALSE NEIGHBOUR: 'it returns false'. Refute it at one input. -/
def utfPartsWrong : ChangeSpec := { name := "utfParts", fn := fun _ => fun
  | [d1, d2] => { results := [.lit (.bool false)], args := [d1, d2] }
  | _ => none }
def UtfPartsWrongFalsely : Prop := utfPartsRow.holds Tryd.pinned (OpenSpec.ofChange utfPartsWrong)

/-- 'hallmarklaw02.UtfAnswers': WHATEVER THE INPUT: true; the input reads as it did. -/
def utfAnswersSpec : ChangeSpec := { name := "utfAnswers", fn := fun _ => fun
  | [d] => { results := [.lit (.bool true)], args := [d] }
  | _ => none }
def utfAnswersRow : OpenClaim := { program := "ytfkianfddjccgaadoor", sum := "089a69a2b838da73f6ebc8e782516f7e1b8ee0c82c5f4d1445ffd560e15303c0", func := "hallmark/hallmarklaw02.UtfAnswers", spec := "utfAnswers", inPlace := ["internal/abi.NoEscape", "internal/bytealg.CountString", "internal/bytealg.IndexByteString", "internal/bytealg.IndexString"], named := ["unicode/utf8.first", "unicode/utf8.acceptRanges", "internal/bytealg.MaxLen"], apart := false, laid := [("unicode/utf8.acceptRanges", laid_unicode_utf8_acceptRanges), ("unicode/utf8.first", laid_unicode_utf8_first)] }
def UtfAnswersSaid : Prop := utfAnswersRow.holds Tryd.pinned (OpenSpec.ofChange utfAnswersSpec)

/-- ITS FALSE NEIGHBOUR: 'it returns false'. Refute it at one input. -/
def utfAnswersWrong : ChangeSpec := { name := "utfAnswers", fn := fun _ => fun
  | [d] => { results := [.lit (.bool false)], args := [d] }
  | _ => none }
def UtfAnswersWrongFalsely : Prop := utfAnswersRow.holds Tryd.pinned (OpenSpec.ofChange utfAnswersWrong)

/- THE SECOND FORM. 'bulk': how many values and letters a reading holds, each counted each time it is reached (what is shared counts as often as it is met; a slice's spare places count too). A statement '..UptoSaid' is the law's where the arguments, and the package variables that the reading takes, are together of bulk at most 1048576: NARROWER than '..Said'. Prove '..Said' where nothing that the law and all that it calls make is longer than what came in: it says more and counts as full. Else prove '..UptoSaid'. A law counts once. -/
mutual
def uptoBulk {H : Type} : DataW H → Nat
  | .lit (.string bytes) => bytes.length + 1
  | .lit _ => 1
  | .nil => 1
  | .ptr d => uptoBulk d + 1
  | .slice elems spare => uptoBulkAll elems + uptoBulkAll spare + 1
  | .agg parts => uptoBulkAll parts + 1
  | .iface _ d => uptoBulk d + 1
  | .map entries => uptoBulkEntries entries + 1
  | .held _ => 1
def uptoBulkAll {H : Type} : List (DataW H) → Nat
  | [] => 0
  | d :: r => uptoBulk d + uptoBulkAll r
def uptoBulkEntries {H : Type} : List (Lit × DataW H) → Nat
  | [] => 0
  | x :: r => uptoBulkEntry x + uptoBulkEntries r
def uptoBulkEntry {H : Type} : Lit × DataW H → Nat
  | (.string bytes, d) => bytes.length + uptoBulk d + 1
  | (_, d) => uptoBulk d + 1
 end
def uptoSmall : (H : Type) → List (DataW H) → Bool := fun _ ds => decide (uptoBulkAll ds ≤ 1048576)
def OpenSpec.upto (s : _root_.Go.ChangeSpec) : _root_.Go.OpenSpec := { _root_.Go.OpenSpec.ofChange s with cond := some uptoSmall }

/-- 'hallmarklaw02.UtfReads', WHERE WHAT IT READS IS OF BULK AT MOST 1048576: true; the input reads as it did. -/
def utfReadsUptoRow : OpenClaim := { program := "ytfkianfddjccgaadoor", sum := "089a69a2b838da73f6ebc8e782516f7e1b8ee0c82c5f4d1445ffd560e15303c0", func := "hallmark/hallmarklaw02.UtfReads", spec := "utfReads", inPlace := ["internal/abi.NoEscape"], named := ["unicode/utf8.first", "unicode/utf8.acceptRanges"], apart := false, laid := [("unicode/utf8.acceptRanges", laid_unicode_utf8_acceptRanges), ("unicode/utf8.first", laid_unicode_utf8_first)], narrowed := true }
def UtfReadsUptoSaid : Prop := utfReadsUptoRow.holds Tryd.pinned (OpenSpec.upto utfReadsSpec)

/-- 'hallmarklaw02.UtfCuts', WHERE WHAT IT READS IS OF BULK AT MOST 1048576: true; the input reads as it did. -/
def utfCutsUptoRow : OpenClaim := { program := "ytfkianfddjccgaadoor", sum := "089a69a2b838da73f6ebc8e782516f7e1b8ee0c82c5f4d1445ffd560e15303c0", func := "hallmark/hallmarklaw02.UtfCuts", spec := "utfCuts", inPlace := ["internal/abi.NoEscape"], named := ["unicode/utf8.first", "unicode/utf8.acceptRanges"], apart := false, laid := [("unicode/utf8.acceptRanges", laid_unicode_utf8_acceptRanges), ("unicode/utf8.first", laid_unicode_utf8_first)], narrowed := true }
def UtfCutsUptoSaid : Prop := utfCutsUptoRow.holds Tryd.pinned (OpenSpec.upto utfCutsSpec)

/-- 'hallmarklaw02.UtfOne', WHERE WHAT IT READS IS OF BULK AT MOST 1048576: true; the input reads as it did. -/
def utfOneUptoRow : OpenClaim := { program := "ytfkianfddjccgaadoor", sum := "089a69a2b838da73f6ebc8e782516f7e1b8ee0c82c5f4d1445ffd560e15303c0", func := "hallmark/hallmarklaw02.UtfOne", spec := "utfOne", inPlace := ["internal/abi.NoEscape"], named := ["unicode/utf8.first", "unicode/utf8.acceptRanges"], apart := false, laid := [("unicode/utf8.acceptRanges", laid_unicode_utf8_acceptRanges), ("unicode/utf8.first", laid_unicode_utf8_first)], narrowed := true }
def UtfOneUptoSaid : Prop := utfOneUptoRow.holds Tryd.pinned (OpenSpec.upto utfOneSpec)

/-- 'hallmarklaw02.UtfReadOnly', WHERE WHAT IT READS IS OF BULK AT MOST 1048576: true; the input reads as it did. -/
def utfReadOnlyUptoRow : OpenClaim := { program := "ytfkianfddjccgaadoor", sum := "089a69a2b838da73f6ebc8e782516f7e1b8ee0c82c5f4d1445ffd560e15303c0", func := "hallmark/hallmarklaw02.UtfReadOnly", spec := "utfReadOnly", inPlace := ["internal/abi.NoEscape"], named := ["unicode/utf8.first", "unicode/utf8.acceptRanges"], apart := false, laid := [("unicode/utf8.acceptRanges", laid_unicode_utf8_acceptRanges), ("unicode/utf8.first", laid_unicode_utf8_first)], narrowed := true }
def UtfReadOnlyUptoSaid : Prop := utfReadOnlyUptoRow.holds Tryd.pinned (OpenSpec.upto utfReadOnlySpec)

/-- 'hallmarklaw02.UtfCases', WHERE WHAT IT READS IS OF BULK AT MOST 1048576: true; the input reads as it did. -/
def utfCasesUptoRow : OpenClaim := { program := "ytfkianfddjccgaadoor", sum := "089a69a2b838da73f6ebc8e782516f7e1b8ee0c82c5f4d1445ffd560e15303c0", func := "hallmark/hallmarklaw02.UtfCases", spec := "utfCases", inPlace := ["internal/abi.NoEscape"], named := ["unicode/utf8.first", "unicode/utf8.acceptRanges"], apart := false, laid := [("unicode/utf8.acceptRanges", laid_unicode_utf8_acceptRanges), ("unicode/utf8.first", laid_unicode_utf8_first)], narrowed := true }
def UtfCasesUptoSaid : Prop := utfCasesUptoRow.holds Tryd.pinned (OpenSpec.upto utfCasesSpec)

/-- 'hallmarklaw02.UtfThere', WHERE WHAT IT READS IS OF BULK AT MOST 1048576: true; the input reads as it did. -/
def utfThereUptoRow : OpenClaim := { program := "ytfkianfddjccgaadoor", sum := "089a69a2b838da73f6ebc8e782516f7e1b8ee0c82c5f4d1445ffd560e15303c0", func := "hallmark/hallmarklaw02.UtfThere", spec := "utfThere", inPlace := ["internal/abi.NoEscape"], named := ["unicode/utf8.first", "unicode/utf8.acceptRanges"], apart := false, laid := [("unicode/utf8.acceptRanges", laid_unicode_utf8_acceptRanges), ("unicode/utf8.first", laid_unicode_utf8_first)], narrowed := true }
def UtfThereUptoSaid : Prop := utfThereUptoRow.holds Tryd.pinned (OpenSpec.upto utfThereSpec)

/-- 'hallmarklaw02.UtfBack', WHERE WHAT IT READS IS OF BULK AT MOST 1048576: true; the input reads as it did. -/
def utfBackUptoRow : OpenClaim := { program := "ytfkianfddjccgaadoor", sum := "089a69a2b838da73f6ebc8e782516f7e1b8ee0c82c5f4d1445ffd560e15303c0", func := "hallmark/hallmarklaw02.UtfBack", spec := "utfBack", inPlace := ["internal/abi.NoEscape"], named := ["unicode/utf8.first", "unicode/utf8.acceptRanges"], apart := false, laid := [("unicode/utf8.acceptRanges", laid_unicode_utf8_acceptRanges), ("unicode/utf8.first", laid_unicode_utf8_first)], narrowed := true }
def UtfBackUptoSaid : Prop := utfBackUptoRow.holds Tryd.pinned (OpenSpec.upto utfBackSpec)

/-- 'hallmarklaw02.UtfLiteral', WHERE WHAT IT READS IS OF BULK AT MOST 1048576: true; the input reads as it did. -/
def utfLiteralUptoRow : OpenClaim := { program := "ytfkianfddjccgaadoor", sum := "089a69a2b838da73f6ebc8e782516f7e1b8ee0c82c5f4d1445ffd560e15303c0", func := "hallmark/hallmarklaw02.UtfLiteral", spec := "utfLiteral", inPlace := ["internal/abi.NoEscape"], named := ["unicode/utf8.first", "unicode/utf8.acceptRanges"], apart := false, laid := [("unicode/utf8.acceptRanges", laid_unicode_utf8_acceptRanges), ("unicode/utf8.first", laid_unicode_utf8_first)], narrowed := true }
def UtfLiteralUptoSaid : Prop := utfLiteralUptoRow.holds Tryd.pinned (OpenSpec.upto utfLiteralSpec)

/-- 'hallmarklaw02.UtfEscapes', WHERE WHAT IT READS IS OF BULK AT MOST 1048576: true; the input reads as it did. -/
def utfEscapesUptoRow : OpenClaim := { program := "ytfkianfddjccgaadoor", sum := "089a69a2b838da73f6ebc8e782516f7e1b8ee0c82c5f4d1445ffd560e15303c0", func := "hallmark/hallmarklaw02.UtfEscapes", spec := "utfEscapes", inPlace := ["internal/abi.NoEscape"], named := ["unicode/utf8.first", "unicode/utf8.acceptRanges"], apart := false, laid := [("unicode/utf8.acceptRanges", laid_unicode_utf8_acceptRanges), ("unicode/utf8.first", laid_unicode_utf8_first)], narrowed := true }
def UtfEscapesUptoSaid : Prop := utfEscapesUptoRow.holds Tryd.pinned (OpenSpec.upto utfEscapesSpec)

/-- 'hallmarklaw02.UtfFinds', WHERE WHAT IT READS IS OF BULK AT MOST 1048576: true; the input reads as it did. -/
def utfFindsUptoRow : OpenClaim := { program := "ytfkianfddjccgaadoor", sum := "089a69a2b838da73f6ebc8e782516f7e1b8ee0c82c5f4d1445ffd560e15303c0", func := "hallmark/hallmarklaw02.UtfFinds", spec := "utfFinds", inPlace := ["internal/abi.NoEscape"], named := ["unicode/utf8.first", "unicode/utf8.acceptRanges"], apart := false, laid := [("unicode/utf8.acceptRanges", laid_unicode_utf8_acceptRanges), ("unicode/utf8.first", laid_unicode_utf8_first)], narrowed := true }
def UtfFindsUptoSaid : Prop := utfFindsUptoRow.holds Tryd.pinned (OpenSpec.upto utfFindsSpec)

/-- 'hallmarklaw02.UtfFresh', WHERE WHAT IT READS IS OF BULK AT MOST 1048576: true; the input reads as it did. -/
def utfFreshUptoRow : OpenClaim := { program := "ytfkianfddjccgaadoor", sum := "089a69a2b838da73f6ebc8e782516f7e1b8ee0c82c5f4d1445ffd560e15303c0", func := "hallmark/hallmarklaw02.UtfFresh", spec := "utfFresh", inPlace := ["internal/abi.NoEscape"], named := ["unicode/utf8.first", "unicode/utf8.acceptRanges"], apart := false, laid := [("unicode/utf8.acceptRanges", laid_unicode_utf8_acceptRanges), ("unicode/utf8.first", laid_unicode_utf8_first)], narrowed := true }
def UtfFreshUptoSaid : Prop := utfFreshUptoRow.holds Tryd.pinned (OpenSpec.upto utfFreshSpec)

/-- 'hallmarklaw02.UtfSplits', WHERE WHAT IT READS IS OF BULK AT MOST 1048576: true; the input reads as it did. -/
def utfSplitsUptoRow : OpenClaim := { program := "ytfkianfddjccgaadoor", sum := "089a69a2b838da73f6ebc8e782516f7e1b8ee0c82c5f4d1445ffd560e15303c0", func := "hallmark/hallmarklaw02.UtfSplits", spec := "utfSplits", inPlace := ["internal/abi.NoEscape", "internal/bytealg.CountString", "internal/bytealg.IndexByteString", "internal/bytealg.IndexString"], named := ["unicode/utf8.first", "unicode/utf8.acceptRanges", "internal/bytealg.MaxLen"], apart := false, laid := [("unicode/utf8.acceptRanges", laid_unicode_utf8_acceptRanges), ("unicode/utf8.first", laid_unicode_utf8_first)], narrowed := true }
def UtfSplitsUptoSaid : Prop := utfSplitsUptoRow.holds Tryd.pinned (OpenSpec.upto utfSplitsSpec)

/-- 'hallmarklaw02.UtfParts', WHERE WHAT IT READS IS OF BULK AT MOST 1048576: true; the input reads as it did. -/
def utfPartsUptoRow : OpenClaim := { program := "ytfkianfddjccgaadoor", sum := "089a69a2b838da73f6ebc8e782516f7e1b8ee0c82c5f4d1445ffd560e15303c0", func := "hallmark/hallmarklaw02.UtfParts", spec := "utfParts", inPlace := ["internal/abi.NoEscape", "internal/bytealg.CountString", "internal/bytealg.IndexByteString", "internal/bytealg.IndexString"], named := ["unicode/utf8.first", "unicode/utf8.acceptRanges", "internal/bytealg.MaxLen"], apart := false, laid := [("unicode/utf8.acceptRanges", laid_unicode_utf8_acceptRanges), ("unicode/utf8.first", laid_unicode_utf8_first)], narrowed := true }
def UtfPartsUptoSaid : Prop := utfPartsUptoRow.holds Tryd.pinned (OpenSpec.upto utfPartsSpec)

/-- 'hallmarklaw02.UtfAnswers', WHERE WHAT IT READS IS OF BULK AT MOST 1048576: true; the input reads as it did. -/
def utfAnswersUptoRow : OpenClaim := { program := "ytfkianfddjccgaadoor", sum := "089a69a2b838da73f6ebc8e782516f7e1b8ee0c82c5f4d1445ffd560e15303c0", func := "hallmark/hallmarklaw02.UtfAnswers", spec := "utfAnswers", inPlace := ["internal/abi.NoEscape", "internal/bytealg.CountString", "internal/bytealg.IndexByteString", "internal/bytealg.IndexString"], named := ["unicode/utf8.first", "unicode/utf8.acceptRanges", "internal/bytealg.MaxLen"], apart := false, laid := [("unicode/utf8.acceptRanges", laid_unicode_utf8_acceptRanges), ("unicode/utf8.first", laid_unicode_utf8_first)], narrowed := true }
def UtfAnswersUptoSaid : Prop := utfAnswersUptoRow.holds Tryd.pinned (OpenSpec.upto utfAnswersSpec)

end Rows
end Go.Proofs.YtfkianfddjccgaaDoor
