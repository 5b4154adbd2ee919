/-
  NARROWER THAN 'FOR EVERY INPUT', by the rows' own cells (each row's printed sentence says how): SyntaxBrackets: laid · SyntaxKnown: laid · SyntaxSame: loops, laid.
  DERIVED. THE GIVEN ROWS OF THIS SEAT. 3 by the template 'for every input the law returns true; each argument reads behind the call as it read before'; 0 by the template 'total and deterministic' (their statements: YthlmhnlfcnpocaaDoorTotals.lean).
  GIVEN WITH THE SEED: the statements are not yours to turn. If you find one false, say at which input.
  Laid BY PROGRAM, IN A SANDBOX (cutbox-rows.mjs): the forced cells as the released guide's own fill.sh prints them over the translation 05d5f727f42dcb1e… (all of the seat's roots in one cut). By AI agents, Wed Nov 11 2026. No macro, syntax, notation, axiom, sorry.
-/
import Derived.Test.YthlmhnlfcnpocaaDoorChecked
import GoSem.PinnedTables
import GoSem.Claim
import GoSem.ClaimJoined
import GoSem.ClaimMapViews
import Derived.JoinedTies
import Derived.KernelRfl
namespace Go.Proofs.YthlmhnlfcnpocaaDoor
/- THE CELL 'sum', in the pinned program and in every row, IS THE sha256 OF THE DUMP (.gsa) THAT YthlmhnlfcnpocaaDoorProg.lean LOADS. Nothing in Lean hashes anything: it is a label: what it is worth is what the hold of that sum in a sandbox is worth. -/
noncomputable def Tryd.pinned : Pinned := { name := "ythlmhnlfcnpocaadoor", sum := "05d5f727f42dcb1edd07e4e6f747b2bddeeb59e8c1b181a56be71dca31b8c7b3", checked := Tryd.checked }
namespace Rows
def none {H : Type} : Left H := { results := [], args := [] }

/- WHAT THE LISTED PACKAGE-LEVEL VARIABLES READ AS WHEN THE CALL BEGINS. Each datum BY PROGRAM (the guide's laid-datum.mjs) off the statement by which the dump's own 'gosem.cut.vars' lays the variable. In a bare row this is a premise. The card (YthlmhnlfcnpocaaDoorCards.lean) ties it to the program's text. -/
def laid_unicode_utf8_acceptRanges {H : Type} : DataW H := .agg [.agg [.lit (.int .u8 128), .lit (.int .u8 191)], .agg [.lit (.int .u8 160), .lit (.int .u8 191)], .agg [.lit (.int .u8 128), .lit (.int .u8 159)], .agg [.lit (.int .u8 144), .lit (.int .u8 191)], .agg [.lit (.int .u8 128), .lit (.int .u8 143)], .agg [.lit (.int .u8 0), .lit (.int .u8 0)], .agg [.lit (.int .u8 0), .lit (.int .u8 0)], .agg [.lit (.int .u8 0), .lit (.int .u8 0)], .agg [.lit (.int .u8 0), .lit (.int .u8 0)], .agg [.lit (.int .u8 0), .lit (.int .u8 0)], .agg [.lit (.int .u8 0), .lit (.int .u8 0)], .agg [.lit (.int .u8 0), .lit (.int .u8 0)], .agg [.lit (.int .u8 0), .lit (.int .u8 0)], .agg [.lit (.int .u8 0), .lit (.int .u8 0)], .agg [.lit (.int .u8 0), .lit (.int .u8 0)], .agg [.lit (.int .u8 0), .lit (.int .u8 0)]]
def laid_hallmark_syntax_bindings {H : Type} : DataW H := .agg [.agg [.lit (.string [44]), .lit (.int .i64 13), .lit (.int .i64 1), .lit (.int .i64 0)], .agg [.lit (.string [61]), .lit (.int .i64 36), .lit (.int .i64 2), .lit (.int .i64 2)], .agg [.lit (.string [124, 61]), .lit (.int .i64 37), .lit (.int .i64 2), .lit (.int .i64 2)], .agg [.lit (.string [43, 61]), .lit (.int .i64 38), .lit (.int .i64 2), .lit (.int .i64 2)], .agg [.lit (.string [45, 61]), .lit (.int .i64 39), .lit (.int .i64 2), .lit (.int .i64 2)], .agg [.lit (.string [42, 61]), .lit (.int .i64 40), .lit (.int .i64 2), .lit (.int .i64 2)], .agg [.lit (.string [47, 61]), .lit (.int .i64 41), .lit (.int .i64 2), .lit (.int .i64 2)], .agg [.lit (.string [37, 61]), .lit (.int .i64 42), .lit (.int .i64 2), .lit (.int .i64 2)], .agg [.lit (.string [47, 47, 61]), .lit (.int .i64 43), .lit (.int .i64 2), .lit (.int .i64 2)], .agg [.lit (.string [47, 47]), .lit (.int .i64 27), .lit (.int .i64 3), .lit (.int .i64 1)], .agg [.lit (.string [111, 114]), .lit (.int .i64 26), .lit (.int .i64 4), .lit (.int .i64 0)], .agg [.lit (.string [97, 110, 100]), .lit (.int .i64 25), .lit (.int .i64 5), .lit (.int .i64 0)], .agg [.lit (.string [61, 61]), .lit (.int .i64 19), .lit (.int .i64 6), .lit (.int .i64 2)], .agg [.lit (.string [33, 61]), .lit (.int .i64 20), .lit (.int .i64 6), .lit (.int .i64 2)], .agg [.lit (.string [60]), .lit (.int .i64 21), .lit (.int .i64 6), .lit (.int .i64 2)], .agg [.lit (.string [60, 61]), .lit (.int .i64 22), .lit (.int .i64 6), .lit (.int .i64 2)], .agg [.lit (.string [62]), .lit (.int .i64 23), .lit (.int .i64 6), .lit (.int .i64 2)], .agg [.lit (.string [62, 61]), .lit (.int .i64 24), .lit (.int .i64 6), .lit (.int .i64 2)], .agg [.lit (.string [43]), .lit (.int .i64 14), .lit (.int .i64 7), .lit (.int .i64 0)], .agg [.lit (.string [45]), .lit (.int .i64 15), .lit (.int .i64 7), .lit (.int .i64 0)], .agg [.lit (.string [42]), .lit (.int .i64 16), .lit (.int .i64 8), .lit (.int .i64 0)], .agg [.lit (.string [47]), .lit (.int .i64 17), .lit (.int .i64 8), .lit (.int .i64 0)], .agg [.lit (.string [37]), .lit (.int .i64 18), .lit (.int .i64 8), .lit (.int .i64 0)]]
/-- One of Go's own tables, pinned by name: the form's constant. -/
def laid_unicode_utf8_first : DataW Unit := Go.Pinned.utf8First

/-- 'hallmarklaw17.SyntaxBrackets': WHATEVER THE INPUT: true; the input reads as it did. -/
def syntaxBracketsSpec : ChangeSpec := { name := "syntaxBrackets", fn := fun _ => fun
  | [d] => { results := [.lit (.bool true)], args := [d] }
  | _ => none }
def syntaxBracketsRow : OpenClaim := { program := "ythlmhnlfcnpocaadoor", sum := "05d5f727f42dcb1edd07e4e6f747b2bddeeb59e8c1b181a56be71dca31b8c7b3", func := "hallmark/hallmarklaw17.SyntaxBrackets", spec := "syntaxBrackets", inPlace := ["internal/abi.NoEscape", "internal/bytealg.IndexByteString", "internal/bytealg.IndexString"], unfollowed := true, recurses := true, named := ["unicode/utf8.first", "unicode/utf8.acceptRanges", "internal/bytealg.MaxLen", "hallmark/syntax.bindings"], apart := false, laid := [("unicode/utf8.acceptRanges", laid_unicode_utf8_acceptRanges), ("hallmark/syntax.bindings", laid_hallmark_syntax_bindings), ("unicode/utf8.first", laid_unicode_utf8_first)] }
def SyntaxBracketsSaid : Prop := syntaxBracketsRow.holds Tryd.pinned (OpenSpec.ofChange syntaxBracketsSpec)

/-- ITS FALSE NEIGHBOUR: 'it returns false'. Refute it at one input. -/
def syntaxBracketsWrong : ChangeSpec := { name := "syntaxBrackets", fn := fun _ => fun
  | [d] => { results := [.lit (.bool false)], args := [d] }
  | _ => none }
def SyntaxBracketsWrongFalsely : Prop := syntaxBracketsRow.holds Tryd.pinned (OpenSpec.ofChange syntaxBracketsWrong)

/-- 'hallmarklaw17.SyntaxKnown': WHATEVER THE INPUT: true; the input reads as it did. -/
def syntaxKnownSpec : ChangeSpec := { name := "syntaxKnown", fn := fun _ => fun
  | [] => { results := [.lit (.bool true)], args := [] }
  | _ => none }
def syntaxKnownRow : OpenClaim := { program := "ythlmhnlfcnpocaadoor", sum := "05d5f727f42dcb1edd07e4e6f747b2bddeeb59e8c1b181a56be71dca31b8c7b3", func := "hallmark/hallmarklaw17.SyntaxKnown", spec := "syntaxKnown", inPlace := ["internal/abi.NoEscape", "internal/bytealg.IndexByteString", "internal/bytealg.IndexString"], unfollowed := true, recurses := true, named := ["unicode/utf8.first", "unicode/utf8.acceptRanges", "internal/bytealg.MaxLen", "hallmark/syntax.bindings"], apart := false, laid := [("unicode/utf8.acceptRanges", laid_unicode_utf8_acceptRanges), ("hallmark/syntax.bindings", laid_hallmark_syntax_bindings), ("unicode/utf8.first", laid_unicode_utf8_first)] }
def SyntaxKnownSaid : Prop := syntaxKnownRow.holds Tryd.pinned (OpenSpec.ofChange syntaxKnownSpec)

/-- ITS FALSE NEIGHBOUR: 'it returns false'. Refute it at one input. -/
def syntaxKnownWrong : ChangeSpec := { name := "syntaxKnown", fn := fun _ => fun
  | [] => { results := [.lit (.bool false)], args := [] }
  | _ => none }
def SyntaxKnownWrongFalsely : Prop := syntaxKnownRow.holds Tryd.pinned (OpenSpec.ofChange syntaxKnownWrong)

/-- 'hallmarklaw17.SyntaxSame': WHATEVER THE INPUT: true; the input reads as it did. -/
def syntaxSameSpec : ChangeSpec := { name := "syntaxSame", fn := fun _ => fun
  | [d1, d2] => { results := [.lit (.bool true)], args := [d1, d2] }
  | _ => none }
def syntaxSameRow : OpenClaim := { program := "ythlmhnlfcnpocaadoor", sum := "05d5f727f42dcb1edd07e4e6f747b2bddeeb59e8c1b181a56be71dca31b8c7b3", func := "hallmark/hallmarklaw17.SyntaxSame", spec := "syntaxSame", inPlace := ["internal/abi.NoEscape", "internal/bytealg.IndexByteString", "internal/bytealg.IndexString"], unfollowed := true, recurses := true, named := ["unicode/utf8.first", "unicode/utf8.acceptRanges", "internal/bytealg.MaxLen", "hallmark/syntax.bindings"], loops := true, apart := false, laid := [("unicode/utf8.acceptRanges", laid_unicode_utf8_acceptRanges), ("hallmark/syntax.bindings", laid_hallmark_syntax_bindings), ("unicode/utf8.first", laid_unicode_utf8_first)] }
def SyntaxSameSaid : Prop := syntaxSameRow.holds Tryd.pinned (OpenSpec.ofChange syntaxSameSpec)

/-- ITS FALSE NEIGHBOUR: 'it returns false'. Refute it at one input. -/
def syntaxSameWrong : ChangeSpec := { name := "syntaxSame", fn := fun _ => fun
  | [d1, d2] => { results := [.lit (.bool false)], args := [d1, d2] }
  | _ => none }
def SyntaxSameWrongFalsely : Prop := syntaxSameRow.holds Tryd.pinned (OpenSpec.ofChange syntaxSameWrong)

/- THE SECOND FORM. 'bulk': how many values and letters a reading holds, each counted each time it is reached (what is shared counts as often as it is met; a slice's spare places count too). A statement '..UptoSaid' is the law's where the arguments, and the package variables that the reading takes, are together of bulk at most 1048576: NARROWER than '..Said'. Prove '..Said' where nothing that the law and all that it calls make is longer than what came in: it says more and counts as full. Else prove '..UptoSaid'. A law counts once. -/
mutual
def uptoBulk {H : Type} : DataW H → Nat
  | .lit (.string bytes) => bytes.length + 1
  | .lit _ => 1
  | .nil => 1
  | .ptr d => uptoBulk d + 1
  | .slice elems spare => uptoBulkAll elems + uptoBulkAll spare + 1
  | .agg parts => uptoBulkAll parts + 1
  | .iface _ d => uptoBulk d + 1
  | .map entries => uptoBulkEntries entries + 1
  | .held _ => 1
def uptoBulkAll {H : Type} : List (DataW H) → Nat
  | [] => 0
  | d :: r => uptoBulk d + uptoBulkAll r
def uptoBulkEntries {H : Type} : List (Lit × DataW H) → Nat
  | [] => 0
  | x :: r => uptoBulkEntry x + uptoBulkEntries r
def uptoBulkEntry {H : Type} : Lit × DataW H → Nat
  | (.string bytes, d) => bytes.length + uptoBulk d + 1
  | (_, d) => uptoBulk d + 1
 end
def uptoSmall : (H : Type) → List (DataW H) → Bool := fun _ ds => decide (uptoBulkAll ds ≤ 1048576)
def OpenSpec.upto (s : _root_.Go.ChangeSpec) : _root_.Go.OpenSpec := { _root_.Go.OpenSpec.ofChange s with cond := some uptoSmall }

/-- 'hallmarklaw17.SyntaxBrackets', WHERE WHAT IT READS IS OF BULK AT MOST 1048576: true; the input reads as it did. -/
def syntaxBracketsUptoRow : OpenClaim := { program := "ythlmhnlfcnpocaadoor", sum := "05d5f727f42dcb1edd07e4e6f747b2bddeeb59e8c1b181a56be71dca31b8c7b3", func := "hallmark/hallmarklaw17.SyntaxBrackets", spec := "syntaxBrackets", inPlace := ["internal/abi.NoEscape", "internal/bytealg.IndexByteString", "internal/bytealg.IndexString"], unfollowed := true, recurses := true, named := ["unicode/utf8.first", "unicode/utf8.acceptRanges", "internal/bytealg.MaxLen", "hallmark/syntax.bindings"], apart := false, laid := [("unicode/utf8.acceptRanges", laid_unicode_utf8_acceptRanges), ("hallmark/syntax.bindings", laid_hallmark_syntax_bindings), ("unicode/utf8.first", laid_unicode_utf8_first)], narrowed := true }
def SyntaxBracketsUptoSaid : Prop := syntaxBracketsUptoRow.holds Tryd.pinned (OpenSpec.upto syntaxBracketsSpec)

/-- 'hallmarklaw17.SyntaxKnown', WHERE WHAT IT READS IS OF BULK AT MOST 1048576: true; the input reads as it did. -/
def syntaxKnownUptoRow : OpenClaim := { program := "ythlmhnlfcnpocaadoor", sum := "05d5f727f42dcb1edd07e4e6f747b2bddeeb59e8c1b181a56be71dca31b8c7b3", func := "hallmark/hallmarklaw17.SyntaxKnown", spec := "syntaxKnown", inPlace := ["internal/abi.NoEscape", "internal/bytealg.IndexByteString", "internal/bytealg.IndexString"], unfollowed := true, recurses := true, named := ["unicode/utf8.first", "unicode/utf8.acceptRanges", "internal/bytealg.MaxLen", "hallmark/syntax.bindings"], apart := false, laid := [("unicode/utf8.acceptRanges", laid_unicode_utf8_acceptRanges), ("hallmark/syntax.bindings", laid_hallmark_syntax_bindings), ("unicode/utf8.first", laid_unicode_utf8_first)], narrowed := true }
def SyntaxKnownUptoSaid : Prop := syntaxKnownUptoRow.holds Tryd.pinned (OpenSpec.upto syntaxKnownSpec)

/-- 'hallmarklaw17.SyntaxSame', WHERE WHAT IT READS IS OF BULK AT MOST 1048576: true; the input reads as it did. -/
def syntaxSameUptoRow : OpenClaim := { program := "ythlmhnlfcnpocaadoor", sum := "05d5f727f42dcb1edd07e4e6f747b2bddeeb59e8c1b181a56be71dca31b8c7b3", func := "hallmark/hallmarklaw17.SyntaxSame", spec := "syntaxSame", inPlace := ["internal/abi.NoEscape", "internal/bytealg.IndexByteString", "internal/bytealg.IndexString"], unfollowed := true, recurses := true, named := ["unicode/utf8.first", "unicode/utf8.acceptRanges", "internal/bytealg.MaxLen", "hallmark/syntax.bindings"], loops := true, apart := false, laid := [("unicode/utf8.acceptRanges", laid_unicode_utf8_acceptRanges), ("hallmark/syntax.bindings", laid_hallmark_syntax_bindings), ("unicode/utf8.first", laid_unicode_utf8_first)], narrowed := true }
def SyntaxSameUptoSaid : Prop := syntaxSameUptoRow.holds Tryd.pinned (OpenSpec.upto syntaxSameSpec)

end Rows
end Go.Proofs.YthlmhnlfcnpocaaDoor
