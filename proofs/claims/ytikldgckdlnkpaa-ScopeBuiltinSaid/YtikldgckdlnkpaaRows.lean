/-
  No cell of these rows narrows 'for every input' (looked for: loops, veiled, ifaces, maps, wideKeys, modest, calm, conditions, laid).
  DERIVED. THE GIVEN ROWS OF THIS SEAT. 4 by the template 'for every input the law returns true; each argument reads behind the call as it read before'; 0 by the template 'total and deterministic' (their statements: YtikldgckdlnkpaaTotals.lean).
  GIVEN WITH THE SEED: the statements are not yours to turn. If you find one false, say at which input.
  Laid BY PROGRAM, IN A SANDBOX (cutbox-rows.mjs): the forced cells as the released guide's own fill.sh prints them over the translation 6dcfa877e63a7e96… (all of the seat's roots in one cut). By AI agents, Wed Nov 11 2026. No macro, syntax, notation, axiom, sorry.
-/
import Derived.Test.YtikldgckdlnkpaaChecked
import GoSem.Claim
import GoSem.ClaimJoined
import GoSem.ClaimMapViews
import Derived.JoinedTies
import Derived.KernelRfl
namespace Go.Proofs.Ytikldgckdlnkpaa
/- THE CELL 'sum', in the pinned program and in every row, IS THE sha256 OF THE DUMP (.gsa) THAT YtikldgckdlnkpaaProg.lean LOADS. Nothing in Lean hashes anything: it is a label: what it is worth is what the hold of that sum in a sandbox is worth. -/
noncomputable def Try.pinned : Pinned := { name := "ytikldgckdlnkpaa", sum := "6dcfa877e63a7e96462c456de276a2ec1aa3ade73b46d16506d0159c2394bfc7", checked := Try.checked }
namespace Rows
def none {H : Type} : Left H := { results := [], args := [] }

/-- 'hallmarklaw16.WordNames': WHATEVER THE INPUT: true; the input reads as it did. -/
def wordNamesSpec : ChangeSpec := { name := "wordNames", fn := fun _ => fun
  | [] => { results := [.lit (.bool true)], args := [] }
  | _ => none }
def wordNamesRow : OpenClaim := { program := "ytikldgckdlnkpaa", sum := "6dcfa877e63a7e96462c456de276a2ec1aa3ade73b46d16506d0159c2394bfc7", func := "hallmark/hallmarklaw16.WordNames", spec := "wordNames", apart := false }
def WordNamesSaid : Prop := wordNamesRow.holds Try.pinned (OpenSpec.ofChange wordNamesSpec)

/-- ITS FALSE NEIGHBOUR: 'it returns false'. Refute it at one input. -/
def wordNamesWrong : ChangeSpec := { name := "wordNames", fn := fun _ => fun
  | [] => { results := [.lit (.bool false)], args := [] }
  | _ => none }
def WordNamesWrongFalsely : Prop := wordNamesRow.holds Try.pinned (OpenSpec.ofChange wordNamesWrong)

/-- 'hallmarklaw19.ScopeNames': WHATEVER THE INPUT: true; the input reads as it did. -/
def scopeNamesSpec : ChangeSpec := { name := "scopeNames", fn := fun _ => fun
  | [] => { results := [.lit (.bool true)], args := [] }
  | _ => none }
def scopeNamesRow : OpenClaim := { program := "ytikldgckdlnkpaa", sum := "6dcfa877e63a7e96462c456de276a2ec1aa3ade73b46d16506d0159c2394bfc7", func := "hallmark/hallmarklaw19.ScopeNames", spec := "scopeNames", apart := false }
def ScopeNamesSaid : Prop := scopeNamesRow.holds Try.pinned (OpenSpec.ofChange scopeNamesSpec)

/-- ITS FALSE NEIGHBOUR: 'it returns false'. Refute it at one input. -/
def scopeNamesWrong : ChangeSpec := { name := "scopeNames", fn := fun _ => fun
  | [] => { results := [.lit (.bool false)], args := [] }
  | _ => none }
def ScopeNamesWrongFalsely : Prop := scopeNamesRow.holds Try.pinned (OpenSpec.ofChange scopeNamesWrong)

/-- 'hallmarklaw16.WordNamed': WHATEVER THE INPUT: true; the input reads as it did. -/
def wordNamedSpec : ChangeSpec := { name := "wordNamed", fn := fun _ => fun
  | [d] => { results := [.lit (.bool true)], args := [d] }
  | _ => none }
def wordNamedRow : OpenClaim := { program := "ytikldgckdlnkpaa", sum := "6dcfa877e63a7e96462c456de276a2ec1aa3ade73b46d16506d0159c2394bfc7", func := "hallmark/hallmarklaw16.WordNamed", spec := "wordNamed", inPlace := ["internal/bytealg.IndexByteString", "internal/bytealg.IndexString"], unfollowed := true, recurses := true, named := ["internal/bytealg.MaxLen"], apart := false }
def WordNamedSaid : Prop := wordNamedRow.holds Try.pinned (OpenSpec.ofChange wordNamedSpec)

/-- ITS FALSE NEIGHBOUR: 'it returns false'. Refute it at one input. -/
def wordNamedWrong : ChangeSpec := { name := "wordNamed", fn := fun _ => fun
  | [d] => { results := [.lit (.bool false)], args := [d] }
  | _ => none }
def WordNamedWrongFalsely : Prop := wordNamedRow.holds Try.pinned (OpenSpec.ofChange wordNamedWrong)

/-- 'hallmarklaw19.ScopeBuiltin': WHATEVER THE INPUT: true; the input reads as it did. -/
def scopeBuiltinSpec : ChangeSpec := { name := "scopeBuiltin", fn := fun _ => fun
  | [d1, d2] => { results := [.lit (.bool true)], args := [d1, d2] }
  | _ => none }
def scopeBuiltinRow : OpenClaim := { program := "ytikldgckdlnkpaa", sum := "6dcfa877e63a7e96462c456de276a2ec1aa3ade73b46d16506d0159c2394bfc7", func := "hallmark/hallmarklaw19.ScopeBuiltin", spec := "scopeBuiltin", inPlace := ["internal/bytealg.IndexByteString", "internal/bytealg.IndexString"], named := ["internal/bytealg.MaxLen"], apart := false }
def ScopeBuiltinSaid : Prop := scopeBuiltinRow.holds Try.pinned (OpenSpec.ofChange scopeBuiltinSpec)

/-- ITS FALSE NEIGHBOUR: 'it returns false'. Refute it at one input. -/
def scopeBuiltinWrong : ChangeSpec := { name := "scopeBuiltin", fn := fun _ => fun
  | [d1, d2] => { results := [.lit (.bool false)], args := [d1, d2] }
  | _ => none }
def ScopeBuiltinWrongFalsely : Prop := scopeBuiltinRow.holds Try.pinned (OpenSpec.ofChange scopeBuiltinWrong)

/- THE SECOND FORM. 'bulk': how many values and letters a reading holds, each counted each time it is reached (what is shared counts as often as it is met; a slice's spare places count too). A statement '..UptoSaid' is the law's where the arguments, and the package variables that the reading takes, are together of bulk at most 1048576: NARROWER than '..Said'. Prove '..Said' where nothing that the law and all that it calls make is longer than what came in: it says more and counts as full. Else prove '..UptoSaid'. A law counts once. -/
mutual
def uptoBulk {H : Type} : DataW H → Nat
  | .lit (.string bytes) => bytes.length + 1
  | .lit _ => 1
  | .nil => 1
  | .ptr d => uptoBulk d + 1
  | .slice elems spare => uptoBulkAll elems + uptoBulkAll spare + 1
  | .agg parts => uptoBulkAll parts + 1
  | .iface _ d => uptoBulk d + 1
  | .map entries => uptoBulkEntries entries + 1
  | .held _ => 1
def uptoBulkAll {H : Type} : List (DataW H) → Nat
  | [] => 0
  | d :: r => uptoBulk d + uptoBulkAll r
def uptoBulkEntries {H : Type} : List (Lit × DataW H) → Nat
  | [] => 0
  | x :: r => uptoBulkEntry x + uptoBulkEntries r
def uptoBulkEntry {H : Type} : Lit × DataW H → Nat
  | (.string bytes, d) => bytes.length + uptoBulk d + 1
  | (_, d) => uptoBulk d + 1
 end
def uptoSmall : (H : Type) → List (DataW H) → Bool := fun _ ds => decide (uptoBulkAll ds ≤ 1048576)
def OpenSpec.upto (s : _root_.Go.ChangeSpec) : _root_.Go.OpenSpec := { _root_.Go.OpenSpec.ofChange s with cond := some uptoSmall }

/-- 'hallmarklaw16.WordNames', WHERE WHAT IT READS IS OF BULK AT MOST 1048576: true; the input reads as it did. -/
def wordNamesUptoRow : OpenClaim := { program := "ytikldgckdlnkpaa", sum := "6dcfa877e63a7e96462c456de276a2ec1aa3ade73b46d16506d0159c2394bfc7", func := "hallmark/hallmarklaw16.WordNames", spec := "wordNames", apart := false, narrowed := true }
def WordNamesUptoSaid : Prop := wordNamesUptoRow.holds Try.pinned (OpenSpec.upto wordNamesSpec)

/-- 'hallmarklaw19.ScopeNames', WHERE WHAT IT READS IS OF BULK AT MOST 1048576: true; the input reads as it did. -/
def scopeNamesUptoRow : OpenClaim := { program := "ytikldgckdlnkpaa", sum := "6dcfa877e63a7e96462c456de276a2ec1aa3ade73b46d16506d0159c2394bfc7", func := "hallmark/hallmarklaw19.ScopeNames", spec := "scopeNames", apart := false, narrowed := true }
def ScopeNamesUptoSaid : Prop := scopeNamesUptoRow.holds Try.pinned (OpenSpec.upto scopeNamesSpec)

/-- 'hallmarklaw16.WordNamed', WHERE WHAT IT READS IS OF BULK AT MOST 1048576: true; the input reads as it did. -/
def wordNamedUptoRow : OpenClaim := { program := "ytikldgckdlnkpaa", sum := "6dcfa877e63a7e96462c456de276a2ec1aa3ade73b46d16506d0159c2394bfc7", func := "hallmark/hallmarklaw16.WordNamed", spec := "wordNamed", inPlace := ["internal/bytealg.IndexByteString", "internal/bytealg.IndexString"], unfollowed := true, recurses := true, named := ["internal/bytealg.MaxLen"], apart := false, narrowed := true }
def WordNamedUptoSaid : Prop := wordNamedUptoRow.holds Try.pinned (OpenSpec.upto wordNamedSpec)

/-- 'hallmarklaw19.ScopeBuiltin', WHERE WHAT IT READS IS OF BULK AT MOST 1048576: true; the input reads as it did. -/
def scopeBuiltinUptoRow : OpenClaim := { program := "ytikldgckdlnkpaa", sum := "6dcfa877e63a7e96462c456de276a2ec1aa3ade73b46d16506d0159c2394bfc7", func := "hallmark/hallmarklaw19.ScopeBuiltin", spec := "scopeBuiltin", inPlace := ["internal/bytealg.IndexByteString", "internal/bytealg.IndexString"], named := ["internal/bytealg.MaxLen"], apart := false, narrowed := true }
def ScopeBuiltinUptoSaid : Prop := scopeBuiltinUptoRow.holds Try.pinned (OpenSpec.upto scopeBuiltinSpec)

end Rows
end Go.Proofs.Ytikldgckdlnkpaa
