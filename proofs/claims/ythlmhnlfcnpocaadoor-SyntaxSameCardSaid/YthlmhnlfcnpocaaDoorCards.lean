/-
  DERIVED. GIVEN WITH THE SEED: THE CARDS: each row of YthlmhnlfcnpocaaDoorRows.lean that lists a variable, with what it lists TIED to the program's text (the seventh form; the later family's looks); each row that meets fmt, with fmt's text TOLD by the authors' own Lean function (tested against real Go, not proved from fmt's source: count such statements apart). THE CARD IS WHAT COUNTS. Prove the row's statement (the work); the ties are given (YthlmhnlfcnpocaaDoorTie.lean); close each card by the builder's one call (the guide's Derived/Test/ToyasCard.lean, 'card_holds'). Laid BY PROGRAM, IN A SANDBOX (cutbox-door.mjs). By AI agents, Wed Nov 11 2026. No macro, syntax, notation, axiom, sorry.
-/
import Derived.Test.YthlmhnlfcnpocaaDoorRows
import GoSem.ClaimSeven
namespace Go.Proofs.YthlmhnlfcnpocaaDoor
namespace Rows

/-- THE TIED CARD OF 'hallmarklaw17.SyntaxBrackets'. -/
def syntaxBracketsCard : Claim7 := { stood := { row := syntaxBracketsRow, standIns := [], harness := (true, "bea49f9b3eb7b0957a5ae8fbece5ea73bec303d1631ed11d74ee39b6069fb7e5"), looks := true }, kinds := [], alts := [], laidByText := true, laidKinds := [.data, .data, .pinned], laidTests := true, laidLooks := .later }
def SyntaxBracketsCardSaid : Prop := Claim7.holds Tryd.pinned (.plain (OpenSpec.ofChange syntaxBracketsSpec)) syntaxBracketsCard

/-- THE TIED CARD OF 'hallmarklaw17.SyntaxKnown'. -/
def syntaxKnownCard : Claim7 := { stood := { row := syntaxKnownRow, standIns := [], harness := (true, "bea49f9b3eb7b0957a5ae8fbece5ea73bec303d1631ed11d74ee39b6069fb7e5"), looks := true }, kinds := [], alts := [], laidByText := true, laidKinds := [.data, .data, .pinned], laidTests := true, laidLooks := .later }
def SyntaxKnownCardSaid : Prop := Claim7.holds Tryd.pinned (.plain (OpenSpec.ofChange syntaxKnownSpec)) syntaxKnownCard

/-- THE TIED CARD OF 'hallmarklaw17.SyntaxSame'. -/
def syntaxSameCard : Claim7 := { stood := { row := syntaxSameRow, standIns := [], harness := (true, "bea49f9b3eb7b0957a5ae8fbece5ea73bec303d1631ed11d74ee39b6069fb7e5"), looks := true }, kinds := [], alts := [], laidByText := true, laidKinds := [.data, .data, .pinned], laidTests := true, laidLooks := .later }
def SyntaxSameCardSaid : Prop := Claim7.holds Tryd.pinned (.plain (OpenSpec.ofChange syntaxSameSpec)) syntaxSameCard

/-- THE SECOND FORM's CARD OF 'hallmarklaw17.SyntaxBrackets'. -/
def syntaxBracketsUptoCard : Claim7 := { stood := { row := syntaxBracketsUptoRow, standIns := [], harness := (true, "bea49f9b3eb7b0957a5ae8fbece5ea73bec303d1631ed11d74ee39b6069fb7e5"), looks := true }, kinds := [], alts := [], laidByText := true, laidKinds := [.data, .data, .pinned], laidTests := true, laidLooks := .later }
def SyntaxBracketsUptoCardSaid : Prop := Claim7.holds Tryd.pinned (.plain (OpenSpec.upto syntaxBracketsSpec)) syntaxBracketsUptoCard

/-- THE SECOND FORM's CARD OF 'hallmarklaw17.SyntaxKnown'. -/
def syntaxKnownUptoCard : Claim7 := { stood := { row := syntaxKnownUptoRow, standIns := [], harness := (true, "bea49f9b3eb7b0957a5ae8fbece5ea73bec303d1631ed11d74ee39b6069fb7e5"), looks := true }, kinds := [], alts := [], laidByText := true, laidKinds := [.data, .data, .pinned], laidTests := true, laidLooks := .later }
def SyntaxKnownUptoCardSaid : Prop := Claim7.holds Tryd.pinned (.plain (OpenSpec.upto syntaxKnownSpec)) syntaxKnownUptoCard

/-- THE SECOND FORM's CARD OF 'hallmarklaw17.SyntaxSame'. -/
def syntaxSameUptoCard : Claim7 := { stood := { row := syntaxSameUptoRow, standIns := [], harness := (true, "bea49f9b3eb7b0957a5ae8fbece5ea73bec303d1631ed11d74ee39b6069fb7e5"), looks := true }, kinds := [], alts := [], laidByText := true, laidKinds := [.data, .data, .pinned], laidTests := true, laidLooks := .later }
def SyntaxSameUptoCardSaid : Prop := Claim7.holds Tryd.pinned (.plain (OpenSpec.upto syntaxSameSpec)) syntaxSameUptoCard
end Rows
end Go.Proofs.YthlmhnlfcnpocaaDoor
