/-
  DERIVED. GIVEN WITH THE SEED: THE CARDS: each row of YtfkianfddjccgaaDoorRows.lean that lists a variable, with what it lists TIED to the program's text (the seventh form; the later family's looks); each row that meets fmt, with fmt's text TOLD by the authors' own Lean function (tested against real Go, not proved from fmt's source: count such statements apart). THE CARD IS WHAT COUNTS. Prove the row's statement (the work); the ties are given (YtfkianfddjccgaaDoorTie.lean); close each card by the builder's one call (the guide's Derived/Test/ToyasCard.lean, 'card_holds'). Laid BY PROGRAM, IN A SANDBOX (cutbox-door.mjs). By AI agents, Wed Nov 11 2026. No macro, syntax, notation, axiom, sorry.
-/
import Derived.Test.YtfkianfddjccgaaDoorRows
import GoSem.ClaimSeven
namespace Go.Proofs.YtfkianfddjccgaaDoor
namespace Rows

/-- THE TIED CARD OF 'hallmarklaw02.UtfReads'. -/
def utfReadsCard : Claim7 := { stood := { row := utfReadsRow, standIns := [], harness := (true, "c62bfb855c2176dea40e0622bfce3beb9ecf5da853d24175f2c21b45e7a0e229"), looks := false }, kinds := [], alts := [], laidByText := true, laidKinds := [.data, .pinned], laidTests := true, laidLooks := .later }
def UtfReadsCardSaid : Prop := Claim7.holds Tryd.pinned (.plain (OpenSpec.ofChange utfReadsSpec)) utfReadsCard

/-- THE TIED CARD OF 'hallmarklaw02.UtfCuts'. -/
def utfCutsCard : Claim7 := { stood := { row := utfCutsRow, standIns := [], harness := (true, "c62bfb855c2176dea40e0622bfce3beb9ecf5da853d24175f2c21b45e7a0e229"), looks := false }, kinds := [], alts := [], laidByText := true, laidKinds := [.data, .pinned], laidTests := true, laidLooks := .later }
def UtfCutsCardSaid : Prop := Claim7.holds Tryd.pinned (.plain (OpenSpec.ofChange utfCutsSpec)) utfCutsCard

/-- THE TIED CARD OF 'hallmarklaw02.UtfOne'. -/
def utfOneCard : Claim7 := { stood := { row := utfOneRow, standIns := [], harness := (true, "c62bfb855c2176dea40e0622bfce3beb9ecf5da853d24175f2c21b45e7a0e229"), looks := false }, kinds := [], alts := [], laidByText := true, laidKinds := [.data, .pinned], laidTests := true, laidLooks := .later }
def UtfOneCardSaid : Prop := Claim7.holds Tryd.pinned (.plain (OpenSpec.ofChange utfOneSpec)) utfOneCard

/-- THE TIED CARD OF 'hallmarklaw02.UtfReadOnly'. -/
def utfReadOnlyCard : Claim7 := { stood := { row := utfReadOnlyRow, standIns := [], harness := (true, "c62bfb855c2176dea40e0622bfce3beb9ecf5da853d24175f2c21b45e7a0e229"), looks := false }, kinds := [], alts := [], laidByText := true, laidKinds := [.data, .pinned], laidTests := true, laidLooks := .later }
def UtfReadOnlyCardSaid : Prop := Claim7.holds Tryd.pinned (.plain (OpenSpec.ofChange utfReadOnlySpec)) utfReadOnlyCard

/-- THE TIED CARD OF 'hallmarklaw02.UtfCases'. -/
def utfCasesCard : Claim7 := { stood := { row := utfCasesRow, standIns := [], harness := (true, "c62bfb855c2176dea40e0622bfce3beb9ecf5da853d24175f2c21b45e7a0e229"), looks := false }, kinds := [], alts := [], laidByText := true, laidKinds := [.data, .pinned], laidTests := true, laidLooks := .later }
def UtfCasesCardSaid : Prop := Claim7.holds Tryd.pinned (.plain (OpenSpec.ofChange utfCasesSpec)) utfCasesCard

/-- THE TIED CARD OF 'hallmarklaw02.UtfThere'. -/
def utfThereCard : Claim7 := { stood := { row := utfThereRow, standIns := [], harness := (true, "c62bfb855c2176dea40e0622bfce3beb9ecf5da853d24175f2c21b45e7a0e229"), looks := false }, kinds := [], alts := [], laidByText := true, laidKinds := [.data, .pinned], laidTests := true, laidLooks := .later }
def UtfThereCardSaid : Prop := Claim7.holds Tryd.pinned (.plain (OpenSpec.ofChange utfThereSpec)) utfThereCard

/-- THE TIED CARD OF 'hallmarklaw02.UtfBack'. -/
def utfBackCard : Claim7 := { stood := { row := utfBackRow, standIns := [], harness := (true, "c62bfb855c2176dea40e0622bfce3beb9ecf5da853d24175f2c21b45e7a0e229"), looks := false }, kinds := [], alts := [], laidByText := true, laidKinds := [.data, .pinned], laidTests := true, laidLooks := .later }
def UtfBackCardSaid : Prop := Claim7.holds Tryd.pinned (.plain (OpenSpec.ofChange utfBackSpec)) utfBackCard

/-- THE TIED CARD OF 'hallmarklaw02.UtfLiteral'. -/
def utfLiteralCard : Claim7 := { stood := { row := utfLiteralRow, standIns := [], harness := (true, "c62bfb855c2176dea40e0622bfce3beb9ecf5da853d24175f2c21b45e7a0e229"), looks := false }, kinds := [], alts := [], laidByText := true, laidKinds := [.data, .pinned], laidTests := true, laidLooks := .later }
def UtfLiteralCardSaid : Prop := Claim7.holds Tryd.pinned (.plain (OpenSpec.ofChange utfLiteralSpec)) utfLiteralCard

/-- THE TIED CARD OF 'hallmarklaw02.UtfEscapes'. -/
def utfEscapesCard : Claim7 := { stood := { row := utfEscapesRow, standIns := [], harness := (true, "c62bfb855c2176dea40e0622bfce3beb9ecf5da853d24175f2c21b45e7a0e229"), looks := false }, kinds := [], alts := [], laidByText := true, laidKinds := [.data, .pinned], laidTests := true, laidLooks := .later }
def UtfEscapesCardSaid : Prop := Claim7.holds Tryd.pinned (.plain (OpenSpec.ofChange utfEscapesSpec)) utfEscapesCard

/-- THE TIED CARD OF 'hallmarklaw02.UtfFinds'. -/
def utfFindsCard : Claim7 := { stood := { row := utfFindsRow, standIns := [], harness := (true, "c62bfb855c2176dea40e0622bfce3beb9ecf5da853d24175f2c21b45e7a0e229"), looks := false }, kinds := [], alts := [], laidByText := true, laidKinds := [.data, .pinned], laidTests := true, laidLooks := .later }
def UtfFindsCardSaid : Prop := Claim7.holds Tryd.pinned (.plain (OpenSpec.ofChange utfFindsSpec)) utfFindsCard

/-- THE TIED CARD OF 'hallmarklaw02.UtfFresh'. -/
def utfFreshCard : Claim7 := { stood := { row := utfFreshRow, standIns := [], harness := (true, "c62bfb855c2176dea40e0622bfce3beb9ecf5da853d24175f2c21b45e7a0e229"), looks := false }, kinds := [], alts := [], laidByText := true, laidKinds := [.data, .pinned], laidTests := true, laidLooks := .later }
def UtfFreshCardSaid : Prop := Claim7.holds Tryd.pinned (.plain (OpenSpec.ofChange utfFreshSpec)) utfFreshCard

/-- THE TIED CARD OF 'hallmarklaw02.UtfSplits'. -/
def utfSplitsCard : Claim7 := { stood := { row := utfSplitsRow, standIns := [], harness := (true, "c62bfb855c2176dea40e0622bfce3beb9ecf5da853d24175f2c21b45e7a0e229"), looks := false }, kinds := [], alts := [], laidByText := true, laidKinds := [.data, .pinned], laidTests := true, laidLooks := .later }
def UtfSplitsCardSaid : Prop := Claim7.holds Tryd.pinned (.plain (OpenSpec.ofChange utfSplitsSpec)) utfSplitsCard

/-- THE TIED CARD OF 'hallmarklaw02.UtfParts'. -/
def utfPartsCard : Claim7 := { stood := { row := utfPartsRow, standIns := [], harness := (true, "c62bfb855c2176dea40e0622bfce3beb9ecf5da853d24175f2c21b45e7a0e229"), looks := false }, kinds := [], alts := [], laidByText := true, laidKinds := [.data, .pinned], laidTests := true, laidLooks := .later }
def UtfPartsCardSaid : Prop := Claim7.holds Tryd.pinned (.plain (OpenSpec.ofChange utfPartsSpec)) utfPartsCard

/-- THE TIED CARD OF 'hallmarklaw02.UtfAnswers'. -/
def utfAnswersCard : Claim7 := { stood := { row := utfAnswersRow, standIns := [], harness := (true, "c62bfb855c2176dea40e0622bfce3beb9ecf5da853d24175f2c21b45e7a0e229"), looks := false }, kinds := [], alts := [], laidByText := true, laidKinds := [.data, .pinned], laidTests := true, laidLooks := .later }
def UtfAnswersCardSaid : Prop := Claim7.holds Tryd.pinned (.plain (OpenSpec.ofChange utfAnswersSpec)) utfAnswersCard

/-- THE SECOND FORM's CARD OF 'hallmarklaw02.UtfReads'. -/
def utfReadsUptoCard : Claim7 := { stood := { row := utfReadsUptoRow, standIns := [], harness := (true, "c62bfb855c2176dea40e0622bfce3beb9ecf5da853d24175f2c21b45e7a0e229"), looks := false }, kinds := [], alts := [], laidByText := true, laidKinds := [.data, .pinned], laidTests := true, laidLooks := .later }
def UtfReadsUptoCardSaid : Prop := Claim7.holds Tryd.pinned (.plain (OpenSpec.upto utfReadsSpec)) utfReadsUptoCard

/-- THE SECOND FORM's CARD OF 'hallmarklaw02.UtfCuts'. -/
def utfCutsUptoCard : Claim7 := { stood := { row := utfCutsUptoRow, standIns := [], harness := (true, "c62bfb855c2176dea40e0622bfce3beb9ecf5da853d24175f2c21b45e7a0e229"), looks := false }, kinds := [], alts := [], laidByText := true, laidKinds := [.data, .pinned], laidTests := true, laidLooks := .later }
def UtfCutsUptoCardSaid : Prop := Claim7.holds Tryd.pinned (.plain (OpenSpec.upto utfCutsSpec)) utfCutsUptoCard

/-- THE SECOND FORM's CARD OF 'hallmarklaw02.UtfOne'. -/
def utfOneUptoCard : Claim7 := { stood := { row := utfOneUptoRow, standIns := [], harness := (true, "c62bfb855c2176dea40e0622bfce3beb9ecf5da853d24175f2c21b45e7a0e229"), looks := false }, kinds := [], alts := [], laidByText := true, laidKinds := [.data, .pinned], laidTests := true, laidLooks := .later }
def UtfOneUptoCardSaid : Prop := Claim7.holds Tryd.pinned (.plain (OpenSpec.upto utfOneSpec)) utfOneUptoCard

/-- THE SECOND FORM's CARD OF 'hallmarklaw02.UtfReadOnly'. -/
def utfReadOnlyUptoCard : Claim7 := { stood := { row := utfReadOnlyUptoRow, standIns := [], harness := (true, "c62bfb855c2176dea40e0622bfce3beb9ecf5da853d24175f2c21b45e7a0e229"), looks := false }, kinds := [], alts := [], laidByText := true, laidKinds := [.data, .pinned], laidTests := true, laidLooks := .later }
def UtfReadOnlyUptoCardSaid : Prop := Claim7.holds Tryd.pinned (.plain (OpenSpec.upto utfReadOnlySpec)) utfReadOnlyUptoCard

/-- THE SECOND FORM's CARD OF 'hallmarklaw02.UtfCases'. -/
def utfCasesUptoCard : Claim7 := { stood := { row := utfCasesUptoRow, standIns := [], harness := (true, "c62bfb855c2176dea40e0622bfce3beb9ecf5da853d24175f2c21b45e7a0e229"), looks := false }, kinds := [], alts := [], laidByText := true, laidKinds := [.data, .pinned], laidTests := true, laidLooks := .later }
def UtfCasesUptoCardSaid : Prop := Claim7.holds Tryd.pinned (.plain (OpenSpec.upto utfCasesSpec)) utfCasesUptoCard

/-- THE SECOND FORM's CARD OF 'hallmarklaw02.UtfThere'. -/
def utfThereUptoCard : Claim7 := { stood := { row := utfThereUptoRow, standIns := [], harness := (true, "c62bfb855c2176dea40e0622bfce3beb9ecf5da853d24175f2c21b45e7a0e229"), looks := false }, kinds := [], alts := [], laidByText := true, laidKinds := [.data, .pinned], laidTests := true, laidLooks := .later }
def UtfThereUptoCardSaid : Prop := Claim7.holds Tryd.pinned (.plain (OpenSpec.upto utfThereSpec)) utfThereUptoCard

/-- THE SECOND FORM's CARD OF 'hallmarklaw02.UtfBack'. -/
def utfBackUptoCard : Claim7 := { stood := { row := utfBackUptoRow, standIns := [], harness := (true, "c62bfb855c2176dea40e0622bfce3beb9ecf5da853d24175f2c21b45e7a0e229"), looks := false }, kinds := [], alts := [], laidByText := true, laidKinds := [.data, .pinned], laidTests := true, laidLooks := .later }
def UtfBackUptoCardSaid : Prop := Claim7.holds Tryd.pinned (.plain (OpenSpec.upto utfBackSpec)) utfBackUptoCard

/-- THE SECOND FORM's CARD OF 'hallmarklaw02.UtfLiteral'. -/
def utfLiteralUptoCard : Claim7 := { stood := { row := utfLiteralUptoRow, standIns := [], harness := (true, "c62bfb855c2176dea40e0622bfce3beb9ecf5da853d24175f2c21b45e7a0e229"), looks := false }, kinds := [], alts := [], laidByText := true, laidKinds := [.data, .pinned], laidTests := true, laidLooks := .later }
def UtfLiteralUptoCardSaid : Prop := Claim7.holds Tryd.pinned (.plain (OpenSpec.upto utfLiteralSpec)) utfLiteralUptoCard

/-- THE SECOND FORM's CARD OF 'hallmarklaw02.UtfEscapes'. -/
def utfEscapesUptoCard : Claim7 := { stood := { row := utfEscapesUptoRow, standIns := [], harness := (true, "c62bfb855c2176dea40e0622bfce3beb9ecf5da853d24175f2c21b45e7a0e229"), looks := false }, kinds := [], alts := [], laidByText := true, laidKinds := [.data, .pinned], laidTests := true, laidLooks := .later }
def UtfEscapesUptoCardSaid : Prop := Claim7.holds Tryd.pinned (.plain (OpenSpec.upto utfEscapesSpec)) utfEscapesUptoCard

/-- THE SECOND FORM's CARD OF 'hallmarklaw02.UtfFinds'. -/
def utfFindsUptoCard : Claim7 := { stood := { row := utfFindsUptoRow, standIns := [], harness := (true, "c62bfb855c2176dea40e0622bfce3beb9ecf5da853d24175f2c21b45e7a0e229"), looks := false }, kinds := [], alts := [], laidByText := true, laidKinds := [.data, .pinned], laidTests := true, laidLooks := .later }
def UtfFindsUptoCardSaid : Prop := Claim7.holds Tryd.pinned (.plain (OpenSpec.upto utfFindsSpec)) utfFindsUptoCard

/-- THE SECOND FORM's CARD OF 'hallmarklaw02.UtfFresh'. -/
def utfFreshUptoCard : Claim7 := { stood := { row := utfFreshUptoRow, standIns := [], harness := (true, "c62bfb855c2176dea40e0622bfce3beb9ecf5da853d24175f2c21b45e7a0e229"), looks := false }, kinds := [], alts := [], laidByText := true, laidKinds := [.data, .pinned], laidTests := true, laidLooks := .later }
def UtfFreshUptoCardSaid : Prop := Claim7.holds Tryd.pinned (.plain (OpenSpec.upto utfFreshSpec)) utfFreshUptoCard

/-- THE SECOND FORM's CARD OF 'hallmarklaw02.UtfSplits'. -/
def utfSplitsUptoCard : Claim7 := { stood := { row := utfSplitsUptoRow, standIns := [], harness := (true, "c62bfb855c2176dea40e0622bfce3beb9ecf5da853d24175f2c21b45e7a0e229"), looks := false }, kinds := [], alts := [], laidByText := true, laidKinds := [.data, .pinned], laidTests := true, laidLooks := .later }
def UtfSplitsUptoCardSaid : Prop := Claim7.holds Tryd.pinned (.plain (OpenSpec.upto utfSplitsSpec)) utfSplitsUptoCard

/-- THE SECOND FORM's CARD OF 'hallmarklaw02.UtfParts'. -/
def utfPartsUptoCard : Claim7 := { stood := { row := utfPartsUptoRow, standIns := [], harness := (true, "c62bfb855c2176dea40e0622bfce3beb9ecf5da853d24175f2c21b45e7a0e229"), looks := false }, kinds := [], alts := [], laidByText := true, laidKinds := [.data, .pinned], laidTests := true, laidLooks := .later }
def UtfPartsUptoCardSaid : Prop := Claim7.holds Tryd.pinned (.plain (OpenSpec.upto utfPartsSpec)) utfPartsUptoCard

/-- THE SECOND FORM's CARD OF 'hallmarklaw02.UtfAnswers'. -/
def utfAnswersUptoCard : Claim7 := { stood := { row := utfAnswersUptoRow, standIns := [], harness := (true, "c62bfb855c2176dea40e0622bfce3beb9ecf5da853d24175f2c21b45e7a0e229"), looks := false }, kinds := [], alts := [], laidByText := true, laidKinds := [.data, .pinned], laidTests := true, laidLooks := .later }
def UtfAnswersUptoCardSaid : Prop := Claim7.holds Tryd.pinned (.plain (OpenSpec.upto utfAnswersSpec)) utfAnswersUptoCard
end Rows
end Go.Proofs.YtfkianfddjccgaaDoor
