/-
  DERIVED. GIVEN WITH THE SEED: THE CARDS: each row of YtccabnimiacioaaDoorRows.lean that lists a variable, with what it lists TIED to the program's text (the seventh form; the later family's looks); each row that meets fmt, with fmt's text TOLD by the authors' own Lean function (tested against real Go, not proved from fmt's source: count such statements apart). THE CARD IS WHAT COUNTS. Prove the row's statement (the work); the ties are given (YtccabnimiacioaaDoorTie.lean); close each card by the builder's one call (the guide's Derived/Test/ToyasCard.lean, 'card_holds'). Laid BY PROGRAM, IN A SANDBOX (cutbox-door.mjs). By AI agents, Wed Nov 11 2026. No macro, syntax, notation, axiom, sorry.
-/
import Derived.Test.YtccabnimiacioaaDoorRows
import GoSem.ClaimSeven
namespace Go.Proofs.YtccabnimiacioaaDoor
namespace Rows

/-- THE TIED CARD OF 'hallmarklaw16.WordKnown'. -/
def wordKnownCard : Claim7 := { stood := { row := wordKnownRow, standIns := [], harness := (true, "923fead76708459532218fa238e8a0d4e52d9caac80ae602f41786f4bc01dcff"), looks := false }, kinds := [], alts := [], laidByText := true, laidKinds := [.data, .pinned], laidTests := true, laidLooks := .later }
def WordKnownCardSaid : Prop := Claim7.holds Tryd.pinned (.plain (OpenSpec.ofChange wordKnownSpec)) wordKnownCard

/-- THE TIED CARD OF 'hallmarklaw16.WordGaps'. -/
def wordGapsCard : Claim7 := { stood := { row := wordGapsRow, standIns := [], harness := (true, "923fead76708459532218fa238e8a0d4e52d9caac80ae602f41786f4bc01dcff"), looks := false }, kinds := [], alts := [], laidByText := true, laidKinds := [.data, .pinned], laidTests := true, laidLooks := .later }
def WordGapsCardSaid : Prop := Claim7.holds Tryd.pinned (.plain (OpenSpec.ofChange wordGapsSpec)) wordGapsCard

/-- THE TIED CARD OF 'hallmarklaw16.WordNests'. -/
def wordNestsCard : Claim7 := { stood := { row := wordNestsRow, standIns := [], harness := (true, "923fead76708459532218fa238e8a0d4e52d9caac80ae602f41786f4bc01dcff"), looks := false }, kinds := [], alts := [], laidByText := true, laidKinds := [.data, .pinned], laidTests := true, laidLooks := .later }
def WordNestsCardSaid : Prop := Claim7.holds Tryd.pinned (.plain (OpenSpec.ofChange wordNestsSpec)) wordNestsCard

/-- THE TIED CARD OF 'hallmarklaw16.WordAlone'. -/
def wordAloneCard : Claim7 := { stood := { row := wordAloneRow, standIns := [], harness := (true, "923fead76708459532218fa238e8a0d4e52d9caac80ae602f41786f4bc01dcff"), looks := false }, kinds := [], alts := [], laidByText := true, laidKinds := [.data, .pinned], laidTests := true, laidLooks := .later }
def WordAloneCardSaid : Prop := Claim7.holds Tryd.pinned (.plain (OpenSpec.ofChange wordAloneSpec)) wordAloneCard

/-- THE SECOND FORM's CARD OF 'hallmarklaw16.WordKnown'. -/
def wordKnownUptoCard : Claim7 := { stood := { row := wordKnownUptoRow, standIns := [], harness := (true, "923fead76708459532218fa238e8a0d4e52d9caac80ae602f41786f4bc01dcff"), looks := false }, kinds := [], alts := [], laidByText := true, laidKinds := [.data, .pinned], laidTests := true, laidLooks := .later }
def WordKnownUptoCardSaid : Prop := Claim7.holds Tryd.pinned (.plain (OpenSpec.upto wordKnownSpec)) wordKnownUptoCard

/-- THE SECOND FORM's CARD OF 'hallmarklaw16.WordGaps'. -/
def wordGapsUptoCard : Claim7 := { stood := { row := wordGapsUptoRow, standIns := [], harness := (true, "923fead76708459532218fa238e8a0d4e52d9caac80ae602f41786f4bc01dcff"), looks := false }, kinds := [], alts := [], laidByText := true, laidKinds := [.data, .pinned], laidTests := true, laidLooks := .later }
def WordGapsUptoCardSaid : Prop := Claim7.holds Tryd.pinned (.plain (OpenSpec.upto wordGapsSpec)) wordGapsUptoCard

/-- THE SECOND FORM's CARD OF 'hallmarklaw16.WordNests'. -/
def wordNestsUptoCard : Claim7 := { stood := { row := wordNestsUptoRow, standIns := [], harness := (true, "923fead76708459532218fa238e8a0d4e52d9caac80ae602f41786f4bc01dcff"), looks := false }, kinds := [], alts := [], laidByText := true, laidKinds := [.data, .pinned], laidTests := true, laidLooks := .later }
def WordNestsUptoCardSaid : Prop := Claim7.holds Tryd.pinned (.plain (OpenSpec.upto wordNestsSpec)) wordNestsUptoCard

/-- THE SECOND FORM's CARD OF 'hallmarklaw16.WordAlone'. -/
def wordAloneUptoCard : Claim7 := { stood := { row := wordAloneUptoRow, standIns := [], harness := (true, "923fead76708459532218fa238e8a0d4e52d9caac80ae602f41786f4bc01dcff"), looks := false }, kinds := [], alts := [], laidByText := true, laidKinds := [.data, .pinned], laidTests := true, laidLooks := .later }
def WordAloneUptoCardSaid : Prop := Claim7.holds Tryd.pinned (.plain (OpenSpec.upto wordAloneSpec)) wordAloneUptoCard
end Rows
end Go.Proofs.YtccabnimiacioaaDoor
