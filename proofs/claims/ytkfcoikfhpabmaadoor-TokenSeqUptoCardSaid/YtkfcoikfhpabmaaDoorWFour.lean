-- A selection, made by our program trim.py, of words that the kit's print laid for this seat: only what this claim's texts name. Not as printed.
import Derived.Test.YtkfcoikfhpabmaaDoorWTab
/-! ### 56. Four, five, six operations that may come up next, in any order -/
namespace Go.Proofs.YtkfcoikfhpabmaaDoorW.PrintLast
section
variable {P : Program} {ops : Array Oper} {Q : Exit → Act → World → Prop} {md : Region.Mode} {S : World → Prop} {ds : List Nat} {T : Bool × List (List Nat × List Nat)}
end
end Go.Proofs.YtkfcoikfhpabmaaDoorW.PrintLast
