-- A selection, made by our program trim.py, of words that the kit's print laid for this seat: only what this claim's texts name. Not as printed.
import Derived.Test.YtkfcoikfhpabmaaDoorWInv
import Derived.Test.YtkfcoikfhpabmaaDoorWFootNe
namespace Go.Proofs.YtkfcoikfhpabmaaDoorW.PrintWords
open Go.RowKit
end Go.Proofs.YtkfcoikfhpabmaaDoorW.PrintWords
namespace Go.Proofs.YtkfcoikfhpabmaaDoorW.PrintLast
section
variable {ops : Array Oper} {a : Act} {o og : Oper} {g : Nat} {t : Tmp} {u : Bool}
end
end Go.Proofs.YtkfcoikfhpabmaaDoorW.PrintLast
