-- A selection, made by our program trim.py, of words that the kit's print laid for this seat: only what this claim's texts name. Not as printed.
import Derived.Test.YtkfcoikfhpabmaaDoorWWords
import Derived.Laws.StructEq
/-! ### 53. '==' of structs as_ one Bool -/
namespace Go.Proofs.YtkfcoikfhpabmaaDoorW.PrintWords
open Go.RowKit
section
variable {P : Program} {d : Nat} {xs ys : Array Value} {f : Field} {fs : List Field} {a b : Value} {r s : Bool} {w : World}
end
end Go.Proofs.YtkfcoikfhpabmaaDoorW.PrintWords
