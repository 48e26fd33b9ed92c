/- Own words: what a function hands back out of a cell and a slot. -/
import Derived.Test.YtbdkgmkaakoigaaDoorSxW
set_option linter.unusedVariables false
set_option linter.unusedSimpArgs false
namespace Go.Sx
open Go.RowKit
variable {P : Program} {n : Nat} {S : List Nat} {w0 w : World} {ss : List (Nat × Value)} {l : List It} {o : Oper} {a : Act}
end Go.Sx
