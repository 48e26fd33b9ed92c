/- The calls of a bank as cells. -/
import Derived.Test.YtlaojmcpiggfeaaSxT
import Derived.Test.YtlaojmcpiggfeaaBank
namespace Go.Bank
open Go.Sx
def cells (c : Act) : List Value := [i64 c.k, i64 c.a, i64 c.b, i64 c.n]
theorem cells_len (c : Act) : (cells c).length = 4 := rfl
def Wf (c : Act) : Prop := (-9223372036854775808 ≤ c.k ∧ c.k ≤ 9223372036854775807) ∧ (-9223372036854775808 ≤ c.a ∧ c.a ≤ 9223372036854775807) ∧ (-9223372036854775808 ≤ c.b ∧ c.b ≤ 9223372036854775807) ∧ (-9223372036854775808 ≤ c.n ∧ c.n ≤ 9223372036854775807)
end Go.Bank
