/- What the inbox must give at any rate, as cells. -/
import Derived.Test.YtaeahloenahelaaDoorInboxA
import Derived.Test.YtaeahloenahelaaDoorInboxW
namespace Go.Inbox
open Go.Sx
open Go.Note (Z I64)
/-- What a call names. -/
structure Q where
  n : Int
  t : Int
  wt : Int
def Q.cells (q : Q) : List Value := [Sx.i64 q.n, Sx.i64 q.t, Sx.i64 q.wt]
end Go.Inbox
