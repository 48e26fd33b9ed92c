/- Auctions as cells. -/
import Derived.Test.YtaeahloenahelaaDoorAuction
import Derived.Test.YtaeahloenahelaaDoorNoteV
import Derived.Test.YtaeahloenahelaaDoorNoteA
import Derived.Test.YtaeahloenahelaaDoorInboxY
import Derived.Test.YtaeahloenahelaaDoorSxM
namespace Go.Auction
open Go.Sx
open Go.Note (Z I64 Bid)
open Go.Inbox (flat_lenM flat_takeM flat_getM flat_pre memD)
def bdc (l : List Bid) : List Value := (l.map Bid.cells).flatten
def Win.cells (w : Win) : List Value := i64 w.bid.round :: i64 w.bid.who :: i64 w.bid.amount :: i64 w.bid.salt :: (w.bid.tag.map u8 ++ [i64 w.price])
def sees (out : List Bid) (b : Bid) (j : Nat) : Bool := (out.take j).all fun z => decide (z.who ≠ b.who)
def A1 : Bid := (Note.signBid ⟨1, 1, 10, 0, Z⟩).1
def A2 : Bid := (Note.signBid ⟨1, 2, 7, 0, Z⟩).1
section
variable {P : Program} {n : Nat} {S : List Nat} {w0 : World} {ss : List (Nat × Value)} {l : List It} {o : Oper}
end
/-- What a law of auctions is given. -/
structure Case where
  l : List Bid
  A : Option Addr
  c : Nat
  fs : List Int
  B : Option Addr
  e : Nat
  r : Int
  fl : Int
def Case.cells (x : Case) : List Value := [Value.slice x.A x.l.length x.c, Value.slice x.B x.fs.length x.e, i64 x.r, i64 x.fl]
def Case.Wf (W : World) (x : Case) : Prop := x.l.length ≤ x.c ∧ x.fs.length ≤ 9223372036854775807 ∧ (∀ b ∈ x.l, Bid.Wf b) ∧ Rd W x.A (bdc x.l) ∧ Rd W x.B (x.fs.map i64)
end Go.Auction
namespace Go.Note
end Go.Note
