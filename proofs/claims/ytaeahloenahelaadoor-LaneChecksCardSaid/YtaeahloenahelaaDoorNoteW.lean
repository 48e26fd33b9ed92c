/- One of each, as cells. -/
import Derived.Test.YtaeahloenahelaaDoorNoteV
import Derived.Test.YtaeahloenahelaaDoorNoteA
namespace Go.Note
open Go.Sx
structure All where
  bid : Bid
  receipt : Receipt
  batch : Batch
  A : Option Addr
  c : Nat
  item : Item
def All.cells (x : All) : List Value :=
  i64 x.bid.round :: i64 x.bid.who :: i64 x.bid.amount :: i64 x.bid.salt :: (x.bid.tag.map u8 ++ (i64 x.receipt.index :: i64 x.receipt.kind :: i64 x.receipt.time :: str x.receipt.body :: (x.receipt.prev.map u8 ++ (x.receipt.hash.map u8 ++
    [i64 x.batch.seq, i64 x.batch.first, i64 x.batch.before, .slice x.A x.batch.parts.length x.c, i64 x.item.kind, i64 x.item.who, i64 x.item.n, str x.item.text]))))
structure All.Wf (W : World) (x : All) : Prop where
  bid : Bid.Wf x.bid
  receipt : Receipt.Wf x.receipt
  batch : Batch.Wf x.batch
  rd : Rd W x.A (pc x.batch.parts)
  item : Item.Wf x.item
end Go.Note
namespace Go.Note
open Go.Sx
end Go.Note
