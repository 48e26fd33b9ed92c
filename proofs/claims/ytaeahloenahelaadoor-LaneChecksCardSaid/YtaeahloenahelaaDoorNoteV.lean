/- Bids, receipts, batches and items as cells. -/
import Derived.Test.YtaeahloenahelaaDoorNote
import Derived.Test.YtaeahloenahelaaDoorSxN
import Derived.Test.YtaeahloenahelaaDoorSxTw
namespace Go.Note
open Go.Sx
abbrev I64 (n : Int) : Prop := -9223372036854775808 ≤ n ∧ n ≤ 9223372036854775807
def Bid.cells (b : Bid) : List Value := i64 b.round :: i64 b.who :: i64 b.amount :: i64 b.salt :: b.tag.map u8
structure Bid.Wf (b : Bid) : Prop where
  round : I64 b.round
  who : I64 b.who
  amount : I64 b.amount
  salt : I64 b.salt
  tag : b.tag.length = 32
end Go.Note
namespace Go.Note
open Go.Sx
def Receipt.cells (r : Receipt) : List Value := i64 r.index :: i64 r.kind :: i64 r.time :: str r.body :: (r.prev.map u8 ++ r.hash.map u8)
structure Receipt.Wf (r : Receipt) : Prop where
  index : I64 r.index
  kind : I64 r.kind
  time : I64 r.time
  body : r.body.length ≤ 140737488351232
  prev : r.prev.length = 32
  hash : r.hash.length = 32
def Item.cells (i : Item) : List Value := [i64 i.kind, i64 i.who, i64 i.n, str i.text]
structure Item.Wf (i : Item) : Prop where
  kind : I64 i.kind
  who : I64 i.who
  n : I64 i.n
  text : i.text.length ≤ 140737488351232
def Part.cells (p : Part) : List Value := [.bool p.delayed, str p.text]
def pc (ps : List Part) : List Value := (ps.map Part.cells).flatten
end Go.Note
namespace Go.Note
open Go.Sx
end Go.Note
namespace Go.Note
open Go.Sx
def Batch.cells (b : Batch) (A : Option Addr) (c : Nat) : List Value := [i64 b.seq, i64 b.first, i64 b.before, .slice A b.parts.length c]
structure Batch.Wf (b : Batch) : Prop where
  seq : I64 b.seq
  first : I64 b.first
  before : I64 b.before
  len : b.parts.length ≤ 9223372036854775807
  texts : ∀ p ∈ b.parts, p.text.length ≤ 140737488351232
end Go.Note
namespace Go.Note
open Go.Sx
end Go.Note
namespace Go.Note
open Go.Sx
end Go.Note
