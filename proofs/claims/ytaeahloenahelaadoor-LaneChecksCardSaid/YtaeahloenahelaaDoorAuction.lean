/- The auction, in plain Lean. -/
import GoSem.Op.String
import Derived.Test.YtaeahloenahelaaDoorNoteA
import Derived.Test.YtaeahloenahelaaDoorInbox
namespace Go.Auction
open Go.Note
def name (b : Bid) : List UInt8 := Sha.sum (writeBid b).1 ++ (writeBid b).1
def has (funds : List Int) (b : Bid) : Int := if b.who < (funds.length : Int) then funds.getD b.who.toNat 0 else 0
def good (round floor : Int) (b : Bid) : Prop := checkBid b = 0 ∧ b.round = round ∧ floor ≤ b.amount
def fresh (out : List Bid) (b : Bid) : Prop := ∀ x ∈ out, x.who ≠ b.who
instance (round floor : Int) (b : Bid) : Decidable (good round floor b) := by unfold good; infer_instance
instance (out : List Bid) (b : Bid) : Decidable (fresh out b) := by unfold fresh; infer_instance
def step (funds : List Int) (round floor : Int) (out : List Bid) (b : Bid) : List Bid := if good round floor b ∧ fresh out b ∧ b.amount ≤ has funds b then out ++ [b] else out
def ahead (a b : Bid) : Bool := decide (b.amount < a.amount) || (decide (a.amount = b.amount) && Op.bytesLess (name a) (name b))
/-- The best of the first so many. -/
def best (l : List Bid) : Nat → Nat
  | 0 => 0
  | i + 1 => if i = 0 then 0 else if ahead (l.getD i Bid.zero) (l.getD (best l i) Bid.zero) = true then i else best l i
/-- The price, after so many, without one. -/
def price (l : List Bid) (k : Nat) (floor : Int) : Nat → Int
  | 0 => floor
  | i + 1 => if i = k then price l k floor i else max (price l k floor i) (l.getD i Bid.zero).amount
structure Win where
  bid : Bid
  price : Int
instance : DecidableEq Win := fun x y => decidable_of_iff (x.bid = y.bid ∧ x.price = y.price) (by cases x; cases y; simp)
def Win.zero : Win := ⟨Bid.zero, 0⟩
/-! ### Orders of texts -/
/-! ### The best -/
/-! ### The price -/
/-! ### Those that count -/
theorem check_ok {b : Bid} (h : checkBid b = 0) : b.ok = true := by
  unfold checkBid at h
  split at h
  · assumption
  · omega
structure Fine (round floor : Int) (all : List Bid) : Prop where
  good : ∀ b ∈ all, Auction.good round floor b
  one : ∀ i j, i < all.length → j < all.length → (all.getD i Bid.zero).who = (all.getD j Bid.zero).who → i = j
/-! ### Who wins -/
/-! ### Books -/
structure Book where
  floor : Int
  L : List Bid
def Book.bids (b : Book) (round : Int) : List Bid := b.L.filter fun x => decide (x.round = round)
def bid (b : Book) (x : Bid) (now : Int) : Book × Int :=
  if checkBid x ≠ 0 then (b, checkBid x)
  else if x.round ≤ now then (b, 26)
  else if x.amount < b.floor then (b, 24)
  else if ¬ fresh (b.bids x.round) x then (b, 23)
  else if 32 ≤ (b.bids x.round).length then (b, 25)
  else ({ b with L := b.L ++ [x] }, 0)
end Go.Auction
