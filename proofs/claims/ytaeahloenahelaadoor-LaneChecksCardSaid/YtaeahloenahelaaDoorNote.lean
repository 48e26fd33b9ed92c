/- Bids, receipts, batches and items as bytes, in plain Lean. -/
import Derived.Test.YtaeahloenahelaaDoorOct2
import Derived.Test.YtaeahloenahelaaDoorSeal
namespace Go.Note
def okNum (n : Int) : Bool := decide (0 ≤ n ∧ n ≤ 1099511627776)
def nums (l : List Int) : Bool := l.all okNum
def num (n : Int) : List UInt8 := (Oct.number n).1
/-- A list that is all of a text. -/
def whole (s : List UInt8) : List (List UInt8) × Int := if (Oct.rdl s 0).2.2 ≠ 0 then ([], (Oct.rdl s 0).2.2) else if (Oct.rdl s 0).2.1 < s.length then ([], 6) else ((Oct.rdl s 0).1, 0)
/-- A number that is all of a text. -/
def wn (t : List UInt8) : Int × Int := if (Oct.rdn t 0).2.2 ≠ 0 then (0, (Oct.rdn t 0).2.2) else if (Oct.rdn t 0).2.1 < t.length then (0, 6) else ((Oct.rdn t 0).1, 0)
def okn (t : List UInt8) : Bool := decide ((wn t).2 = 0)
/-- The first k of some texts as numbers. -/
def first (L : List (List UInt8)) (k : Nat) : Option (List Int) := if L.length < k then none else if (L.take k).all okn then some ((L.take k).map fun t => (wn t).1) else none
/-- A list whose first k texts are numbers. -/
def fields (s : List UInt8) (k : Nat) : Option (List Int × List (List UInt8)) := if (whole s).2 ≠ 0 then none else (first (whole s).1 k).map fun ns => (ns, (whole s).1.drop k)
def Z : List UInt8 := List.replicate 32 0
structure Bid where
  round : Int
  who : Int
  amount : Int
  salt : Int
  tag : List UInt8
def Bid.zero : Bid := ⟨0, 0, 0, 0, Z⟩
def Bid.ok (b : Bid) : Bool := nums [b.round, b.who, b.amount, b.salt] && decide (b.who < 64)
def Bid.said (b : Bid) : List UInt8 := (Oct.list [num b.round, num b.who, num b.amount, num b.salt]).1
def writeBid (b : Bid) : List UInt8 × Int := if b.ok then Oct.list [num b.round, num b.who, num b.amount, num b.salt, b.tag] else ([], 2)
def signBid (b : Bid) : Bid × Int := if b.ok then ({ b with tag := (Seal.tag b.who 3 b.said).1 }, 0) else (Bid.zero, 2)
def checkBid (b : Bid) : Int := if b.ok then (if (Seal.tag b.who 3 b.said).1 = b.tag then 0 else 21) else 2
structure Receipt where
  index : Int
  kind : Int
  time : Int
  body : List UInt8
  prev : List UInt8
  hash : List UInt8
def Receipt.zero : Receipt := ⟨0, 0, 0, [], Z, Z⟩
def Receipt.ok (r : Receipt) : Bool := nums [r.index, r.time] && decide (r.kind = 1 ∨ r.kind = 2) && decide (r.body.length ≤ 656)
structure Part where
  delayed : Bool
  text : List UInt8
def Part.ok (p : Part) : Bool := if p.delayed then decide (p.text = []) else decide (p.text.length ≤ 656)
def Part.laid (p : Part) : List UInt8 := if p.delayed then [2] else 1 :: p.text
structure Batch where
  seq : Int
  first : Int
  before : Int
  parts : List Part
def Batch.zero : Batch := ⟨0, 0, 0, []⟩
/-- A part's text, read. -/
def part (t : List UInt8) : Option Part :=
  if t = [2] then some ⟨true, []⟩ else if t.getD 0 0 = 1 ∧ t ≠ [] ∧ t.length ≤ 657 then some ⟨false, t.drop 1⟩ else none
def parts (l : List (List UInt8)) : Option (List Part) := l.mapM part
structure Item where
  kind : Int
  who : Int
  n : Int
  text : List UInt8
def Item.zero : Item := ⟨0, 0, 0, []⟩
def Item.ok (i : Item) : Bool := nums [i.who, i.n] && decide (i.who ≤ 64) && decide (i.text.length ≤ 65472) && (if i.kind = 1 ∨ i.kind = 3 then decide (i.n = 0) else if i.kind = 2 then decide (i.who = 0) && decide (i.text = []) else false)
/-! ### Small laws for the walks -/
theorem take_all {α : Type} {f : α → Bool} {l : List α} {k : Nat} (d : α) (h : k < l.length) (ht : (l.take k).all f = true) (hx : f (l.getD k d) = true) : (l.take (k + 1)).all f = true := by
  rw [Oct.take_succ d h, List.all_append, ht, List.all_cons, hx]
  rfl
end Go.Note
namespace Go.Note
theorem Z_len : Z.length = 32 := rfl
end Go.Note
namespace Go.Note
end Go.Note
namespace Go.Note
theorem three {α : Type} {l : List α} (h : l.length = 3) : ∃ a b c, l = [a, b, c] := by
  match l, h with
  | [a, b, c], _ => exact ⟨a, b, c, rfl⟩
end Go.Note
namespace Go.Note
instance : DecidableEq Bid := fun x y => decidable_of_iff (x.round = y.round ∧ x.who = y.who ∧ x.amount = y.amount ∧ x.salt = y.salt ∧ x.tag = y.tag) (by cases x; cases y; simp)
instance : DecidableEq Receipt := fun x y => decidable_of_iff (x.index = y.index ∧ x.kind = y.kind ∧ x.time = y.time ∧ x.body = y.body ∧ x.prev = y.prev ∧ x.hash = y.hash) (by cases x; cases y; simp)
instance : DecidableEq Part := fun x y => decidable_of_iff (x.delayed = y.delayed ∧ x.text = y.text) (by cases x; cases y; simp)
instance : DecidableEq Item := fun x y => decidable_of_iff (x.kind = y.kind ∧ x.who = y.who ∧ x.n = y.n ∧ x.text = y.text) (by cases x; cases y; simp)
instance : DecidableEq Batch := fun x y => decidable_of_iff (x.seq = y.seq ∧ x.first = y.first ∧ x.before = y.before ∧ x.parts = y.parts) (by cases x; cases y; simp)
end Go.Note
namespace Go.Note
theorem check_err {b : Bid} (h : (signBid b).2 ≠ 0) : (signBid b).2 = checkBid b := by
  unfold signBid checkBid at *
  split
  · rename_i h1; rw [if_pos h1] at h; exact absurd rfl h
  · rfl
theorem check_bad {b : Bid} (h : (signBid b).2 = 0) (h1 : (signBid b).1 ≠ b) : checkBid b = 21 := by
  unfold signBid checkBid at *
  by_cases hk : b.ok = true
  · rw [if_pos hk] at *
    rw [if_neg]
    intro e
    apply h1
    cases b
    simp only at e
    simp [e]
  · rw [if_neg hk] at h
    simp at h
end Go.Note
namespace Go.Note
end Go.Note
namespace Go.Note
end Go.Note
namespace Go.Note
theorem Batch.same {x y : Batch} (h1 : x.seq = y.seq) (h2 : x.first = y.first) (h3 : x.before = y.before) (h4 : x.parts = y.parts) : x = y := by
  cases x
  cases y
  simp only at *
  subst h1 h2 h3 h4
  rfl
end Go.Note
namespace Go.Note
end Go.Note
