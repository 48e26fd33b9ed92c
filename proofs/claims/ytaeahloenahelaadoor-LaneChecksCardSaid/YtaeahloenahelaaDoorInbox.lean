/- The inbox's messages and calls, in plain Lean. -/
import Derived.Test.YtaeahloenahelaaDoorNoteA
namespace Go.Inbox
open Go.Note
structure Block where
  number : Int
  salt : Int
  parent : List UInt8
  items : List Note.Item
structure Entry where
  who : Int
  text : List UInt8
  block : Int
  acc : List UInt8
instance : DecidableEq Entry := fun x y => decidable_of_iff (x.who = y.who ∧ x.text = y.text ∧ x.block = y.block ∧ x.acc = y.acc) (by cases x; cases y; simp)
def Entry.zero : Entry := ⟨0, [], 0, Z⟩
/-- A message, as an item. -/
def isMsg (i : Note.Item) : Bool := i.ok && decide (i.kind = 1) && decide (i.text.length ≤ 640)
def next (acc : List UInt8) (who : Int) (text : List UInt8) : List UInt8 := Sha.sum (acc ++ (Oct.list [num who, text]).1)
/-- Messages of items: what stands for all, and the entries. -/
def step (block : Int) (s : List UInt8 × List Entry) (i : Note.Item) : List UInt8 × List Entry := if isMsg i then (next s.1 i.who i.text, s.2 ++ [⟨i.who, i.text, block, next s.1 i.who i.text⟩]) else s
def blockStep (s : List UInt8 × List Entry) (b : Block) : List UInt8 × List Entry := b.items.foldl (step b.number) s
def run (s : List UInt8 × List Entry) (l : List Block) : List UInt8 × List Entry := l.foldl blockStep s
def messages (l : List Block) : List Entry := (run (Z, []) l).2
/-! ### Laws -/
/-! ### Reach -/
end Go.Inbox
