/- Blocks and the inbox's entries as cells. -/
import Derived.Test.YtaeahloenahelaaDoorNoteW
import Derived.Test.YtaeahloenahelaaDoorInbox
namespace Go.Inbox
open Go.Sx
open Go.Note (Z I64)
theorem flat_lenM {α : Type} {f : α → List Value} {z : Nat} : ∀ (l : List α), (∀ x ∈ l, (f x).length = z) → ((l.map f).flatten).length = l.length * z
  | [], _ => by simp
  | x :: l, h => by
    have h0 := h x (by simp)
    have ih := flat_lenM l (fun y hy => h y (by simp [hy]))
    simp only [List.map_cons, List.flatten_cons, List.length_append, List.length_cons, ih, h0]
    rw [Nat.add_mul]
    omega
theorem flat_takeM {α : Type} {f : α → List Value} {z : Nat} (d : α) : ∀ (l : List α) (i : Nat), (∀ x ∈ l, (f x).length = z) → i < l.length → (((l.map f).flatten).drop (i * z)).take z = f (l.getD i d)
  | [], i, _, h => absurd h (by simp)
  | x :: l, 0, h, _ => by
    have h0 := h x (by simp)
    simp only [Nat.zero_mul, List.drop_zero, List.map_cons, List.flatten_cons]
    rw [← h0, List.take_left]
    rfl
  | x :: l, i + 1, h, hi => by
    have h0 := h x (by simp)
    have ih := flat_takeM d l i (fun y hy => h y (by simp [hy])) (by simpa using hi)
    simp only [List.map_cons, List.flatten_cons]
    rw [show (i + 1) * z = (f x).length + i * z by rw [h0, Nat.add_mul]; omega, Oct.drop_at, ih]
    rfl
theorem flat_getM {α : Type} {f : α → List Value} {z : Nat} (d : α) {l : List α} {i j : Nat} (h : ∀ x ∈ l, (f x).length = z) (hi : i < l.length) (hj : j < z) : ((l.map f).flatten)[i * z + j]? = (f (l.getD i d))[j]? := by
  rw [← flat_takeM d l i h hi, List.getElem?_take, if_pos hj, List.getElem?_drop]
def ic (l : List Note.Item) : List Value := (l.map Note.Item.cells).flatten
/-- A block, and where its items lie. -/
structure BA where
  b : Block
  A : Option Addr
  c : Nat
def BA.zero : BA := ⟨⟨0, 0, Z, []⟩, none, 0⟩
def BA.cells (x : BA) : List Value := i64 x.b.number :: i64 x.b.salt :: (x.b.parent.map u8 ++ [.slice x.A x.b.items.length x.c])
structure BA.Wf (W : World) (x : BA) : Prop where
  number : I64 x.b.number
  salt : I64 x.b.salt
  parent : x.b.parent.length = 32
  len : x.b.items.length ≤ 9223372036854775807
  items : ∀ i ∈ x.b.items, Note.Item.Wf i
  rd : Rd W x.A (ic x.b.items)
theorem BA.cells_len {x : BA} (h : x.b.parent.length = 32) : x.cells.length = 35 := by simp [BA.cells, h]
def Entry.cells (e : Entry) : List Value := i64 e.who :: str e.text :: i64 e.block :: e.acc.map u8
structure Entry.Wf (e : Entry) : Prop where
  who : I64 e.who
  text : e.text.length ≤ 140737488351232
  block : I64 e.block
  acc : e.acc.length = 32
theorem Entry.cells_len {e : Entry} (h : e.acc.length = 32) : e.cells.length = 35 := by simp [Entry.cells, h]
end Go.Inbox
