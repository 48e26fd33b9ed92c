/- Bids, receipts, batches and items as cells. -/
import Derived.Test.YtnnhnnhdoipbaaaDoorNote
import Derived.Test.YtnnhnnhdoipbaaaDoorSxN
import Derived.Test.YtnnhnnhdoipbaaaDoorSxTw
namespace Go.Note
open Go.Sx
abbrev I64 (n : Int) : Prop := -9223372036854775808 ≤ n ∧ n ≤ 9223372036854775807
def Bid.cells (b : Bid) : List Value := i64 b.round :: i64 b.who :: i64 b.amount :: i64 b.salt :: b.tag.map u8
structure Bid.Wf (b : Bid) : Prop where
  round : I64 b.round
  who : I64 b.who
  amount : I64 b.amount
  salt : I64 b.salt
  tag : b.tag.length = 32
end Go.Note
namespace Go.Note
open Go.Sx
def Receipt.cells (r : Receipt) : List Value := i64 r.index :: i64 r.kind :: i64 r.time :: str r.body :: (r.prev.map u8 ++ r.hash.map u8)
structure Receipt.Wf (r : Receipt) : Prop where
  index : I64 r.index
  kind : I64 r.kind
  time : I64 r.time
  body : r.body.length ≤ 140737488351232
  prev : r.prev.length = 32
  hash : r.hash.length = 32
def Item.cells (i : Item) : List Value := [i64 i.kind, i64 i.who, i64 i.n, str i.text]
structure Item.Wf (i : Item) : Prop where
  kind : I64 i.kind
  who : I64 i.who
  n : I64 i.n
  text : i.text.length ≤ 140737488351232
def Part.cells (p : Part) : List Value := [.bool p.delayed, str p.text]
def pc (ps : List Part) : List Value := (ps.map Part.cells).flatten
theorem set_take (L : List (List UInt8)) (cs : List Value) (i : Nat) (v : Int) (hi : i < L.length) (hc : i < cs.length) (hv : v = (wn (L.getD i [])).1) :
    ((((L.take i).map fun t => (wn t).1).map i64) ++ cs.drop i).set i (i64 v) = ((L.take (i + 1)).map fun t => (wn t).1).map i64 ++ cs.drop (i + 1) := by
  have h1 : ((((L.take i).map fun t => (wn t).1)).map i64).length = i := by simp; omega
  rw [List.set_append_right _ _ (by omega), h1, Nat.sub_self, Oct.take_succ [] hi, List.map_append, List.map_append, hv]
  have h2 : cs.drop i = cs[i] :: cs.drop (i + 1) := List.drop_eq_getElem_cons hc
  rw [h2, List.set_cons_zero, List.append_assoc]
  rfl
theorem rest_get {L : List (List UInt8)} (k j : Nat) (h : k + j < L.length) : ((L.map str).drop k)[j]? = some (str ((L.drop k).getD j [])) := by
  rw [← List.map_drop]
  exact map_get str _ j [] (by rw [List.length_drop]; omega)
end Go.Note
namespace Go.Note
open Go.Sx
theorem i64_of {n : Int} (h : 0 ≤ n ∧ n ≤ 9223372036854775807) : I64 n := ⟨by omega, h.2⟩
theorem wf4 {n0 n1 n2 n3 : Int} {t : List UInt8} (h : ∀ x ∈ [n0, n1, n2, n3], 0 ≤ x ∧ x ≤ 9223372036854775807) (ht : t.length = 32) : Bid.Wf ⟨n0, n1, n2, n3, t⟩ := by
  have h0 := h n0 (by simp)
  have h1 := h n1 (by simp)
  have h2 := h n2 (by simp)
  have h3 := h n3 (by simp)
  exact ⟨i64_of h0, i64_of h1, i64_of h2, i64_of h3, ht⟩
end Go.Note
namespace Go.Note
open Go.Sx
def Batch.cells (b : Batch) (A : Option Addr) (c : Nat) : List Value := [i64 b.seq, i64 b.first, i64 b.before, .slice A b.parts.length c]
structure Batch.Wf (b : Batch) : Prop where
  seq : I64 b.seq
  first : I64 b.first
  before : I64 b.before
  len : b.parts.length ≤ 9223372036854775807
  texts : ∀ p ∈ b.parts, p.text.length ≤ 140737488351232
end Go.Note
namespace Go.Note
open Go.Sx
theorem wf3r {n0 n1 n2 : Int} {L : List (List UInt8)} (h : ∀ x ∈ [n0, n1, n2], 0 ≤ x ∧ x ≤ 9223372036854775807) (hL : ∀ x ∈ L, x.length ≤ 65536) (hl : 0 < (L.drop 3).length) (h1 : ((L.drop 3).getD 1 []).length = 32) (h2 : ((L.drop 3).getD 2 []).length = 32) : Receipt.Wf (receiptOf [n0, n1, n2] (L.drop 3)) := by
  refine ⟨i64_of (h n0 (by simp)), i64_of (h n1 (by simp)), i64_of (h n2 (by simp)), ?_, h1, h2⟩
  have := hL ((L.drop 3).getD 0 []) (by rw [Oct.getD_eq [] hl]; exact List.mem_of_mem_drop (List.getElem_mem hl))
  show ((L.drop 3).getD 0 []).length ≤ _
  omega
end Go.Note
namespace Go.Note
open Go.Sx
end Go.Note
