/- One of each, as cells. -/
import Derived.Test.YtnnhnnhdoipbaaaDoorNoteV
import Derived.Test.YtnnhnnhdoipbaaaDoorNoteA
namespace Go.Note
open Go.Sx
structure All where
  bid : Bid
  receipt : Receipt
  batch : Batch
  A : Option Addr
  c : Nat
  item : Item
def All.cells (x : All) : List Value :=
  i64 x.bid.round :: i64 x.bid.who :: i64 x.bid.amount :: i64 x.bid.salt :: (x.bid.tag.map u8 ++ (i64 x.receipt.index :: i64 x.receipt.kind :: i64 x.receipt.time :: str x.receipt.body :: (x.receipt.prev.map u8 ++ (x.receipt.hash.map u8 ++
    [i64 x.batch.seq, i64 x.batch.first, i64 x.batch.before, .slice x.A x.batch.parts.length x.c, i64 x.item.kind, i64 x.item.who, i64 x.item.n, str x.item.text]))))
theorem All.cells_is (x : All) : Bid.cells x.bid ++ (Receipt.cells x.receipt ++ (Batch.cells x.batch x.A x.c ++ Item.cells x.item)) = All.cells x := by
  simp [All.cells, Bid.cells, Receipt.cells, Batch.cells, Item.cells]
structure All.Wf (W : World) (x : All) : Prop where
  bid : Bid.Wf x.bid
  receipt : Receipt.Wf x.receipt
  batch : Batch.Wf x.batch
  rd : Rd W x.A (pc x.batch.parts)
  item : Item.Wf x.item
theorem item_wf {i : Item} (h : i.ok = true) : Item.Wf i := by
  have hw := ok_item h
  exact ⟨⟨by omega, by omega⟩, ⟨by omega, by omega⟩, ⟨by omega, by omega⟩, by omega⟩
theorem readItem_wf {s : List UInt8} : Item.Wf (readItem s).1 := by
  unfold readItem
  split
  · exact ⟨⟨by decide, by decide⟩, ⟨by decide, by decide⟩, ⟨by decide, by decide⟩, by decide⟩
  · split
    · rename_i h
      exact item_wf h.2
    · exact ⟨⟨by decide, by decide⟩, ⟨by decide, by decide⟩, ⟨by decide, by decide⟩, by decide⟩
theorem readBatch_wf {s : List UInt8} : Batch.Wf (readBatch s).1 := by
  have hl := readBatch_len (s := s)
  have hz : Batch.Wf Batch.zero := ⟨⟨by decide, by decide⟩, ⟨by decide, by decide⟩, ⟨by decide, by decide⟩, by decide, fun p hp => by cases hp⟩
  unfold readBatch at *
  split
  · exact hz
  · rename_i ns l hf
    rw [hf] at hl
    simp only at hl
    split
    · rename_i h
      rw [if_pos h] at hl
      obtain ⟨_, hn, hr⟩ := fields_back hf
      obtain ⟨a, b, c, rfl⟩ := three hn
      cases hp : parts l with
      | none => exact hz
      | some ps =>
        rw [hp] at hl
        simp only at hl ⊢
        refine ⟨i64_of (hr a (by simp)), i64_of (hr b (by simp)), i64_of (hr c (by simp)), by simp only; omega, fun p hpm => ?_⟩
        have h2 := (laid_parts hp).2
        have h3 := List.all_eq_true.1 h2 p hpm
        rw [Part.ok_is] at h3
        simp only [decide_eq_true_eq] at h3
        cases hd : p.delayed with
        | true => have := h3.1 hd; omega
        | false => have := h3.2 hd; omega
    · exact hz
end Go.Note
namespace Go.Note
open Go.Sx
theorem bid_wf {b : Bid} (h : b.ok = true) (ht : b.tag.length = 32) : Bid.Wf b := by
  have hw := ok_who h
  exact ⟨⟨by omega, by omega⟩, ⟨by omega, by omega⟩, ⟨by omega, by omega⟩, ⟨by omega, by omega⟩, ht⟩
end Go.Note
