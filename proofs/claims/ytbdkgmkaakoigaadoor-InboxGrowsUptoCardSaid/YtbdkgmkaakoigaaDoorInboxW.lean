/- The inbox's messages, block by block and item by item. -/
import Derived.Test.YtbdkgmkaakoigaaDoorInboxV
namespace Go.Inbox
open Go.Note (Z)
theorem memD {α : Type} {l : List α} {k : Nat} (d : α) (h : k < l.length) : l.getD k d ∈ l := by
  rw [Oct.getD_eq d h]
  exact List.getElem_mem h
def at1 (X : List BA) (k : Nat) : List UInt8 × List Entry := run (Z, []) ((X.take k).map (·.b))
def at2 (X : List BA) (k j : Nat) : List UInt8 × List Entry := ((X.getD k BA.zero).b.items.take j).foldl (step (X.getD k BA.zero).b.number) (at1 X k)
theorem at2_succ {X : List BA} {k j : Nat} (h : j < (X.getD k BA.zero).b.items.length) : at2 X k (j + 1) = step (X.getD k BA.zero).b.number (at2 X k j) ((X.getD k BA.zero).b.items.getD j Note.Item.zero) := foldl_take _ _ _ _ _ h
theorem at1_succ {X : List BA} {k j : Nat} (h : k < X.length) (hj : (X.getD k BA.zero).b.items.length ≤ j) : at1 X (k + 1) = at2 X k j := by
  unfold at1 at2
  rw [Oct.take_succ BA.zero h, List.map_append, List.take_of_length_le hj]
  unfold run
  rw [List.foldl_append]
  rfl
theorem at1_all {X : List BA} {k : Nat} (h : X.length ≤ k) : (at1 X k).2 = messages (X.map (·.b)) := by
  unfold at1
  rw [List.take_of_length_le h]
  rfl
theorem at1_len (X : List BA) (k : Nat) : (at1 X k).1.length = 32 := run_len _ _ rfl
theorem at2_len (X : List BA) (k j : Nat) : (at2 X k j).1.length = 32 := block_len _ _ _ (at1_len X k)
theorem step_more (block : Int) (s : List UInt8 × List Entry) (i : Note.Item) : (step block s i).2.length ≤ s.2.length + 1 := by
  unfold step
  split
  · simp
  · omega
theorem block_more (block : Int) (l : List Note.Item) : ∀ s : List UInt8 × List Entry, (l.foldl (step block) s).2.length ≤ s.2.length + l.length := by
  induction l with
  | nil => intro s; simp
  | cons i l ih =>
    intro s
    have h1 := ih (step block s i)
    have h2 := step_more block s i
    simp only [List.foldl_cons, List.length_cons]
    omega
theorem at1_more {X : List BA} (h : ∀ x ∈ X, x.b.items.length ≤ 1048576) : ∀ k, k ≤ X.length → (at1 X k).2.length ≤ k * 1048576
  | 0, _ => by simp [at1, run]
  | k + 1, hk => by
    have h1 := at1_more h k (by omega)
    rw [at1_succ (j := (X.getD k BA.zero).b.items.length) (by omega) (Nat.le_refl _)]
    have h2 := block_more (X.getD k BA.zero).b.number ((X.getD k BA.zero).b.items.take (X.getD k BA.zero).b.items.length) (at1 X k)
    have h3 := h (X.getD k BA.zero) (by rw [Oct.getD_eq _ (by omega)]; exact List.getElem_mem _)
    rw [List.length_take] at h2
    unfold at2
    omega
theorem at2_more {X : List BA} (h : ∀ x ∈ X, x.b.items.length ≤ 1048576) (k j : Nat) (hk : k < X.length) : (at2 X k j).2.length ≤ k * 1048576 + 1048576 := by
  have h1 := at1_more h k (by omega)
  have h2 := block_more (X.getD k BA.zero).b.number ((X.getD k BA.zero).b.items.take j) (at1 X k)
  have h3 := h (X.getD k BA.zero) (by rw [Oct.getD_eq _ (by omega)]; exact List.getElem_mem _)
  rw [List.length_take] at h2
  unfold at2
  omega
/-! ### Calls -/
end Go.Inbox
