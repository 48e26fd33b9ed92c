/- The inbox's messages and calls, in plain Lean. -/
import Derived.Test.YtbdkgmkaakoigaaDoorNoteA
namespace Go.Inbox
open Go.Note
structure Block where
  number : Int
  salt : Int
  parent : List UInt8
  items : List Note.Item
structure Entry where
  who : Int
  text : List UInt8
  block : Int
  acc : List UInt8
instance : DecidableEq Entry := fun x y => decidable_of_iff (x.who = y.who ∧ x.text = y.text ∧ x.block = y.block ∧ x.acc = y.acc) (by cases x; cases y; simp)
def Entry.zero : Entry := ⟨0, [], 0, Z⟩
/-- A message, as an item. -/
def isMsg (i : Note.Item) : Bool := i.ok && decide (i.kind = 1) && decide (i.text.length ≤ 640)
def next (acc : List UInt8) (who : Int) (text : List UInt8) : List UInt8 := Sha.sum (acc ++ (Oct.list [num who, text]).1)
/-- Messages of items: what stands for all, and the entries. -/
def step (block : Int) (s : List UInt8 × List Entry) (i : Note.Item) : List UInt8 × List Entry := if isMsg i then (next s.1 i.who i.text, s.2 ++ [⟨i.who, i.text, block, next s.1 i.who i.text⟩]) else s
def blockStep (s : List UInt8 × List Entry) (b : Block) : List UInt8 × List Entry := b.items.foldl (step b.number) s
def run (s : List UInt8 × List Entry) (l : List Block) : List UInt8 × List Entry := l.foldl blockStep s
def messages (l : List Block) : List Entry := (run (Z, []) l).2
/-- How many messages a call reaches. -/
def reach (l : List Entry) (n t wait : Int) : Nat := if wait < 0 ∨ t < -9223372036854775808 + wait then 0 else ((l.take n.toNat).takeWhile fun e => decide (e.block ≤ t - wait)).length
/-! ### Laws -/
theorem write_ok (i : Note.Item) : ((writeItem i).2 = 0) ↔ i.ok = true := by
  unfold writeItem
  split
  · rename_i h
    have hw := ok_item h
    refine ⟨fun _ => h, fun _ => list_small (by simp) ?_⟩
    have h0 := num_len (n := i.kind) (by omega)
    have h1 := num_len (n := i.who) (by omega)
    have h2 := num_len (n := i.n) (by omega)
    simp only [List.flatten_cons, List.flatten_nil, List.length_append, List.length_nil]
    omega
  · rename_i h
    exact ⟨fun h1 => by simp at h1, fun h1 => absurd h1 h⟩
theorem step_yes {block : Int} {s : List UInt8 × List Entry} {i : Note.Item} (h : isMsg i = true) : step block s i = (next s.1 i.who i.text, s.2 ++ [⟨i.who, i.text, block, next s.1 i.who i.text⟩]) := by unfold step; rw [if_pos h]
theorem step_no {block : Int} {s : List UInt8 × List Entry} {i : Note.Item} (h : isMsg i = false) : step block s i = s := by unfold step; rw [if_neg (by rw [h]; decide)]
theorem isMsg_is (i : Note.Item) : isMsg i = true ↔ i.ok = true ∧ i.kind = 1 ∧ i.text.length ≤ 640 := by simp [isMsg, and_assoc]
theorem isMsg_not {i : Note.Item} (h : ¬ (i.ok = true ∧ i.kind = 1 ∧ i.text.length ≤ 640)) : isMsg i = false := by
  cases hm : isMsg i with
  | true => exact absurd ((isMsg_is i).1 hm) h
  | false => rfl
theorem foldl_take {α β : Type} (f : β → α → β) (s : β) (l : List α) (k : Nat) (d : α) (h : k < l.length) : (l.take (k + 1)).foldl f s = f ((l.take k).foldl f s) (l.getD k d) := by
  rw [Oct.take_succ d h, List.foldl_append]
  rfl
theorem step_len {block : Int} {s : List UInt8 × List Entry} {i : Note.Item} (h : s.1.length = 32) : (step block s i).1.length = 32 := by
  unfold step
  split
  · exact Sha.sum_length _
  · exact h
theorem block_len (f : List Note.Item) (b : Int) : ∀ (s : List UInt8 × List Entry), s.1.length = 32 → (f.foldl (step b) s).1.length = 32 := by
  induction f with
  | nil => intro s h; exact h
  | cons i f ih => intro s h; exact ih _ (step_len h)
theorem run_len (l : List Block) : ∀ (s : List UInt8 × List Entry), s.1.length = 32 → (run s l).1.length = 32 := by
  induction l with
  | nil => intro s h; exact h
  | cons b l ih => intro s h; exact ih _ (block_len _ _ _ h)
theorem step_accs {block : Int} {s : List UInt8 × List Entry} {i : Note.Item} (h : ∀ e ∈ s.2, e.acc.length = 32) : ∀ e ∈ (step block s i).2, e.acc.length = 32 := by
  unfold step
  split
  · intro e he
    rcases List.mem_append.1 he with he | he
    · exact h e he
    · rw [List.mem_singleton.1 he]; exact Sha.sum_length _
  · exact h
theorem block_accs (f : List Note.Item) (b : Int) : ∀ (s : List UInt8 × List Entry), (∀ e ∈ s.2, e.acc.length = 32) → ∀ e ∈ (f.foldl (step b) s).2, e.acc.length = 32 := by
  induction f with
  | nil => intro s h; exact h
  | cons i f ih => intro s h; exact ih _ (step_accs h)
theorem run_accs (l : List Block) : ∀ (s : List UInt8 × List Entry), (∀ e ∈ s.2, e.acc.length = 32) → ∀ e ∈ (run s l).2, e.acc.length = 32 := by
  induction l with
  | nil => intro s h; exact h
  | cons b l ih => intro s h; exact ih _ (block_accs _ _ _ h)
theorem messages_accs (l : List Block) : ∀ e ∈ messages l, e.acc.length = 32 := run_accs l _ (by simp)
/-- What was there stays ahead. -/
theorem step_pre (block : Int) (s : List UInt8 × List Entry) (i : Note.Item) : ∃ r, (step block s i).2 = s.2 ++ r := by
  unfold step
  split
  · exact ⟨_, rfl⟩
  · exact ⟨[], by simp⟩
theorem block_pre (f : List Note.Item) (b : Int) : ∀ s : List UInt8 × List Entry, ∃ r, (f.foldl (step b) s).2 = s.2 ++ r := by
  induction f with
  | nil => intro s; exact ⟨[], by simp⟩
  | cons i f ih =>
    intro s
    obtain ⟨r, hr⟩ := step_pre b s i
    obtain ⟨q, hq⟩ := ih (step b s i)
    exact ⟨r ++ q, by rw [List.foldl_cons, hq, hr, List.append_assoc]⟩
theorem run_pre (l : List Block) : ∀ s : List UInt8 × List Entry, ∃ r, (run s l).2 = s.2 ++ r := by
  induction l with
  | nil => intro s; exact ⟨[], by simp [run]⟩
  | cons b l ih =>
    intro s
    obtain ⟨r, hr⟩ := block_pre b.items b.number s
    obtain ⟨q, hq⟩ := ih (blockStep s b)
    refine ⟨r ++ q, ?_⟩
    show (run (blockStep s b) l).2 = _
    rw [hq]
    show (b.items.foldl (step b.number) s).2 ++ q = _
    rw [hr, List.append_assoc]
theorem messages_more (l m : List Block) : ∃ r, messages (l ++ m) = messages l ++ r := by
  obtain ⟨r, hr⟩ := run_pre m (run (Z, []) l)
  refine ⟨r, ?_⟩
  unfold messages
  rw [← hr]
  unfold run
  rw [List.foldl_append]
/-! ### Reach -/
theorem reach_zero {l : List Entry} {n t wait : Int} (h : wait < 0 ∨ t < -9223372036854775808 + wait ∨ n ≤ 0) : reach l n t wait = 0 := by
  unfold reach
  split
  · rfl
  · rw [show n.toNat = 0 by omega]
    rfl
theorem while_at {α : Type} {p : α → Bool} : ∀ {l : List α} {k : Nat} (d : α), k < l.length → (∀ j, j < k → p (l.getD j d) = true) → p (l.getD k d) = false → (l.takeWhile p).length = k
  | x :: l, 0, d, _, _, h => by
    have h' : p x = false := h
    rw [List.takeWhile_cons, h']
    rfl
  | x :: l, k + 1, d, hk, ha, h => by
    have h0 : p x = true := ha 0 (by omega)
    rw [List.takeWhile_cons, h0]
    simp only [if_true, List.length_cons]
    rw [while_at (l := l) d (by simpa using hk) (fun j hj => ha (j + 1) (by omega)) h]
theorem while_all {α : Type} {p : α → Bool} : ∀ {l : List α} (d : α), (∀ j, j < l.length → p (l.getD j d) = true) → (l.takeWhile p).length = l.length
  | [], _, _ => rfl
  | x :: l, d, ha => by
    have h0 : p x = true := ha 0 (by simp)
    rw [List.takeWhile_cons, h0]
    simp only [if_true, List.length_cons]
    rw [while_all (l := l) d (fun j hj => ha (j + 1) (by simpa using hj))]
theorem take_getD {α : Type} {l : List α} {n j : Nat} (d : α) (h : j < n) : (l.take n).getD j d = l.getD j d := by simp [List.getD_eq_getElem?_getD, List.getElem?_take, h]
theorem reach_at {l : List Entry} {n t wait : Int} {k : Nat} (h0 : 0 ≤ wait) (h1 : -9223372036854775808 + wait ≤ t) (hk : k < l.length) (hn : (k : Int) < n) (ha : ∀ j, j < k → (l.getD j Entry.zero).block ≤ t - wait) (hb : t - wait < (l.getD k Entry.zero).block) : reach l n t wait = k := by
  unfold reach
  rw [if_neg (by omega)]
  refine while_at Entry.zero (by rw [List.length_take]; omega) (fun j hj => ?_) ?_
  · rw [take_getD _ (by omega)]
    exact decide_eq_true (ha j hj)
  · rw [take_getD _ (by omega)]
    exact decide_eq_false (by omega)
theorem reach_all {l : List Entry} {n t wait : Int} (h0 : 0 ≤ wait) (h1 : -9223372036854775808 + wait ≤ t) (hn : 0 ≤ n) (ha : ∀ j, j < min n.toNat l.length → (l.getD j Entry.zero).block ≤ t - wait) : reach l n t wait = min n.toNat l.length := by
  unfold reach
  rw [if_neg (by omega), while_all Entry.zero, List.length_take]
  intro j hj
  rw [List.length_take] at hj
  rw [take_getD _ (by omega)]
  exact decide_eq_true (ha j hj)
end Go.Inbox
