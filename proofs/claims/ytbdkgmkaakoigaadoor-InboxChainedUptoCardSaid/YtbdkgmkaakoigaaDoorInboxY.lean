/- Own words: the first blocks of a list, the first entries, worlds that grow. -/
import Derived.Test.YtbdkgmkaakoigaaDoorInboxX
namespace Go.Inbox
open Go.Sx
open Go.Note (Z I64)
theorem BA.Wf.frm {S : List Nat} {w0 w : World} {x : BA} (h : BA.Wf w0 x) (k : Frm S w0 w) (hS : ∀ ad, x.A = some ad → ad.block ∉ S) : BA.Wf w x := { h with rd := h.rd.frm k hS }
theorem flat_pre {α : Type} {f : α → List Value} {z : Nat} : ∀ (l : List α) (k : Nat), (∀ x ∈ l, (f x).length = z) → ((l.take k).map f).flatten = ((l.map f).flatten).take (k * z)
  | [], k, _ => by simp
  | x :: l, 0, _ => by simp
  | x :: l, k + 1, h => by
    have h1 := flat_pre l k (fun y hy => h y (List.mem_cons_of_mem _ hy))
    have h2 := h x List.mem_cons_self
    simp only [List.take_succ_cons, List.map_cons, List.flatten_cons, h1]
    rw [List.take_append, h2, List.take_of_length_le (l := f x) (by rw [h2, Nat.succ_mul]; omega), show (k + 1) * z - z = k * z by rw [Nat.succ_mul]; omega]
theorem bc_pre {W : World} {l : List BA} (h : ∀ x ∈ l, BA.Wf W x) (k : Nat) : bc (l.take k) = (bc l).take (k * 35) := flat_pre l k fun x hx => BA.cells_len (h x hx).parent
/-- At most n of the blocks. -/
theorem few {w : World} {X : List BA} {A : Option Addr} (n : Nat) (hX : ∀ x ∈ X, BA.Wf w x) (hit : ∀ x ∈ X, x.b.items.length ≤ 1048576) (hR : Rd w A (bc X)) :
    ∃ Y : List BA, (∀ x ∈ Y, BA.Wf w x) ∧ (∀ x ∈ Y, x.b.items.length ≤ 1048576) ∧ Rd w A (bc Y) ∧ Y.length ≤ n ∧ (X.length ≤ n → Y.length = X.length) ∧ (n < X.length → Y.length = n) :=
  ⟨X.take n, fun x hx => hX x (List.mem_of_mem_take hx), fun x hx => hit x (List.mem_of_mem_take hx), by rw [bc_pre hX]; exact hR.take _, by simp; omega, fun h => by simp; omega, fun h => by simp; omega⟩
theorem next_is {l : List Block} {k : Nat} (hk : k < (messages l).length) : next (lastAcc Z ((messages l).take k)) ((messages l).getD k Entry.zero).who ((messages l).getD k Entry.zero).text = ((messages l).getD k Entry.zero).acc := (chained_at _ _ _ (messages_chain l) hk).symm
theorem last_len (l : List Block) {k : Nat} (hk : k ≤ (messages l).length) : (lastAcc Z ((messages l).take k)).length = 32 := by
  cases k with
  | zero => rfl
  | succ k =>
    rw [lastAcc_take (by omega)]
    refine messages_accs l _ ?_
    rw [Oct.getD_eq _ (by omega)]
    exact List.getElem_mem _
theorem messages_few {Y : List BA} (hit : ∀ x ∈ Y, x.b.items.length ≤ 1048576) (hl : Y.length ≤ 100) : (messages (Y.map (·.b))).length ≤ 104857600 := by
  have h1 := at1_more hit Y.length (Nat.le_refl _)
  rw [at1_all (Nat.le_refl _)] at h1
  omega
theorem step_fine {block : Int} {s : List UInt8 × List Entry} {i : Note.Item} (hi : Note.Item.Wf i) (h : ∀ e ∈ s.2, e.who ≤ 9223372036854775807 ∧ e.text.length ≤ 640) : ∀ e ∈ (step block s i).2, e.who ≤ 9223372036854775807 ∧ e.text.length ≤ 640 := by
  unfold step
  split
  · rename_i hm
    intro e he
    simp only [List.mem_append, List.mem_singleton] at he
    rcases he with he | rfl
    · exact h e he
    · exact ⟨hi.who.2, ((isMsg_is i).1 hm).2.2⟩
  · exact h
theorem block_fine (b : Int) : ∀ (f : List Note.Item) (s : List UInt8 × List Entry), (∀ i ∈ f, Note.Item.Wf i) → (∀ e ∈ s.2, e.who ≤ 9223372036854775807 ∧ e.text.length ≤ 640) → ∀ e ∈ (f.foldl (step b) s).2, e.who ≤ 9223372036854775807 ∧ e.text.length ≤ 640
  | [], s, _, h => h
  | i :: f, s, hf, h => block_fine b f (step b s i) (fun j hj => hf j (List.mem_cons_of_mem _ hj)) (step_fine (hf i List.mem_cons_self) h)
theorem run_fine : ∀ (l : List Block) (s : List UInt8 × List Entry), (∀ b ∈ l, ∀ i ∈ b.items, Note.Item.Wf i) → (∀ e ∈ s.2, e.who ≤ 9223372036854775807 ∧ e.text.length ≤ 640) → ∀ e ∈ (run s l).2, e.who ≤ 9223372036854775807 ∧ e.text.length ≤ 640
  | [], s, _, h => h
  | b :: l, s, hf, h => run_fine l (blockStep s b) (fun c hc => hf c (List.mem_cons_of_mem _ hc)) (block_fine b.number b.items s (hf b List.mem_cons_self) h)
theorem messages_fine {W : World} {Y : List BA} (hY : ∀ x ∈ Y, BA.Wf W x) : ∀ e ∈ messages (Y.map (·.b)), e.who ≤ 9223372036854775807 ∧ e.text.length ≤ 640 := run_fine _ _ (fun b hb i hi => by
  obtain ⟨x, hx, rfl⟩ := List.mem_map.1 hb
  exact (hY x hx).items i hi) (by simp)
theorem fine_at {W : World} {Y : List BA} (hY : ∀ x ∈ Y, BA.Wf W x) {k : Nat} (hk : k < (messages (Y.map (·.b))).length) : ((messages (Y.map (·.b))).getD k Entry.zero).who ≤ 9223372036854775807 ∧ ((messages (Y.map (·.b))).getD k Entry.zero).text.length ≤ 640 := messages_fine hY _ (by rw [Oct.getD_eq _ hk]; exact List.getElem_mem _)
theorem ec_at {l : List Entry} (h : ∀ x ∈ l, x.acc.length = 32) {k c : Nat} (hk : k < l.length) (hc : c < 35) : (ec l)[k * 35 + c]? = (Entry.cells (l.getD k Entry.zero))[c]? := flat_getM (f := Entry.cells) Entry.zero (fun x hx => Entry.cells_len (h x hx)) hk hc
theorem acc_at {l : List Entry} (h : ∀ x ∈ l, x.acc.length = 32) {k : Nat} (hk : k < l.length) : ((ec l).drop (k * 35 + 3)).take 32 = (l.getD k Entry.zero).acc.map Sx.u8 := by
  have h1 := ec_take h k hk
  have h2 : (l.getD k Entry.zero).acc.length = 32 := h _ (by rw [Oct.getD_eq _ hk]; exact List.getElem_mem _)
  have h3 : ((ec l).drop (k * 35 + 3)).take 32 = (((ec l).drop (k * 35)).take 35).drop 3 := by
    rw [List.drop_take, List.drop_drop]
  rw [h3, h1]
  rfl
end Go.Inbox
