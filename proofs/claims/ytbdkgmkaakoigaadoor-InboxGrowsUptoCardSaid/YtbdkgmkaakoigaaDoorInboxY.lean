/- Own words: the first blocks of a list, the first entries, worlds that grow. -/
import Derived.Test.YtbdkgmkaakoigaaDoorInboxX
namespace Go.Inbox
open Go.Sx
open Go.Note (Z I64)
theorem BA.Wf.frm {S : List Nat} {w0 w : World} {x : BA} (h : BA.Wf w0 x) (k : Frm S w0 w) (hS : ∀ ad, x.A = some ad → ad.block ∉ S) : BA.Wf w x := { h with rd := h.rd.frm k hS }
theorem flat_pre {α : Type} {f : α → List Value} {z : Nat} : ∀ (l : List α) (k : Nat), (∀ x ∈ l, (f x).length = z) → ((l.take k).map f).flatten = ((l.map f).flatten).take (k * z)
  | [], k, _ => by simp
  | x :: l, 0, _ => by simp
  | x :: l, k + 1, h => by
    have h1 := flat_pre l k (fun y hy => h y (List.mem_cons_of_mem _ hy))
    have h2 := h x List.mem_cons_self
    simp only [List.take_succ_cons, List.map_cons, List.flatten_cons, h1]
    rw [List.take_append, h2, List.take_of_length_le (l := f x) (by rw [h2, Nat.succ_mul]; omega), show (k + 1) * z - z = k * z by rw [Nat.succ_mul]; omega]
theorem bc_pre {W : World} {l : List BA} (h : ∀ x ∈ l, BA.Wf W x) (k : Nat) : bc (l.take k) = (bc l).take (k * 35) := flat_pre l k fun x hx => BA.cells_len (h x hx).parent
theorem ec_pre {l : List Entry} (h : ∀ x ∈ l, x.acc.length = 32) (k : Nat) : ec (l.take k) = (ec l).take (k * 35) := flat_pre l k fun x hx => Entry.cells_len (h x hx)
theorem bc_append (l m : List BA) : bc (l ++ m) = bc l ++ bc m := by simp [bc]
/-- At most n of the blocks. -/
theorem few {w : World} {X : List BA} {A : Option Addr} (n : Nat) (hX : ∀ x ∈ X, BA.Wf w x) (hit : ∀ x ∈ X, x.b.items.length ≤ 1048576) (hR : Rd w A (bc X)) :
    ∃ Y : List BA, (∀ x ∈ Y, BA.Wf w x) ∧ (∀ x ∈ Y, x.b.items.length ≤ 1048576) ∧ Rd w A (bc Y) ∧ Y.length ≤ n ∧ (X.length ≤ n → Y.length = X.length) ∧ (n < X.length → Y.length = n) :=
  ⟨X.take n, fun x hx => hX x (List.mem_of_mem_take hx), fun x hx => hit x (List.mem_of_mem_take hx), by rw [bc_pre hX]; exact hR.take _, by simp; omega, fun h => by simp; omega, fun h => by simp; omega⟩
theorem rd_pre {w : World} {A : Option Addr} {l : List Entry} (h : ∀ x ∈ l, x.acc.length = 32) (hR : Rd w A (ec l)) (k : Nat) : Rd w A (ec (l.take k)) := by rw [ec_pre h]; exact hR.take _
theorem pre_len (l m : List Block) : (messages l).length ≤ (messages (l ++ m)).length := by
  obtain ⟨r, h⟩ := messages_more l m
  rw [h, List.length_append]
  omega
theorem pre_take (l m : List Block) : (messages (l ++ m)).take (messages l).length = messages l := by
  obtain ⟨r, h⟩ := messages_more l m
  rw [h, List.take_left]
theorem messages_few {Y : List BA} (hit : ∀ x ∈ Y, x.b.items.length ≤ 1048576) (hl : Y.length ≤ 100) : (messages (Y.map (·.b))).length ≤ 104857600 := by
  have h1 := at1_more hit Y.length (Nat.le_refl _)
  rw [at1_all (Nat.le_refl _)] at h1
  omega
end Go.Inbox
