/- Own words: the first blocks of a list, the first entries, worlds that grow. -/
import Derived.Test.YtaeahloenahelaaDoorInboxX
namespace Go.Inbox
open Go.Sx
open Go.Note (Z I64)
theorem BA.Wf.frm {S : List Nat} {w0 w : World} {x : BA} (h : BA.Wf w0 x) (k : Frm S w0 w) (hS : ∀ ad, x.A = some ad → ad.block ∉ S) : BA.Wf w x := { h with rd := h.rd.frm k hS }
theorem flat_pre {α : Type} {f : α → List Value} {z : Nat} : ∀ (l : List α) (k : Nat), (∀ x ∈ l, (f x).length = z) → ((l.take k).map f).flatten = ((l.map f).flatten).take (k * z)
  | [], k, _ => by simp
  | x :: l, 0, _ => by simp
  | x :: l, k + 1, h => by
    have h1 := flat_pre l k (fun y hy => h y (List.mem_cons_of_mem _ hy))
    have h2 := h x List.mem_cons_self
    simp only [List.take_succ_cons, List.map_cons, List.flatten_cons, h1]
    rw [List.take_append, h2, List.take_of_length_le (l := f x) (by rw [h2, Nat.succ_mul]; omega), show (k + 1) * z - z = k * z by rw [Nat.succ_mul]; omega]
end Go.Inbox
