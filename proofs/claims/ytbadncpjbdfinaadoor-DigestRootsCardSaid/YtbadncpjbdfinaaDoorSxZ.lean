/- Own words: lists of hashes. -/
import Derived.Test.YtbadncpjbdfinaaDoorSxX
import Derived.Test.YtbadncpjbdfinaaDoorSxT
set_option linter.unusedVariables false
set_option linter.unusedSimpArgs false
namespace Go.Sx
open Go.RowKit
variable {P : Program} {n : Nat} {S : List Nat} {w0 w : World} {ss : List (Nat × Value)} {l : List It} {o : Oper} {a : Act}
theorem lay_agg {z : Nat} {base vs : List Value} {v : Value} (hv : v.cells.toList = vs) (hz : vs.length = z) (hb : base.length = z) : lay (fun i => some (i * z, z)) base [(0, v)] = some vs := by
  have e : spl base 0 vs = vs := spl_all (by rw [hz, hb])
  simp only [lay, hv, hz, hb, Nat.zero_mul, Nat.zero_add, Nat.lt_irrefl, ne_eq, not_true_eq_false, or_self, if_false, e]
/-- The cells of a list of hashes. -/
def hc (p : List (List UInt8)) : List Value := (p.map fun h => h.map u8).flatten
def H32 (p : List (List UInt8)) : Prop := ∀ h ∈ p, h.length = 32
theorem hc_len : ∀ {p : List (List UInt8)}, H32 p → (hc p).length = p.length * 32
  | [], _ => rfl
  | h :: p, hp => by
    have ih := hc_len (p := p) (fun x hx => hp x (List.mem_cons_of_mem _ hx))
    have h1 := hp h (List.mem_cons_self ..)
    unfold hc at ih ⊢
    simp only [List.map_cons, List.flatten_cons, List.length_append, List.length_map, List.length_cons] at ih ⊢
    rw [ih, h1]
    omega
theorem hc_append (p q : List (List UInt8)) : hc (p ++ q) = hc p ++ hc q := by simp [hc]
theorem hc_one (h : List UInt8) : hc [h] = h.map u8 := by simp [hc]
theorem hc_cell (p : List (List UInt8)) : ∀ u ∈ hc p, u.oneCell' = true := by
  intro u hu
  simp only [hc, List.mem_flatten, List.mem_map] at hu
  obtain ⟨_, ⟨h, _, rfl⟩, hu⟩ := hu
  obtain ⟨b, _, rfl⟩ := List.mem_map.1 hu
  rfl
theorem hc_take : ∀ {p : List (List UInt8)} (i : Nat), H32 p → i < p.length → ((hc p).drop (i * 32)).take 32 = (p.getD i []).map u8
  | [], i, _, h => by simp at h
  | x :: p, 0, hp, _ => by
    have h1 := hp x (List.mem_cons_self ..)
    show (((hc (x :: p)).drop 0).take 32) = x.map u8
    rw [List.drop_zero]
    show ((x.map u8) ++ (p.map fun h => h.map u8).flatten).take 32 = _
    rw [List.take_left' (by rw [List.length_map, h1])]
  | x :: p, i + 1, hp, h => by
    have h1 := hp x (List.mem_cons_self ..)
    have ih := hc_take (p := p) i (fun y hy => hp y (List.mem_cons_of_mem _ hy)) (by simpa using h)
    have e : hc (x :: p) = x.map u8 ++ hc p := rfl
    rw [e, List.drop_append, List.drop_eq_nil_of_le (by rw [List.length_map, h1]; omega), List.nil_append, List.length_map, h1, show (i + 1) * 32 - 32 = i * 32 by omega, ih]
    rfl
theorem H32.getD {p : List (List UInt8)} (h : H32 p) {i : Nat} (hi : i < p.length) : (p.getD i []).length = 32 := h _ (by rw [List.getD_eq_getElem?_getD, List.getElem?_eq_getElem hi]; exact List.getElem_mem _)
end Go.Sx
