/- Own words: lists of hashes. -/
import Derived.Test.YtbadncpjbdfinaaDoorSxX
import Derived.Test.YtbadncpjbdfinaaDoorSxT
set_option linter.unusedVariables false
set_option linter.unusedSimpArgs false
namespace Go.Sx
open Go.RowKit
variable {P : Program} {n : Nat} {S : List Nat} {w0 w : World} {ss : List (Nat × Value)} {l : List It} {o : Oper} {a : Act}
theorem lay_agg {z : Nat} {base vs : List Value} {v : Value} (hv : v.cells.toList = vs) (hz : vs.length = z) (hb : base.length = z) : lay (fun i => some (i * z, z)) base [(0, v)] = some vs := by
  have e : spl base 0 vs = vs := spl_all (by rw [hz, hb])
  simp only [lay, hv, hz, hb, Nat.zero_mul, Nat.zero_add, Nat.lt_irrefl, ne_eq, not_true_eq_false, or_self, if_false, e]
/-- The cells of a list of hashes. -/
def hc (p : List (List UInt8)) : List Value := (p.map fun h => h.map u8).flatten
def H32 (p : List (List UInt8)) : Prop := ∀ h ∈ p, h.length = 32
theorem hc_len : ∀ {p : List (List UInt8)}, H32 p → (hc p).length = p.length * 32
  | [], _ => rfl
  | h :: p, hp => by
    have ih := hc_len (p := p) (fun x hx => hp x (List.mem_cons_of_mem _ hx))
    have h1 := hp h (List.mem_cons_self ..)
    unfold hc at ih ⊢
    simp only [List.map_cons, List.flatten_cons, List.length_append, List.length_map, List.length_cons] at ih ⊢
    rw [ih, h1]
    omega
theorem hc_append (p q : List (List UInt8)) : hc (p ++ q) = hc p ++ hc q := by simp [hc]
theorem hc_one (h : List UInt8) : hc [h] = h.map u8 := by simp [hc]
theorem hc_cell (p : List (List UInt8)) : ∀ u ∈ hc p, u.oneCell' = true := by
  intro u hu
  simp only [hc, List.mem_flatten, List.mem_map] at hu
  obtain ⟨_, ⟨h, _, rfl⟩, hu⟩ := hu
  obtain ⟨b, _, rfl⟩ := List.mem_map.1 hu
  rfl
theorem hc_take : ∀ {p : List (List UInt8)} (i : Nat), H32 p → i < p.length → ((hc p).drop (i * 32)).take 32 = (p.getD i []).map u8
  | [], i, _, h => by simp at h
  | x :: p, 0, hp, _ => by
    have h1 := hp x (List.mem_cons_self ..)
    show (((hc (x :: p)).drop 0).take 32) = x.map u8
    rw [List.drop_zero]
    show ((x.map u8) ++ (p.map fun h => h.map u8).flatten).take 32 = _
    rw [List.take_left' (by rw [List.length_map, h1])]
  | x :: p, i + 1, hp, h => by
    have h1 := hp x (List.mem_cons_self ..)
    have ih := hc_take (p := p) i (fun y hy => hp y (List.mem_cons_of_mem _ hy)) (by simpa using h)
    have e : hc (x :: p) = x.map u8 ++ hc p := rfl
    rw [e, List.drop_append, List.drop_eq_nil_of_le (by rw [List.length_map, h1]; omega), List.nil_append, List.length_map, h1, show (i + 1) * 32 - 32 = i * 32 by omega, ih]
    rfl
theorem H32.getD {p : List (List UInt8)} (h : H32 p) {i : Nat} (hi : i < p.length) : (p.getD i []).length = 32 := h _ (by rw [List.getD_eq_getElem?_getD, List.getElem?_eq_getElem hi]; exact List.getElem_mem _)
theorem hc_takes : ∀ {p : List (List UInt8)} (k : Nat), H32 p → (hc p).take (k * 32) = hc (p.take k)
  | [], k, _ => by simp [hc]
  | x :: p, 0, _ => by simp [hc]
  | x :: p, k + 1, hp => by
    have h1 := hp x (List.mem_cons_self ..)
    have ih := hc_takes (p := p) k (fun y hy => hp y (List.mem_cons_of_mem _ hy))
    have e : hc (x :: p) = x.map u8 ++ hc p := rfl
    rw [e, List.take_append, List.take_of_length_le (by rw [List.length_map, h1]; omega), List.length_map, h1, show (k + 1) * 32 - 32 = k * 32 by omega, ih]
    rfl
theorem H32.take {p : List (List UInt8)} (h : H32 p) (k : Nat) : H32 (p.take k) := fun x hx => h x (List.mem_of_mem_take hx)
theorem H32.append {p q : List (List UInt8)} (h : H32 p) (h' : H32 q) : H32 (p ++ q) := fun x hx => by rcases List.mem_append.1 hx with hx | hx; exact h x hx; exact h' x hx
theorem H32.one {h : List UInt8} (e : h.length = 32) : H32 [h] := fun x hx => by rw [List.mem_singleton.1 hx]; exact e
theorem rev_last {p : List (List UInt8)} (h : 0 < p.length) : p.reverse = p.getD (p.length - 1) [] :: (p.take (p.length - 1)).reverse := by
  rcases List.eq_nil_or_concat p with rfl | ⟨q, x, rfl⟩
  · simp at h
  · simp
section
open Go.WideShapes
variable {H : Type} {enc : TypeId × Value → H} {W : World} {sp : Nat → Bool} {held : Bool} {t e u : TypeId} {cs : List Value}
/-- A list of hashes among the arguments. -/
theorem Tr.hashes (h : Tr enc P W sp held t cs) (ht : P.underlying t = some (.slice e)) (he : P.underlying e = some (.array 32 u)) (hu : P.underlying u = some (.int .u8)) (hn : P.cellsOf e = 32) (h1 : P.cellsOf u = 1) :
    ∃ A p c, cs = [.slice A p.length c] ∧ p.length ≤ c ∧ p.length ≤ 9223372036854775807 ∧ H32 p ∧ Rd W A (hc p) := by
  obtain ⟨a, m, c, hcs, hmc, hm, rows, hr, hR, hrow⟩ := h.sliceC ht (by rw [hn]; omega)
  obtain ⟨p, hp, h32⟩ := rows_map (f := fun x : List UInt8 => x.map Sx.u8) (p := fun x => x.length = 32) (rows := rows) (fun r hr => (hrow r hr).2.bytes he hu hn h1)
  subst hp
  have hl : p.length = m := by rw [← hr, List.length_map]
  subst hl
  exact ⟨a, p, c, hcs, hmc, hm, h32, hR⟩
end
end Go.Sx
