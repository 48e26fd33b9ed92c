/- Own words: lists of hashes. -/
import Derived.Test.YtaeahloenahelaaDoorSxX
import Derived.Test.YtaeahloenahelaaDoorSxT
set_option linter.unusedVariables false
set_option linter.unusedSimpArgs false
namespace Go.Sx
open Go.RowKit
variable {P : Program} {n : Nat} {S : List Nat} {w0 w : World} {ss : List (Nat × Value)} {l : List It} {o : Oper} {a : Act}
theorem lay_agg {z : Nat} {base vs : List Value} {v : Value} (hv : v.cells.toList = vs) (hz : vs.length = z) (hb : base.length = z) : lay (fun i => some (i * z, z)) base [(0, v)] = some vs := by
  have e : spl base 0 vs = vs := spl_all (by rw [hz, hb])
  simp only [lay, hv, hz, hb, Nat.zero_mul, Nat.zero_add, Nat.lt_irrefl, ne_eq, not_true_eq_false, or_self, if_false, e]
/-- The cells of a list of hashes. -/
def hc (p : List (List UInt8)) : List Value := (p.map fun h => h.map u8).flatten
def H32 (p : List (List UInt8)) : Prop := ∀ h ∈ p, h.length = 32
theorem hc_len : ∀ {p : List (List UInt8)}, H32 p → (hc p).length = p.length * 32
  | [], _ => rfl
  | h :: p, hp => by
    have ih := hc_len (p := p) (fun x hx => hp x (List.mem_cons_of_mem _ hx))
    have h1 := hp h (List.mem_cons_self ..)
    unfold hc at ih ⊢
    simp only [List.map_cons, List.flatten_cons, List.length_append, List.length_map, List.length_cons] at ih ⊢
    rw [ih, h1]
    omega
theorem hc_append (p q : List (List UInt8)) : hc (p ++ q) = hc p ++ hc q := by simp [hc]
theorem hc_one (h : List UInt8) : hc [h] = h.map u8 := by simp [hc]
theorem H32.getD {p : List (List UInt8)} (h : H32 p) {i : Nat} (hi : i < p.length) : (p.getD i []).length = 32 := h _ (by rw [List.getD_eq_getElem?_getD, List.getElem?_eq_getElem hi]; exact List.getElem_mem _)
theorem H32.take {p : List (List UInt8)} (h : H32 p) (k : Nat) : H32 (p.take k) := fun x hx => h x (List.mem_of_mem_take hx)
theorem H32.append {p q : List (List UInt8)} (h : H32 p) (h' : H32 q) : H32 (p ++ q) := fun x hx => by rcases List.mem_append.1 hx with hx | hx; exact h x hx; exact h' x hx
theorem H32.one {h : List UInt8} (e : h.length = 32) : H32 [h] := fun x hx => by rw [List.mem_singleton.1 hx]; exact e
section
open Go.WideShapes
variable {H : Type} {enc : TypeId × Value → H} {W : World} {sp : Nat → Bool} {held : Bool} {t e u : TypeId} {cs : List Value}
/-- A list of hashes among the arguments. -/
theorem Tr.hashes (h : Tr enc P W sp held t cs) (ht : P.underlying t = some (.slice e)) (he : P.underlying e = some (.array 32 u)) (hu : P.underlying u = some (.int .u8)) (hn : P.cellsOf e = 32) (h1 : P.cellsOf u = 1) :
    ∃ A p c, cs = [.slice A p.length c] ∧ p.length ≤ c ∧ p.length ≤ 9223372036854775807 ∧ H32 p ∧ Rd W A (hc p) := by
  obtain ⟨a, m, c, hcs, hmc, hm, rows, hr, hR, hrow⟩ := h.sliceC ht (by rw [hn]; omega)
  obtain ⟨p, hp, h32⟩ := rows_map (f := fun x : List UInt8 => x.map Sx.u8) (p := fun x => x.length = 32) (rows := rows) (fun r hr => (hrow r hr).2.bytes he hu hn h1)
  subst hp
  have hl : p.length = m := by rw [← hr, List.length_map]
  subst hl
  exact ⟨a, p, c, hcs, hmc, hm, h32, hR⟩
end
end Go.Sx
