/- Own words: lists of hashes. -/
import Derived.Test.YtaeahloenahelaaDoorSxX
import Derived.Test.YtaeahloenahelaaDoorSxT
set_option linter.unusedVariables false
set_option linter.unusedSimpArgs false
namespace Go.Sx
open Go.RowKit
variable {P : Program} {n : Nat} {S : List Nat} {w0 w : World} {ss : List (Nat × Value)} {l : List It} {o : Oper} {a : Act}
/-- The cells of a list of hashes. -/
def hc (p : List (List UInt8)) : List Value := (p.map fun h => h.map u8).flatten
def H32 (p : List (List UInt8)) : Prop := ∀ h ∈ p, h.length = 32
theorem H32.getD {p : List (List UInt8)} (h : H32 p) {i : Nat} (hi : i < p.length) : (p.getD i []).length = 32 := h _ (by rw [List.getD_eq_getElem?_getD, List.getElem?_eq_getElem hi]; exact List.getElem_mem _)
theorem H32.take {p : List (List UInt8)} (h : H32 p) (k : Nat) : H32 (p.take k) := fun x hx => h x (List.mem_of_mem_take hx)
theorem H32.append {p q : List (List UInt8)} (h : H32 p) (h' : H32 q) : H32 (p ++ q) := fun x hx => by rcases List.mem_append.1 hx with hx | hx; exact h x hx; exact h' x hx
theorem H32.one {h : List UInt8} (e : h.length = 32) : H32 [h] := fun x hx => by rw [List.mem_singleton.1 hx]; exact e
section
open Go.WideShapes
variable {H : Type} {enc : TypeId × Value → H} {W : World} {sp : Nat → Bool} {held : Bool} {t e u : TypeId} {cs : List Value}
/-- A list of hashes among the arguments. -/
theorem Tr.hashes (h : Tr enc P W sp held t cs) (ht : P.underlying t = some (.slice e)) (he : P.underlying e = some (.array 32 u)) (hu : P.underlying u = some (.int .u8)) (hn : P.cellsOf e = 32) (h1 : P.cellsOf u = 1) :
    ∃ A p c, cs = [.slice A p.length c] ∧ p.length ≤ c ∧ p.length ≤ 9223372036854775807 ∧ H32 p ∧ Rd W A (hc p) := by
  obtain ⟨a, m, c, hcs, hmc, hm, rows, hr, hR, hrow⟩ := h.sliceC ht (by rw [hn]; omega)
  obtain ⟨p, hp, h32⟩ := rows_map (f := fun x : List UInt8 => x.map Sx.u8) (p := fun x => x.length = 32) (rows := rows) (fun r hr => (hrow r hr).2.bytes he hu hn h1)
  subst hp
  have hl : p.length = m := by rw [← hr, List.length_map]
  subst hl
  exact ⟨a, p, c, hcs, hmc, hm, h32, hR⟩
end
end Go.Sx
