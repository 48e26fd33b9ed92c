/- Own words: how arguments read, with what they weigh. -/
import Derived.Test.YtaeahloenahelaaDoorSxT
set_option linter.unusedVariables false
set_option linter.unusedSimpArgs false
namespace Go.Sx
open Go.RowKit Go.WideShapes Go.ChangeAt Go.ChangeShapes

section
variable {H : Type} (enc : TypeId × Value → H) (P : Program) (W : World) (sp : Nat → Bool) (held : Bool)
def Trw (t : TypeId) (cs : List Value) : Prop := ∃ fuel x, DataW.trod enc P W 0 sp held fuel t cs = some x ∧ ∀ z ∈ x.1.weights P t, z ≤ reachBytes
end
section
variable {H : Type} {enc : TypeId × Value → H} {P : Program} {W : World} {sp : Nat → Bool} {held : Bool} {t e : TypeId} {cs : List Value}
theorem Trw.of {ts : List TypeId} {ds : List (DataW H)} {v : Value} {d : DataW H} {ps : List MemPlace} (h : DataW.Trod enc P W 0 sp held t v d ps) (hs : (DataW.weightsEach P ts ds).all (· ≤ reachBytes) = true) (j : Nat) (ht : ts[j]? = some t) (hd : ds[j]? = some d) : Trw enc P W sp held t v.cells.toList := by
  obtain ⟨fuel, hf⟩ := h
  refine ⟨fuel, _, hf, fun z hz => ?_⟩
  have := List.all_eq_true.1 hs _ (DataW.weights_mem_each ht hd z hz)
  simpa using this
theorem Trw.tr (h : Trw enc P W sp held t cs) : Tr enc P W sp held t cs := by
  obtain ⟨fuel, x, hf, _⟩ := h
  exact ⟨fuel, x, hf⟩
theorem Trw.str (h : Trw enc P W sp held t cs) (ht : P.underlying t = some .string) : ∃ s : List UInt8, cs = [Sx.str s] ∧ s.length ≤ 140737488351232 := by
  obtain ⟨fuel, x, hf, hw⟩ := h
  obtain ⟨n, h1, h2, _⟩ := DataW.trod_string ht hf
  refine ⟨n.data.toList, h1, ?_⟩
  subst h2
  exact hw _ (by simp [DataW.weights])
theorem Trw.struct {fs : Array Field} (h : Trw enc P W sp held t cs) (ht : P.underlying t = some (.struct fs)) : cs.length = P.cellsOf t ∧ ∀ (i : Nat) (f : Field), fs[i]? = some f → Trw enc P W sp held f.type ((cs.drop f.offset).take (P.cellsOf f.type)) := by
  obtain ⟨fuel, x, hf, hw⟩ := h
  obtain ⟨xs, n, _, hx, h1, h2, h3⟩ := DataW.trod_struct ht hf
  subst hx
  refine ⟨h1, fun i f hi => ?_⟩
  have hlt : i < fs.size := (Array.getElem?_eq_some_iff.1 hi).1
  refine ⟨n, xs[i]'(by omega), by rw [h3 i f hi]; exact List.getElem?_eq_getElem _, fun z hz => hw z ?_⟩
  simp only [DataW.weights, ht]
  exact DataW.weights_mem_each (j := i) (by simp [hi]) (by simp [List.getElem?_map, List.getElem?_eq_getElem (show i < xs.length by omega)]) z hz
theorem Trw.field {fs : Array Field} (h : Trw enc P W sp held t cs) (ht : P.underlying t = some (.struct fs)) (i : Nat) {f : Field} (hi : fs[i]? = some f) {o k T : Nat} (ho : f.offset = o) (hT : f.type = T) (hk : P.cellsOf T = k) : Trw enc P W sp held T ((cs.drop o).take k) := by
  have := (h.struct ht).2 i f hi
  rwa [ho, hT, hk] at this
theorem Trw.pieces {fs : Array Field} (h : Trw enc P W sp held t cs) (ht : P.underlying t = some (.struct fs)) (ks : List Nat) (hk : P.cellsOf t = ks.sum) : cs = Sx.pieces cs 0 ks := pieces_all ks (by rw [(h.struct ht).1, hk])
theorem Trw.i64 (h : Trw enc P W sp held t cs) (ht : P.underlying t = some (.int .i64)) : ∃ n, cs = [Sx.i64 n] ∧ -9223372036854775808 ≤ n ∧ n ≤ 9223372036854775807 := h.tr.i64 ht
theorem Trw.bool (h : Trw enc P W sp held t cs) (ht : P.underlying t = some .bool) : ∃ b, cs = [.bool b] := h.tr.bool ht
theorem Trw.bytes {n : Nat} (h : Trw enc P W sp held t cs) (ht : P.underlying t = some (.array n e)) (he : P.underlying e = some (.int .u8)) (hn : P.cellsOf t = n) (h1 : P.cellsOf e = 1) : ∃ bs : List UInt8, cs = bs.map Sx.u8 ∧ bs.length = n := h.tr.bytes ht he hn h1
end
end Go.Sx
