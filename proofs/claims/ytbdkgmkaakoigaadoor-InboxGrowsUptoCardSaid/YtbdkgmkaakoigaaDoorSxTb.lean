/- Own words: how arguments read, with what they weigh and how much there is of them. -/
import Derived.Test.YtbdkgmkaakoigaaDoorSxTx
set_option linter.unusedVariables false
set_option linter.unusedSimpArgs false
namespace Go.Sx
open Go.RowKit Go.WideShapes Go.ChangeAt Go.ChangeShapes
/-- A measure that counts each place of a slice, and what lies below. -/
structure Meas {H : Type} (m : DataW H → Nat) : Prop where
  len : ∀ es sp, es.length ≤ m (.slice es sp)
  elem : ∀ es sp, ∀ e ∈ es, m e ≤ m (.slice es sp)
  part : ∀ ps, ∀ p ∈ ps, m p ≤ m (.agg ps)
section
variable {H : Type} (enc : TypeId × Value → H) (P : Program) (W : World) (sp : Nat → Bool) (held : Bool) (m : DataW H → Nat) (B : Nat)
def Trb (t : TypeId) (cs : List Value) : Prop := ∃ fuel x, DataW.trod enc P W 0 sp held fuel t cs = some x ∧ (∀ z ∈ x.1.weights P t, z ≤ reachBytes) ∧ m x.1 ≤ B
end
section
variable {H : Type} {enc : TypeId × Value → H} {P : Program} {W : World} {sp : Nat → Bool} {held : Bool} {m : DataW H → Nat} {B : Nat} {t e : TypeId} {cs : List Value}
theorem Trb.of {ts : List TypeId} {ds : List (DataW H)} {v : Value} {d : DataW H} {ps : List MemPlace} (h : DataW.Trod enc P W 0 sp held t v d ps) (hs : (DataW.weightsEach P ts ds).all (· ≤ reachBytes) = true) (j : Nat) (ht : ts[j]? = some t) (hd : ds[j]? = some d) (hm : m d ≤ B) : Trb enc P W sp held m B t v.cells.toList := by
  obtain ⟨fuel, hf⟩ := h
  refine ⟨fuel, _, hf, fun z hz => ?_, hm⟩
  have := List.all_eq_true.1 hs _ (DataW.weights_mem_each ht hd z hz)
  simpa using this
theorem Trb.trw (h : Trb enc P W sp held m B t cs) : Trw enc P W sp held t cs := by
  obtain ⟨fuel, x, hf, hw, _⟩ := h
  exact ⟨fuel, x, hf, hw⟩
theorem Trb.field (M : Meas m) {fs : Array Field} (h : Trb enc P W sp held m B t cs) (ht : P.underlying t = some (.struct fs)) (i : Nat) {f : Field} (hi : fs[i]? = some f) {o k T : Nat} (ho : f.offset = o) (hT : f.type = T) (hk : P.cellsOf T = k) : Trb enc P W sp held m B T ((cs.drop o).take k) := by
  obtain ⟨fuel, x, hf, hw, hm⟩ := h
  obtain ⟨xs, n, _, hx, h1, h2, h3⟩ := DataW.trod_struct ht hf
  subst hx
  have hlt : i < fs.size := (Array.getElem?_eq_some_iff.1 hi).1
  subst ho hT hk
  refine ⟨n, xs[i]'(by omega), by rw [h3 i f hi]; exact List.getElem?_eq_getElem _, fun z hz => hw z ?_, Nat.le_trans (M.part _ _ (List.mem_map.2 ⟨_, List.getElem_mem _, rfl⟩)) hm⟩
  simp only [DataW.weights, ht]
  exact DataW.weights_mem_each (j := i) (by simp [hi]) (by simp [List.getElem?_map, List.getElem?_eq_getElem (show i < xs.length by omega)]) z hz
theorem Trb.sliceC (M : Meas m) (h : Trb enc P W sp held m B t cs) (ht : P.underlying t = some (.slice e)) (hz : 0 < P.cellsOf e) : ∃ a n c, cs = [.slice a n c] ∧ n ≤ c ∧ n ≤ B ∧ ∃ rows : List (List Value), rows.length = n ∧ Rd W a rows.flatten ∧ ∀ r ∈ rows, r.length = P.cellsOf e ∧ Trb enc P W sp held m B e r := by
  obtain ⟨fuel, x, hf, hw, hmx⟩ := h
  rcases Go.Deep.open_slice ht hf with ⟨h0, _⟩ | ⟨a, len, cap, k, n, D, Pl, h0, _, hl, hm, hmm, hx, hel⟩
  · exact ⟨none, 0, 0, h0, by omega, by omega, [], rfl, .inl rfl, by simp⟩
  · have hle : len ≤ k := by rw [hmm]; split <;> omega
    unfold maxLen at hm
    subst hx
    have hlB : len ≤ B := by
      refine Nat.le_trans ?_ (Nat.le_trans (M.len _ _) hmx)
      simp
    have hDB : ∀ i, i < len → m (D i) ≤ B := fun i hi => Nat.le_trans (M.elem _ _ _ (List.mem_map.2 ⟨i, by simpa using hi, rfl⟩)) hmx
    have hwd : ∀ i, i < len → ∀ z ∈ (D i).weights P e, z ≤ reachBytes := fun i hi z hz => by
      refine hw z ?_
      simp only [DataW.weights, ht]
      exact List.mem_cons_of_mem _ (List.mem_append_left _ (weightsAll_mem (List.mem_map.2 ⟨i, by simpa using hi, rfl⟩) hz))
    have hrow : ∀ i, i < len → ∃ cs', W.cells? 0 (a.add (i * P.cellsOf e)) (P.cellsOf e) = some cs' ∧ Trb enc P W sp held m B e cs' := fun i hi => by
      obtain ⟨cs', h1, h2⟩ := hel i (by omega)
      exact ⟨cs', h1, n, _, h2, hwd i hi, hDB i hi⟩
    let f : Nat → List Value := fun i => (W.cells? 0 (a.add (i * P.cellsOf e)) (P.cellsOf e)).getD []
    have hf' : ∀ i, i < len → W.cells? 0 (a.add (i * P.cellsOf e)) (P.cellsOf e) = some (f i) ∧ Trb enc P W sp held m B e (f i) := fun i hi => by
      obtain ⟨cs', h1, h2⟩ := hrow i hi
      have : f i = cs' := by show (W.cells? 0 _ _).getD [] = cs'; rw [h1]; rfl
      rw [this]
      exact ⟨h1, h2⟩
    refine ⟨some a, len, cap, h0, hl, hlB, (List.range len).map f, by simp, ?_, ?_⟩
    · by_cases h00 : len = 0
      · subst h00; exact .inl rfl
      · right
        refine ⟨a, rfl, Rd.flat (z := P.cellsOf e) (fun r hr => ?_) hz fun i j v hv => ?_⟩
        · obtain ⟨i, hi, rfl⟩ := List.mem_map.1 hr
          exact (cells_get (hf' i (by simpa using hi)).1).1
        · have h00' := cells_get (hf' 0 (by omega)).1
          have c0 : ∃ u, W.cell? a = some u := by
            have h1 := h00'.2 0 hz
            rw [Nat.zero_mul, add_zero, add_zero] at h1
            exact ⟨_, by rw [h1]; exact List.getElem?_eq_getElem (by omega)⟩
          obtain ⟨u, hu⟩ := c0
          simp only [List.getElem?_map, Option.bind_eq_some_iff, Option.map_eq_some_iff] at hv
          obtain ⟨r, ⟨i', hi', rfl⟩, hv⟩ := hv
          have hi : i < len ∧ i' = i := by
            have := List.getElem?_eq_some_iff.1 hi'
            obtain ⟨h1, h2⟩ := this
            simp at h1 h2
            omega
          obtain ⟨hi, rfl⟩ := hi
          obtain ⟨h1, h2⟩ := cells_get (hf' i' hi).1
          have hj : j < P.cellsOf e := by
            have := (List.getElem?_eq_some_iff.1 hv).1
            omega
          rw [← add_add0 hu, h2 j hj]
          exact hv
    · intro r hr
      obtain ⟨i, hi, rfl⟩ := List.mem_map.1 hr
      have := hf' i (by simpa using hi)
      exact ⟨(cells_get this.1).1, this.2⟩
end
end Go.Sx
