/- Own words: a list of texts among the arguments: its room, and what each text weighs. -/
import Derived.Test.YtnnhnnhdoipbaaaDoorSxTw
set_option linter.unusedVariables false
set_option linter.unusedSimpArgs false
namespace Go.Sx
open Go.RowKit Go.WideShapes Go.ChangeAt Go.ChangeShapes
section
variable {H : Type} {enc : TypeId × Value → H} {P : Program} {W : World} {base : Nat} {held : Bool}
theorem weightsAll_mem {e : TypeId} : ∀ {l : List (DataW H)} {d : DataW H} {z : Nat}, d ∈ l → z ∈ d.weights P e → z ∈ DataW.weightsAll P e l
  | [], _, _, h, _ => by cases h
  | x :: l, d, z, h, hz => by
    rw [DataW.weightsAll]
    rcases List.mem_cons.1 h with rfl | h
    · exact List.mem_append_left _ hz
    · exact List.mem_append_right _ (weightsAll_mem h hz)
theorem read_strs_w {ts : List TypeId} {ds : List (DataW H)} {t e : TypeId} {a : Option Addr} {len cap : Nat} {d : DataW H} {ps : List MemPlace} (ht : P.underlying t = some (.slice e)) (he : P.underlying e = some .string) (hc : P.cellsOf e = 1)
    (h : DataW.Trod enc P W base (fun _ => true) held t (.slice a len cap) d ps) (hs : (DataW.weightsEach P ts ds).all (· ≤ reachBytes) = true) (j : Nat) (hj : ts[j]? = some t) (hd : ds[j]? = some d) :
    ∃ L : List (List UInt8), len = L.length ∧ L.length ≤ cap ∧ Rd W a (L.map str) ∧ L.length ≤ 9223372036854775807 ∧ ∀ x ∈ L, x.length ≤ 140737488351232 := by
  have hw : ∀ z ∈ d.weights P t, z ≤ reachBytes := fun z hz => by simpa using List.all_eq_true.1 hs _ (DataW.weights_mem_each hj hd z hz)
  obtain ⟨fuel, hf⟩ := h
  rcases open_strings ht he hc hf with ⟨hcs, _⟩ | ⟨ad, l, c, ss, hcs, _, hl, hm, hz, hx, hcell, _⟩
  · simp [Value.cells] at hcs
    obtain ⟨rfl, rfl, rfl⟩ := hcs
    exact ⟨[], rfl, by simp, .inl rfl, by simp, by simp⟩
  · simp [Value.cells] at hcs
    obtain ⟨rfl, rfl, rfl⟩ := hcs
    simp only [if_true] at hz
    unfold maxLen at hm
    have hdx : d = .slice (strs (ss.take len)) (strs (ss.drop len)) := congrArg Prod.fst hx
    refine ⟨(ss.take len).map fun s => s.data.toList, by simp; omega, by simp; omega, .inr ⟨ad, rfl, fun j v hv => ?_⟩, by simp; omega, fun x hx' => ?_⟩
    · simp only [List.map_map, List.getElem?_map] at hv
      cases hs : (ss.take len)[j]? with
      | none => simp [hs] at hv
      | some s =>
        have hj : j < len := by
          have := (List.getElem?_eq_some_iff.1 hs).1
          simp at this
          omega
        have e1 : ss.getD j ByteArray.empty = s := by
          rw [List.getElem?_take, if_pos hj] at hs
          simp [List.getD_eq_getElem?_getD, hs]
        have h2 := hcell j (by omega)
        rw [e1] at h2
        rw [h2, ← hv, hs]
        simp
    · obtain ⟨s, hs', rfl⟩ := List.mem_map.1 hx'
      refine hw _ ?_
      subst hdx
      simp only [DataW.weights, ht]
      refine List.mem_cons_of_mem _ (List.mem_append_left _ (weightsAll_mem (d := .lit (.string s.data.toList)) ?_ (by simp [DataW.weights])))
      exact List.mem_map.2 ⟨s, hs', rfl⟩
end
end Go.Sx
