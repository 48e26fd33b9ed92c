/- Own words: how arguments read. -/
import Derived.Test.YtbadncpjbdfinaaDoorSxG
import Derived.ProofKit
import Derived.OpenShut
import Derived.ShutString
import Derived.ChangeOld
import Derived.SizedLaws
set_option linter.unusedVariables false
set_option linter.unusedSimpArgs false
namespace Go.Sx
open Go.RowKit Go.WideShapes Go.ChangeAt Go.ChangeShapes

section
variable {H : Type} {enc : TypeId × Value → H} {P : Program} {W : World} {base : Nat} {sp : Nat → Bool} {held : Bool}
theorem read_strs {t e : TypeId} {a : Option Addr} {len cap : Nat} {d : DataW H} {ps : List MemPlace} (ht : P.underlying t = some (.slice e)) (he : P.underlying e = some .string) (hc : P.cellsOf e = 1)
    (h : DataW.Trod enc P W base (fun _ => true) held t (.slice a len cap) d ps) : ∃ L : List (List UInt8), len = L.length ∧ Rd W a (L.map str) ∧ L.length ≤ 9223372036854775807 := by
  obtain ⟨fuel, hf⟩ := h
  rcases open_strings ht he hc hf with ⟨hcs, _⟩ | ⟨ad, l, c, ss, hcs, _, hl, hm, hz, _, hcell, _⟩
  · simp [Value.cells] at hcs
    obtain ⟨rfl, rfl, rfl⟩ := hcs
    exact ⟨[], rfl, .inl rfl, by simp⟩
  · simp [Value.cells] at hcs
    obtain ⟨rfl, rfl, rfl⟩ := hcs
    simp only [if_true] at hz
    unfold maxLen at hm
    refine ⟨(ss.take len).map fun s => s.data.toList, by simp; omega, .inr ⟨ad, rfl, fun j v hv => ?_⟩, by simp; omega⟩
    simp only [List.map_map, List.getElem?_map] at hv
    cases hs : (ss.take len)[j]? with
    | none => simp [hs] at hv
    | some s =>
      have hj : j < len := by
        have := (List.getElem?_eq_some_iff.1 hs).1
        simp at this
        omega
      have e1 : ss.getD j ByteArray.empty = s := by
        rw [List.getElem?_take, if_pos hj] at hs
        simp [List.getD_eq_getElem?_getD, hs]
      have h2 := hcell j (by omega)
      rw [e1] at h2
      rw [h2, ← hv, hs]
      simp
end
theorem str_of (s : ByteArray) : Value.string s = str s.data.toList := rfl
theorem wf_i64 {n : Int} (h : (Lit.int .i64 n).wf = true) : -9223372036854775808 ≤ n ∧ n ≤ 9223372036854775807 := by
  simp [Lit.wf, IntKind.min, IntKind.max, IntKind.bits, IntKind.signed] at h
  omega
/-- What a law's walk comes to. -/
theorem law_below {P : Program} {f : FuncId} {args : Array Value} {W : World} (h : Calls P f args W (Gives (.bool true) [] W)) : Calls P f args W fun e w' => e = .returned (.bool true) ∧ Below W.heap.size W w' :=
  h.mono fun e w' ⟨v, l, he, ⟨hv, _⟩, hs⟩ => ⟨by rw [he, hv], hs.frm.below⟩
end Go.Sx
