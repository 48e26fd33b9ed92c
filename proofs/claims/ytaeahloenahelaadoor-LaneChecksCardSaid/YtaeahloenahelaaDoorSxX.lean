/- Own words: what a function hands back out of a cell and a slot. -/
import Derived.Test.YtaeahloenahelaaDoorSxW
set_option linter.unusedVariables false
set_option linter.unusedSimpArgs false
namespace Go.Sx
open Go.RowKit
variable {P : Program} {n : Nat} {S : List Nat} {w0 w : World} {ss : List (Nat × Value)} {l : List It} {o : Oper} {a : Act}
theorem run_cell_tmp {fn : Func} {t ty b z u : Nat} {E : TypeId} {cs : List Value} {v : Value} (hr : fn.results = #[.cell t ty, .tmp u]) (H : St n S w0 ss l a w) (hv : find ss t = some (.pointer (some ⟨b, 0, none⟩))) (ht : aggB P ty = some true) (hz : sizeB P ty = some z) (hm : It.blk b E cs ∈ l) (hl : cs.length = z) (hu : find ss u = some v) :
    (results fn a.tmps).run P w = .ok (.tuple #[.agg cs.toArray, v]) w := by
  have h1 : a.tmps[t]?.getD undef = .pointer (some ⟨b, 0, none⟩) := by simpa [Array.getD_eq_getD_getElem?] using getD_of H.fr hv
  have h3 : a.tmps[u]?.getD undef = v := by simpa [Array.getD_eq_getD_getElem?] using getD_of H.fr hu
  have h2 : Rd w (some ⟨b, 0, none⟩) cs := by
    have := Rd.blk (blk_at hm H.sep) 0 cs.length
    simpa using this
  subst hl
  simp [results, hr, h1, h3, loadVar, run_isAgg' ht, run_sizeOf' hz, h2.load, asAddr]
theorem retct {fn : Func} {R : Ending → World → Prop} {t ty b z u : Nat} {E : TypeId} {cs : List Value} {v : Value} (hr : fn.results = #[.cell t ty, .tmp u]) (H : St n S w0 ss l a w) (hv : find ss t = some (.pointer (some ⟨b, 0, none⟩))) (ht : aggB P ty = some true) (hz : sizeB P ty = some z) (hm : It.blk b E cs ∈ l) (hl : cs.length = z) (hu : find ss u = some v)
    (h : R (.returned (.tuple #[.agg cs.toArray, v])) w) : bodyPost P fn R .ret a w :=
  bodyPost_ret (run_cell_tmp hr H hv ht hz hm hl hu) H.fr.df h
end Go.Sx
