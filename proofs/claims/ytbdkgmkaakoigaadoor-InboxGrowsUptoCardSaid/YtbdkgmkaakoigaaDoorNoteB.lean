/- What is written is read as it was, and back. -/
import Derived.Test.YtbdkgmkaakoigaaDoorNote
namespace Go.Note
theorem list_small {l : List (List UInt8)} (h1 : l.length ≤ 1024) (h2 : l.flatten.length ≤ 65536) : (Oct.list l).2 = 0 := by rw [Oct.list_ok (by omega) (by omega)]
theorem num_len {n : Int} (h1 : n ≤ 9223372036854775807) : (num n).length ≤ 9 := Oct.number_len h1
theorem ok_item {i : Item} (h : i.ok = true) : (0 ≤ i.kind ∧ i.kind ≤ 3) ∧ (0 ≤ i.who ∧ i.who ≤ 64) ∧ (0 ≤ i.n ∧ i.n ≤ 1099511627776) ∧ i.text.length ≤ 65472 := by
  rw [Item.ok_is] at h
  simp only [decide_eq_true_eq] at h
  omega
/-! ### What is read is written as it was -/
theorem laid_part {t : List UInt8} {p : Part} (h : part t = some p) : p.laid = t ∧ p.ok = true := by
  unfold part at h
  split at h
  · rename_i h1
    simp only [Option.some.injEq] at h
    subst h h1
    exact ⟨rfl, rfl⟩
  · split at h
    · rename_i h1 h2
      simp only [Option.some.injEq] at h
      subst h
      obtain ⟨h3, h4, h5⟩ := h2
      match t, h3, h4, h5 with
      | x :: r, h3, _, h5 =>
        have : x = 1 := h3
        subst this
        refine ⟨rfl, ?_⟩
        unfold Part.ok
        simp only [Bool.false_eq_true, if_false, decide_eq_true_eq, List.drop_succ_cons, List.drop_zero]
        simp only [List.length_cons] at h5
        omega
    · cases h
end Go.Note
