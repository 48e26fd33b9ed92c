/- What is written is read as it was, and back. -/
import Derived.Test.YtbdkgmkaakoigaaDoorNote
namespace Go.Note
theorem list_small {l : List (List UInt8)} (h1 : l.length ≤ 1024) (h2 : l.flatten.length ≤ 65536) : (Oct.list l).2 = 0 := by rw [Oct.list_ok (by omega) (by omega)]
theorem num_len {n : Int} (h1 : n ≤ 9223372036854775807) : (num n).length ≤ 9 := Oct.number_len h1
theorem ok_item {i : Item} (h : i.ok = true) : (0 ≤ i.kind ∧ i.kind ≤ 3) ∧ (0 ≤ i.who ∧ i.who ≤ 64) ∧ (0 ≤ i.n ∧ i.n ≤ 1099511627776) ∧ i.text.length ≤ 65472 := by
  rw [Item.ok_is] at h
  simp only [decide_eq_true_eq] at h
  omega
/-! ### What is read is written as it was -/
end Go.Note
