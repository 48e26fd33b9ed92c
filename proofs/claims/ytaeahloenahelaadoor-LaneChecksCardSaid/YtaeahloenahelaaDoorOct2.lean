/- Numbers, texts and lists as bytes: there and back. -/
import Derived.Test.YtaeahloenahelaaDoorOct
namespace Go.Oct
theorem drop_at {α : Type} (a b : List α) (i : Nat) : (a ++ b).drop (a.length + i) = b.drop i := by
  rw [List.drop_append, List.drop_eq_nil_of_le (by omega), List.nil_append]
  congr 1
  omega

/-! ### What was read is laid as it was -/
/-! ### What stands behind changes nothing -/
theorem number_len {n : Int} (hn : n ≤ 9223372036854775807) : (number n).1.length ≤ 9 := by
  unfold number
  split
  · simp
  · exact numL_le (by omega)
theorem list_len {l : List (List UInt8)} : (list l).1.length ≤ 80000 := by
  unfold list
  split
  · simp
  · exact listL_le (by omega) (by omega)
end Go.Oct
