/- The inbox's messages, block by block and item by item. -/
import Derived.Test.YtaeahloenahelaaDoorInboxV
namespace Go.Inbox
open Go.Note (Z)
theorem memD {α : Type} {l : List α} {k : Nat} (d : α) (h : k < l.length) : l.getD k d ∈ l := by
  rw [Oct.getD_eq d h]
  exact List.getElem_mem h
/-! ### Calls -/
end Go.Inbox
