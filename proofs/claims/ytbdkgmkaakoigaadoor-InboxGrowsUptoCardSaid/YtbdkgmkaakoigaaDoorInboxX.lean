/- What the inbox must give at any rate, as cells. -/
import Derived.Test.YtbdkgmkaakoigaaDoorInboxA
import Derived.Test.YtbdkgmkaakoigaaDoorInboxW
namespace Go.Inbox
open Go.Sx
open Go.Note (Z I64)
theorem bc_one (x : BA) : bc [x] = BA.cells x := by simp [bc]
theorem aw_ic : ic awB.items = Note.Item.cells ⟨1, 1, 0, [97]⟩ ++ Note.Item.cells ⟨2, 0, 2, []⟩ := by simp [ic, awB]
theorem aw_wf {W : World} {A : Option Addr} {c : Nat} (h : Rd W A (Note.Item.cells ⟨1, 1, 0, [97]⟩ ++ Note.Item.cells ⟨2, 0, 2, []⟩)) : ∀ x ∈ [(⟨awB, A, c⟩ : BA)], BA.Wf W x := by
  intro x hx
  rw [List.mem_singleton.1 hx]
  refine ⟨(show I64 3 from ⟨by decide, by decide⟩), (show I64 0 from ⟨by decide, by decide⟩), rfl, (show awB.items.length ≤ 9223372036854775807 by decide), fun i hi => ?_, (show Rd W A (ic awB.items) by rw [aw_ic]; exact h)⟩
  simp only [awB, List.mem_cons, List.not_mem_nil, or_false] at hi
  rcases hi with rfl | rfl
  · exact ⟨⟨by decide, by decide⟩, ⟨by decide, by decide⟩, ⟨by decide, by decide⟩, by decide⟩
  · exact ⟨⟨by decide, by decide⟩, ⟨by decide, by decide⟩, ⟨by decide, by decide⟩, by decide⟩
theorem aw_hit {A : Option Addr} {c : Nat} : ∀ x ∈ [(⟨awB, A, c⟩ : BA)], x.b.items.length ≤ 1048576 := by
  intro x hx
  rw [List.mem_singleton.1 hx]
  show awB.items.length ≤ 1048576
  decide
def awE : Entry := ⟨1, [97], 3, next Z 1 [97]⟩
theorem aw_len : awE.acc.length = 32 := Sha.sum_length _
theorem aw_msgs' {A : Option Addr} {c : Nat} : messages ([(⟨awB, A, c⟩ : BA)].map (·.b)) = [awE] := aw_msgs
theorem aw_ne : awE.acc ≠ Z := aw_next
theorem aw_acc : ((ec [awE]).drop (0 + (0 : Int).toNat * 35 + 3)).take 32 = awE.acc.map Sx.u8 := by
  have h : (awE.acc.map Sx.u8).length = 32 := by rw [List.length_map]; exact aw_len
  show ((awE.acc.map Sx.u8) ++ []).take 32 = _
  rw [List.append_nil, List.take_of_length_le (by omega)]
theorem aw_blk : (ec [awE])[0 + (0 : Int).toNat * 35 + 2]? = some (.int .i64 3) := rfl
/-- What a call names. -/
structure Q where
  n : Int
  t : Int
  wt : Int
def Q.cells (q : Q) : List Value := [Sx.i64 q.n, Sx.i64 q.t, Sx.i64 q.wt]
end Go.Inbox
