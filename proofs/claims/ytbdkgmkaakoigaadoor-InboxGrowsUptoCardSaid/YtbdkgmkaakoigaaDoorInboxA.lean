/- What the inbox must give at any rate. -/
import Derived.Test.YtbdkgmkaakoigaaDoorShaInbox
import Derived.Test.YtbdkgmkaakoigaaDoorInbox
namespace Go.Inbox
open Go.Note (Z num)
theorem aw_text : Z ++ (Oct.list [num 1, [97]]).1 = Sha.inb1T := by
  rw [Note.num1, Oct.list_ok (by simp) (by simp)]
  unfold Oct.listL Oct.textL
  simp only [List.map_cons, List.map_nil, List.length_cons, List.length_nil, List.flatten_cons, List.flatten_nil]
  rw [Note.numL_small (by omega) (by omega), Note.numL_small (by omega) (by omega)]
  rfl
set_option maxRecDepth 20000 in
theorem aw_next : next Z 1 [97] ≠ Z := by
  unfold next
  rw [aw_text, Sha.sum_inb1]
  intro h
  have h1 := congrArg (fun l => l.getD 0 0) h
  revert h1
  decide
def awB : Block := ⟨3, 0, Z, [⟨1, 1, 0, [97]⟩, ⟨2, 0, 2, []⟩]⟩
theorem aw_yes : isMsg ⟨1, 1, 0, [97]⟩ = true := by rw [isMsg_is, Note.Item.ok_is]; simp
theorem aw_no : isMsg ⟨2, 0, 2, []⟩ = false := isMsg_not (fun h => absurd h.2.1 (by simp))
theorem aw_msgs : messages [awB] = [⟨1, [97], 3, next Z 1 [97]⟩] := by
  unfold messages run blockStep awB
  simp only [List.foldl_cons, List.foldl_nil]
  rw [step_yes aw_yes, step_no aw_no]
  rfl
theorem aw_reach1 (e : Entry) (h : e.block = 3) : reach [e] 1 7 4 = 1 := by
  refine (reach_all (by omega) (by omega) (by omega) (fun j hj => ?_)).trans rfl
  have : j = 0 := by simp at hj; omega
  subst this
  show e.block ≤ 7 - 4
  omega
theorem aw_reach0 (e : Entry) (h : e.block = 3) : reach [e] 1 6 4 = 0 := by
  refine reach_at (by omega) (by omega) (by simp) (by omega) (fun j hj => absurd hj (by omega)) ?_
  show (6 : Int) - 4 < e.block
  omega
end Go.Inbox
