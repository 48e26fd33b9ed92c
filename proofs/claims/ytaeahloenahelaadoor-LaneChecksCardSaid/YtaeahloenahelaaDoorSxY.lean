/- Own words: two calls or stores that may come up in either order. -/
import Derived.Test.YtaeahloenahelaaDoorSxI
set_option linter.unusedVariables false
set_option linter.unusedSimpArgs false
namespace Go.Sx
open Go.RowKit
variable {P : Program} {n : Nat} {S : List Nat} {w0 : World} {ss : List (Nat × Value)} {l ls : List It}
variable {rl : List Oper} {Q : Exit → Act → World → Prop} {o o' : Oper} {a : Act} {w : World} {fuel : Nat} {listed : Array Bool}
theorem wpOp_of_list {T : World → Prop} (i : Nat) (hi : rl[i]? = some o) (h : wpList P rl.toArray (HQ P rl Q T fuel (listed.setIfInBounds i true)) [o] a w) :
    wpOp P rl.toArray (NoPanic Q) i (fun a' w' => T w' ∧ wpAnyH P .any rl.toArray (NoPanic Q) T fuel (listed.setIfInBounds i true) a' w') a w := by
  unfold wpOp
  have hi' : rl.toArray[i]? = some o := by simpa using hi
  rw [hi']
  unfold wpList at h
  have hlo : ¬ LetsOut (HQ P rl Q T fuel (listed.setIfInBounds i true)) := by rintro ⟨a, w, h, _⟩; cases h
  show if _ then _ else _
  split
  · rename_i hw
    rw [if_pos hw] at h
    rcases h with h | ⟨_, h⟩
    · left
      unfold Oper.wp at h ⊢
      generalize (execOp a.eval o).run P w = r at h
      cases r with
      | ok nx w' =>
        cases nx <;> simp only [Oper.upon] at h ⊢
        case value v => exact h.2
        case skip => exact h.2
        case defer d => exact h.2
        case enter f args =>
          refine h.mono fun e w'' he => ?_
          cases e with
          | returned v => exact he.2
          | panicked c => cases he.1
          | outgrown => exact absurd he hlo
        case row r args => exact h.mono fun v w'' he => he.2
      | halt x w' =>
        cases x <;> simp only [Oper.upon] at h ⊢
        case panic v => cases h.1
    · exact absurd h hlo
  · rename_i hw
    rw [if_neg hw] at h
    exact h.2
def bothB (rl : List Oper) (listed : Array Bool) (i j : Nat) : Bool := Region.ready .any rl.toArray listed == [i, j]
theorem hgo2 {T : World → Prop} (i j : Nat) (hi : rl[i]? = some o) (hj : rl[j]? = some o') (hB : bothB rl listed i j = true) (h : wpList P rl.toArray (HQ P rl Q T fuel (listed.setIfInBounds i true)) [o] a w) (h' : wpList P rl.toArray (HQ P rl Q T fuel (listed.setIfInBounds j true)) [o'] a w) :
    wpAnyH P .any rl.toArray (NoPanic Q) T (fuel + 1) listed a w := by
  have hB' : Region.ready .any rl.toArray listed = [i, j] := by simpa [bothB] using hB
  refine wpAnyH_all hB' (by simp) fun k hk => ?_
  simp only [List.mem_cons, List.not_mem_nil, or_false] at hk
  rcases hk with rfl | rfl
  · exact wpOp_of_list _ hi h
  · exact wpOp_of_list _ hj h'
end Go.Sx
