/- What comes at any rate; small laws on what is read. -/
import Derived.Test.YtbdkgmkaakoigaaDoorNoteB
import Derived.Test.YtbdkgmkaakoigaaDoorShaNote
namespace Go.Note
def b0 : Bid := ⟨1, 2, 3, 0, Z⟩
theorem num0 : num 0 = [0] := by decide
theorem num1 : num 1 = [1, 1] := by unfold num; rw [Seal.num1 (by omega) (by omega)]; rfl
theorem num5 : num 5 = [1, 5] := by unfold num; rw [Seal.num1 (by omega) (by omega)]; rfl
theorem numL_small {m : Nat} (h0 : 0 < m) (h : m < 256) : Oct.numL m = [1, UInt8.ofNat m] := by
  have := Seal.num1 (who := (m : Int)) (by omega) (by omega)
  rw [Oct.number_nat] at this
  simpa using this
theorem aw_text : Z ++ (Oct.list [num 0, num 1, num 5, [97]]).1 = Sha.note1T := by
  rw [num0, num1, num5, Oct.list_ok (by simp) (by simp)]
  unfold Oct.listL Oct.textL
  simp only [List.map_cons, List.map_nil, List.length_cons, List.length_nil, List.flatten_cons, List.flatten_nil]
  rw [numL_small (by omega) (by omega), numL_small (by omega) (by omega), numL_small (by omega) (by omega)]
  rfl
end Go.Note
