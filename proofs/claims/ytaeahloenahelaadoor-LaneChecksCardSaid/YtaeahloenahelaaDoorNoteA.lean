/- What comes at any rate; small laws on what is read. -/
import Derived.Test.YtaeahloenahelaaDoorNoteB
import Derived.Test.YtaeahloenahelaaDoorShaNote
namespace Go.Note
def b0 : Bid := ⟨1, 2, 3, 0, Z⟩
theorem b0_ok : b0.ok = true := by decide
theorem sign_ok {b : Bid} (h : b.ok = true) : signBid b = (⟨b.round, b.who, b.amount, b.salt, (Seal.tag b.who 3 b.said).1⟩, 0) := by unfold signBid; rw [if_pos h]
theorem sign_still {b : Bid} (h : b.ok = true) : (signBid b).1.ok = true := by rw [sign_ok h]; exact h
theorem check_sign {b : Bid} (h : b.ok = true) : checkBid (signBid b).1 = 0 := by
  have h1 := sign_still h
  unfold checkBid
  rw [if_pos h1, if_pos]
  rw [sign_ok h]
  rfl
def sb : Bid := (signBid b0).1
theorem aw_check : checkBid sb = 0 := check_sign b0_ok
theorem num0 : num 0 = [0] := by decide
theorem num1 : num 1 = [1, 1] := by unfold num; rw [Seal.num1 (by omega) (by omega)]; rfl
end Go.Note
