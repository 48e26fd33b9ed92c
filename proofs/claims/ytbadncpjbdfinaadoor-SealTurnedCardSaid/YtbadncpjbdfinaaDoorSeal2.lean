/- Keys and tags: what comes at any rate. -/
import Derived.Test.YtbadncpjbdfinaaDoorSeal
import Derived.Test.YtbadncpjbdfinaaDoorShaKey
namespace Go.Seal
theorem key_one : key 1 = (Sha.sum [107, 101, 121, 1, 1], 0) := by rw [key_ok (by omega), num1 (by omega) (by omega)]; rfl
theorem tag_one' : (tag 1 1 [97]) = (Sha.sum (Sha.sum [107, 101, 121, 1, 1] ++ [1, 97]), 0) := by
  rw [tag_ok (by rw [key_one]) (by omega), key_one]
  rfl
theorem tag_one : (tag 1 1 [97]).2 = 0 := by rw [tag_one']
theorem tag_val : (tag 1 1 [97]).1 = Sha.sum Sha.tag1T := by
  rw [tag_one']
  have h : Sha.sum [107, 101, 121, 1, 1] = _ := Sha.sum_key1
  rw [h]
  rfl
theorem tag_ne : (tag 1 1 [97]).1 ≠ Z := by
  rw [tag_val, Sha.sum_tag1]
  decide
theorem check_one : check 1 1 [97] (tag 1 1 [97]).1 = 0 := check_ok tag_one rfl
theorem check_65 : check 65 1 [97] (tag 1 1 [97]).1 = 20 := by
  have h : key 65 = (Z, 20) := key_bad (by omega)
  have h2 : tag 65 1 [97] = (Z, 20) := by rw [tag_err (by rw [h]; decide), h]
  rw [check_err (by rw [h2]; decide), h2]
end Go.Seal
