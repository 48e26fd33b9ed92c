/- Keys and tags, in plain Lean. -/
import Derived.Test.YtaeahloenahelaaDoorSha
namespace Go.Seal
def Z : List UInt8 := List.replicate 32 0
def key (who : Int) : List UInt8 × Int := if who < 0 ∨ 64 < who then (Z, 20) else (Sha.sum ([107, 101, 121] ++ (Oct.number who).1), 0)
def tag (who dom : Int) (body : List UInt8) : List UInt8 × Int :=
  if (key who).2 ≠ 0 then (Z, (key who).2) else if dom < 1 ∨ 4 < dom then (Z, 2) else (Sha.sum ((key who).1 ++ ([UInt8.ofNat dom.toNat] ++ body)), 0)
def check (who dom : Int) (body t : List UInt8) : Int := if (tag who dom body).2 ≠ 0 then (tag who dom body).2 else if (tag who dom body).1 ≠ t then 21 else 0
theorem key_bad {who : Int} (h : who < 0 ∨ 64 < who) : key who = (Z, 20) := by unfold key; rw [if_pos h]
theorem key_ok {who : Int} (h : ¬ (who < 0 ∨ 64 < who)) : key who = (Sha.sum ([107, 101, 121] ++ (Oct.number who).1), 0) := by unfold key; rw [if_neg h]
theorem key_len (who : Int) : (key who).1.length = 32 := by
  unfold key
  split
  · rfl
  · exact Sha.sum_length _
theorem tag_err {who dom : Int} {body : List UInt8} (h : (key who).2 ≠ 0) : tag who dom body = (Z, (key who).2) := by unfold tag; rw [if_pos h]
theorem tag_dom {who dom : Int} {body : List UInt8} (h : (key who).2 = 0) (h1 : dom < 1 ∨ 4 < dom) : tag who dom body = (Z, 2) := by unfold tag; rw [if_neg (by omega), if_pos h1]
theorem tag_ok {who dom : Int} {body : List UInt8} (h : (key who).2 = 0) (h1 : ¬ (dom < 1 ∨ 4 < dom)) : tag who dom body = (Sha.sum ((key who).1 ++ ([UInt8.ofNat dom.toNat] ++ body)), 0) := by unfold tag; rw [if_neg (by omega), if_neg h1]
theorem tag_len (who dom : Int) (body : List UInt8) : (tag who dom body).1.length = 32 := by
  unfold tag
  split
  · rfl
  · split
    · rfl
    · exact Sha.sum_length _
theorem check_err {who dom : Int} {body t : List UInt8} (h : (tag who dom body).2 ≠ 0) : check who dom body t = (tag who dom body).2 := by unfold check; rw [if_pos h]
theorem check_bad {who dom : Int} {body t : List UInt8} (h : (tag who dom body).2 = 0) (h1 : (tag who dom body).1 ≠ t) : check who dom body t = 21 := by unfold check; rw [if_neg (by omega), if_pos h1]
theorem check_ok {who dom : Int} {body t : List UInt8} (h : (tag who dom body).2 = 0) (h1 : (tag who dom body).1 = t) : check who dom body t = 0 := by unfold check; rw [if_neg (by omega), if_neg (by simp [h1])]
theorem blen_small {m : Nat} (h0 : 0 < m) (h : m < 256) : Oct.blen m = 1 := Oct.blen_eq 1 m (by simpa using h) (.inr (by simp; omega))
theorem num0 : (Oct.number 0).1 = [0] := by decide
theorem num1 {who : Int} (h0 : 0 < who) (h : who < 256) : (Oct.number who).1 = [1, UInt8.ofNat who.toNat] := by
  unfold Oct.number
  rw [if_neg (by omega)]
  show Oct.numL who.toNat = _
  unfold Oct.numL
  rw [blen_small (by omega) (by omega)]
  simp [Oct.lows]
end Go.Seal
