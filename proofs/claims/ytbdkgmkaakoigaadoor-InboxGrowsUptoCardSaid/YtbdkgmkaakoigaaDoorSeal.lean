/- Keys and tags, in plain Lean. -/
import Derived.Test.YtbdkgmkaakoigaaDoorSha
namespace Go.Seal
def Z : List UInt8 := List.replicate 32 0
def key (who : Int) : List UInt8 × Int := if who < 0 ∨ 64 < who then (Z, 20) else (Sha.sum ([107, 101, 121] ++ (Oct.number who).1), 0)
def tag (who dom : Int) (body : List UInt8) : List UInt8 × Int :=
  if (key who).2 ≠ 0 then (Z, (key who).2) else if dom < 1 ∨ 4 < dom then (Z, 2) else (Sha.sum ((key who).1 ++ ([UInt8.ofNat dom.toNat] ++ body)), 0)
theorem blen_small {m : Nat} (h0 : 0 < m) (h : m < 256) : Oct.blen m = 1 := Oct.blen_eq 1 m (by simpa using h) (.inr (by simp; omega))
theorem num0 : (Oct.number 0).1 = [0] := by decide
theorem num1 {who : Int} (h0 : 0 < who) (h : who < 256) : (Oct.number who).1 = [1, UInt8.ofNat who.toNat] := by
  unfold Oct.number
  rw [if_neg (by omega)]
  show Oct.numL who.toNat = _
  unfold Oct.numL
  rw [blen_small (by omega) (by omega)]
  simp [Oct.lows]
end Go.Seal
