/- Own words: words of 32 bits. -/
import Derived.Test.YtaeahloenahelaaDoorSxH
set_option linter.unusedVariables false
set_option linter.unusedSimpArgs false
namespace Go.Sx
open Go.RowKit
variable {P : Program} {n : Nat} {S : List Nat} {w0 : World} {ss : List (Nat × Value)} {l : List It} {o : Oper}

theorem wrap32 (x : Int) : IntKind.u32.wrap x = x % 4294967296 := by simp [IntKind.wrap, IntKind.bits, IntKind.signed]
theorem ofInt32 (a : BitVec 32) : BitVec.ofInt 32 (a.toNat : Int) = a := by
  rw [BitVec.ofInt_natCast]
  simp
theorem add32 (a b : BitVec 32) : IntKind.u32.wrap ((a.toNat : Int) + (b.toNat : Int)) = ((a + b).toNat : Int) := by
  rw [wrap32, BitVec.toNat_add]
  omega
theorem mul32 (a b : BitVec 32) : IntKind.u32.wrap ((a.toNat : Int) * (b.toNat : Int)) = ((a * b).toNat : Int) := by
  rw [wrap32, BitVec.toNat_mul]
  rw [← Int.natCast_mul]
  omega
theorem shl32 (a : BitVec 32) (k : Nat) (hk : k ≤ 32) : IntKind.u32.wrap ((a.toNat : Int) * 2 ^ (min ((k : Int).toNat) IntKind.u32.bits)) = ((a <<< k).toNat : Int) := by
  have e : min ((k : Int).toNat) IntKind.u32.bits = k := by show min ((k : Int).toNat) 32 = k; rw [Int.toNat_natCast]; omega
  rw [e, wrap32, BitVec.toNat_shiftLeft, Nat.shiftLeft_eq]
  have e2 : ((a.toNat : Int) * 2 ^ k) = ((a.toNat * 2 ^ k : Nat) : Int) := by rw [Int.natCast_mul, Int.natCast_pow]; rfl
  rw [e2]
  omega
theorem shr32 (a : BitVec 32) (k : Nat) (hk : k ≤ 32) : Int.fdiv (a.toNat : Int) (2 ^ (min ((k : Int).toNat) IntKind.u32.bits)) = ((a >>> k).toNat : Int) := by
  have e : min ((k : Int).toNat) IntKind.u32.bits = k := by show min ((k : Int).toNat) 32 = k; rw [Int.toNat_natCast]; omega
  have hp : (0 : Int) ≤ (2 : Int) ^ k := Int.pow_nonneg (by omega)
  rw [e, Int.fdiv_eq_ediv_of_nonneg _ hp, BitVec.toNat_ushiftRight, Nat.shiftRight_eq_div_pow]
  have e2 : ((2 : Int) ^ k) = ((2 ^ k : Nat) : Int) := by rw [Int.natCast_pow]; rfl
  rw [e2, Int.natCast_ediv]
theorem and32 (a b : BitVec 32) : IntKind.u32.wrap ((BitVec.ofInt IntKind.u32.bits (a.toNat : Int) &&& BitVec.ofInt IntKind.u32.bits (b.toNat : Int)).toNat : Int) = ((a &&& b).toNat : Int) := by
  show IntKind.u32.wrap ((BitVec.ofInt 32 (a.toNat : Int) &&& BitVec.ofInt 32 (b.toNat : Int)).toNat : Int) = _
  rw [ofInt32, ofInt32, wrap32]
  have := (a &&& b).isLt
  omega
theorem or32 (a b : BitVec 32) : IntKind.u32.wrap ((BitVec.ofInt IntKind.u32.bits (a.toNat : Int) ||| BitVec.ofInt IntKind.u32.bits (b.toNat : Int)).toNat : Int) = ((a ||| b).toNat : Int) := by
  show IntKind.u32.wrap ((BitVec.ofInt 32 (a.toNat : Int) ||| BitVec.ofInt 32 (b.toNat : Int)).toNat : Int) = _
  rw [ofInt32, ofInt32, wrap32]
  have := (a ||| b).isLt
  omega
theorem xor32 (a b : BitVec 32) : IntKind.u32.wrap ((BitVec.ofInt IntKind.u32.bits (a.toNat : Int) ^^^ BitVec.ofInt IntKind.u32.bits (b.toNat : Int)).toNat : Int) = ((a ^^^ b).toNat : Int) := by
  show IntKind.u32.wrap ((BitVec.ofInt 32 (a.toNat : Int) ^^^ BitVec.ofInt 32 (b.toNat : Int)).toNat : Int) = _
  rw [ofInt32, ofInt32, wrap32]
  have := (a ^^^ b).isLt
  omega
/-- What a constant is, as a word. -/
theorem k32 {x : Operand} {m : Int} (h : evO ss x = some (.int .u32 m)) (k : Nat) (e : ((BitVec.ofNat 32 k).toNat : Int) = m) : evO ss x = some (u32 (BitVec.ofNat 32 k)) := by rw [h, ← e]
theorem y_add32 {t t' : TypeId} {x y : Operand} {p q : BitVec 32} (ho : o.op = .binOp .add t x y t') (hx : evO ss x = some (u32 p)) (hy : evO ss y = some (u32 q)) : Yld P n S w0 ss l o (u32 (p + q)) := y_add ho hx hy (add32 p q)
theorem y_mul32 {t t' : TypeId} {x y : Operand} {p q : BitVec 32} (ho : o.op = .binOp .mul t x y t') (hx : evO ss x = some (u32 p)) (hy : evO ss y = some (u32 q)) : Yld P n S w0 ss l o (u32 (p * q)) := y_mul ho hx hy (mul32 p q)
theorem y_and32 {t t' : TypeId} {x y : Operand} {p q : BitVec 32} (ho : o.op = .binOp .and t x y t') (hx : evO ss x = some (u32 p)) (hy : evO ss y = some (u32 q)) : Yld P n S w0 ss l o (u32 (p &&& q)) := y_and ho hx hy (and32 p q)
theorem y_or32 {t t' : TypeId} {x y : Operand} {p q : BitVec 32} (ho : o.op = .binOp .or t x y t') (hx : evO ss x = some (u32 p)) (hy : evO ss y = some (u32 q)) : Yld P n S w0 ss l o (u32 (p ||| q)) := y_or ho hx hy (or32 p q)
theorem y_xor32 {t t' : TypeId} {x y : Operand} {p q : BitVec 32} (ho : o.op = .binOp .xor t x y t') (hx : evO ss x = some (u32 p)) (hy : evO ss y = some (u32 q)) : Yld P n S w0 ss l o (u32 (p ^^^ q)) := y_xor ho hx hy (xor32 p q)
theorem y_shl32 {t t' : TypeId} {x y : Operand} {k' : IntKind} {p : BitVec 32} {k : Nat} (ho : o.op = .binOp .shl t x y t') (hx : evO ss x = some (u32 p)) (hy : evO ss y = some (.int k' (k : Int))) (hk : k ≤ 32) : Yld P n S w0 ss l o (u32 (p <<< k)) := y_shl ho hx hy (by omega) (shl32 p k hk)
theorem y_shr32 {t t' : TypeId} {x y : Operand} {k' : IntKind} {p : BitVec 32} {k : Nat} (ho : o.op = .binOp .shr t x y t') (hx : evO ss x = some (u32 p)) (hy : evO ss y = some (.int k' (k : Int))) (hk : k ≤ 32) : Yld P n S w0 ss l o (u32 (p >>> k)) := y_shr ho hx hy (by omega) (shr32 p k hk)
theorem not32 (a : BitVec 32) : IntKind.u32.wrap ((BitVec.ofInt IntKind.u32.bits IntKind.u32.max ^^^ BitVec.ofInt IntKind.u32.bits (a.toNat : Int)).toNat : Int) = ((~~~ a).toNat : Int) := by
  show IntKind.u32.wrap ((BitVec.ofInt 32 IntKind.u32.max ^^^ BitVec.ofInt 32 (a.toNat : Int)).toNat : Int) = _
  have e : BitVec.ofInt 32 IntKind.u32.max = BitVec.allOnes 32 := by decide
  rw [ofInt32, e, BitVec.allOnes_xor, wrap32]
  have := (~~~ a).isLt
  omega
theorem y_not32 {t : TypeId} {x : Operand} {p : BitVec 32} (ho : o.op = .unOp .xor t x) (hx : evO ss x = some (u32 p)) : Yld P n S w0 ss l o (u32 (~~~ p)) := by
  intro a w F _
  have h := not32 p
  have e : (if IntKind.u32.signed = true then (-1 : Int) else IntKind.u32.max) = IntKind.u32.max := by decide
  simp only [execOp, ho, F.ev hx, Op.unary, Op.intBits, e, h]
  simp
def w8 (b : UInt8) : BitVec 32 := BitVec.ofNat 32 b.toNat
theorem y_wide {s t : TypeId} {x : Operand} {b : UInt8} {d : TypeDesc} (ho : o.op = .convert s t x) (hs : P.underlying s = some d) (ht : P.underlying t = some (.int .u32)) (hx : evO ss x = some (u8 b)) : Yld P n S w0 ss l o (u32 (w8 b)) :=
  y_conv ho hs ht hx (by
    have := b.toNat_lt
    rw [wrap32, w8, BitVec.toNat_ofNat]
    omega)
def lo8 (x : BitVec 32) : UInt8 := UInt8.ofNat x.toNat
theorem y_low {s t : TypeId} {x : Operand} {p : BitVec 32} {d : TypeDesc} (ho : o.op = .convert s t x) (hs : P.underlying s = some d) (ht : P.underlying t = some (.int .u8)) (hx : evO ss x = some (u32 p)) : Yld P n S w0 ss l o (u8 (lo8 p)) :=
  y_conv ho hs ht hx (wu8_nat p.toNat)
theorem rot_or (x : BitVec 32) (n : Nat) (h0 : 0 < n) (h1 : n < 32) : x >>> n + x <<< (32 - n) = x >>> n ||| x <<< (32 - n) := by
  apply BitVec.add_eq_or_of_and_eq_zero
  ext i hi
  simp only [BitVec.getElem_and, BitVec.getElem_ushiftRight, BitVec.getElem_shiftLeft, BitVec.getElem_zero]
  by_cases h : i < 32 - n
  · simp [h]
  · simp only [h, decide_false, Bool.not_false, Bool.true_and]
    rw [BitVec.getLsbD_of_ge _ _ (by omega)]
    simp
end Go.Sx
