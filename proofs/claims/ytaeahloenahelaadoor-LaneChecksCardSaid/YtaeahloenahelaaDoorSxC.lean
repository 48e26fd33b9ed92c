/- Own words for walks: what each operation yields. -/
import Derived.Test.YtaeahloenahelaaDoorSxB
import Derived.Laws.StructEq
import Derived.Laws.Concat
import Derived.Laws.Cells
set_option linter.unusedVariables false
set_option linter.unusedSimpArgs false
namespace Go.Sx
open Go.RowKit

def nth : List Value → Nat → Option Value
  | [], _ => none
  | v :: _, 0 => some v
  | _ :: l, n + 1 => nth l n
theorem nth_eq : ∀ (l : List Value) (i : Nat), nth l i = l[i]?
  | [], i => by simp [nth]
  | v :: l, 0 => by simp [nth]
  | v :: l, i + 1 => by simp [nth, nth_eq l i]
/-- A text as its bytes. -/
@[reducible] def str (l : List UInt8) : Value := .string ⟨l.toArray⟩
/-- A word of 32 bits. -/
@[reducible] def u32 (x : BitVec 32) : Value := .int .u32 (x.toNat : Int)
/-- A byte. -/
@[reducible] def u8 (x : UInt8) : Value := .int .u8 (x.toNat : Int)

theorem w64 {x : Int} (h1 : -9223372036854775808 ≤ x) (h2 : x ≤ 9223372036854775807) : IntKind.i64.wrap x = x := IntWalk.i64_in x ⟨h1, h2⟩
theorem wu64 {x : Int} (h1 : 0 ≤ x) (h2 : x ≤ 18446744073709551615) : IntKind.u64.wrap x = x := by
  simp [IntKind.wrap, IntKind.bits, IntKind.signed]; omega
theorem wu8_mod (x : Int) : IntKind.u8.wrap x = x % 256 := by
  simp [IntKind.wrap, IntKind.bits, IntKind.signed]

section
variable {P : Program} {n : Nat} {S : List Nat} {w0 : World} {ss : List (Nat × Value)} {l : List It} {o : Oper}

/-! ### Moves, choices -/
theorem y_move {x : Operand} {v : Value} (ho : o.op = .move x) (hx : evO ss x = some v) : Yld P n S w0 ss l o v := by
  intro a w F _; simp [execOp, ho, F.ev hx]
theorem y_assign {x : Operand} {v : Value} (ho : o.op = .assign x) (hx : evO ss x = some v) : Yld P n S w0 ss l o v := by
  intro a w F _; simp [execOp, ho, F.ev hx]
theorem y_pick_t {c x y : Operand} {v : Value} (ho : o.op = .pick c x y) (hc : evO ss c = some (.bool true)) (hx : evO ss x = some v) : Yld P n S w0 ss l o v := by
  intro a w F _; simp [execOp, ho, F.ev hx, F.ev hc, asBool]
theorem y_pick_f {c x y : Operand} {v : Value} (ho : o.op = .pick c x y) (hc : evO ss c = some (.bool false)) (hx : evO ss y = some v) : Yld P n S w0 ss l o v := by
  intro a w F _; simp [execOp, ho, F.ev hx, F.ev hc, asBool]
theorem y_extract {x : Operand} {i : Nat} {vs : List Value} {v : Value} (ho : o.op = .extract x i) (hx : evO ss x = some (.tuple vs.toArray)) (hv : nth vs i = some v) : Yld P n S w0 ss l o v := by
  have hv' : vs[i]? = some v := by rw [← nth_eq]; exact hv
  intro a w F _; simp [execOp, ho, F.ev hx, Instr.extract, hv']
theorem y_nilCheck {x : Operand} {ad : Addr} (ho : o.op = .nilCheck x) (hx : evO ss x = some (.pointer (some ad))) : Yld P n S w0 ss l o (.pointer (some ad)) := by
  intro a w F _; simp [execOp, ho, F.ev hx]
/-! ### Whole numbers -/
theorem y_add {t t' : TypeId} {x y : Operand} {k : IntKind} {p q r : Int} (ho : o.op = .binOp .add t x y t') (hx : evO ss x = some (.int k p)) (hy : evO ss y = some (.int k q)) (hr : k.wrap (p + q) = r) : Yld P n S w0 ss l o (.int k r) := by
  intro a w F _; simp [execOp, ho, F.ev hx, F.ev hy, eqGuard, binOp, Op.intArith, hr]
theorem y_sub {t t' : TypeId} {x y : Operand} {k : IntKind} {p q r : Int} (ho : o.op = .binOp .sub t x y t') (hx : evO ss x = some (.int k p)) (hy : evO ss y = some (.int k q)) (hr : k.wrap (p - q) = r) : Yld P n S w0 ss l o (.int k r) := by
  intro a w F _; simp [execOp, ho, F.ev hx, F.ev hy, eqGuard, binOp, Op.intArith, hr]
theorem y_mul {t t' : TypeId} {x y : Operand} {k : IntKind} {p q r : Int} (ho : o.op = .binOp .mul t x y t') (hx : evO ss x = some (.int k p)) (hy : evO ss y = some (.int k q)) (hr : k.wrap (p * q) = r) : Yld P n S w0 ss l o (.int k r) := by
  intro a w F _; simp [execOp, ho, F.ev hx, F.ev hy, eqGuard, binOp, Op.intArith, hr]
theorem y_quo {t t' : TypeId} {x y : Operand} {k : IntKind} {p q r : Int} (ho : o.op = .binOp .quo t x y t') (hx : evO ss x = some (.int k p)) (hy : evO ss y = some (.int k q)) (h0 : q ≠ 0) (hr : k.wrap (p.tdiv q) = r) : Yld P n S w0 ss l o (.int k r) := by
  intro a w F _; simp [execOp, ho, F.ev hx, F.ev hy, eqGuard, binOp, Op.intDiv, hr, h0]
theorem y_rem {t t' : TypeId} {x y : Operand} {k : IntKind} {p q r : Int} (ho : o.op = .binOp .rem t x y t') (hx : evO ss x = some (.int k p)) (hy : evO ss y = some (.int k q)) (h0 : q ≠ 0) (hr : p.tmod q = r) : Yld P n S w0 ss l o (.int k r) := by
  intro a w F _; simp [execOp, ho, F.ev hx, F.ev hy, eqGuard, binOp, Op.intDiv, hr, h0]
theorem y_shl {t t' : TypeId} {x y : Operand} {k k' : IntKind} {p q r : Int} (ho : o.op = .binOp .shl t x y t') (hx : evO ss x = some (.int k p)) (hy : evO ss y = some (.int k' q)) (h0 : 0 ≤ q) (hr : k.wrap (p * 2 ^ (min q.toNat k.bits)) = r) : Yld P n S w0 ss l o (.int k r) := by
  intro a w F _; simp [execOp, ho, F.ev hx, F.ev hy, eqGuard, binOp, Op.shift, hr, Int.not_lt.2 h0]
theorem y_shr {t t' : TypeId} {x y : Operand} {k k' : IntKind} {p q r : Int} (ho : o.op = .binOp .shr t x y t') (hx : evO ss x = some (.int k p)) (hy : evO ss y = some (.int k' q)) (h0 : 0 ≤ q) (hr : p.fdiv (2 ^ (min q.toNat k.bits)) = r) : Yld P n S w0 ss l o (.int k r) := by
  intro a w F _; simp [execOp, ho, F.ev hx, F.ev hy, eqGuard, binOp, Op.shift, hr, Int.not_lt.2 h0]
theorem y_and {t t' : TypeId} {x y : Operand} {k : IntKind} {p q r : Int} (ho : o.op = .binOp .and t x y t') (hx : evO ss x = some (.int k p)) (hy : evO ss y = some (.int k q)) (hr : k.wrap (BitVec.ofInt k.bits p &&& BitVec.ofInt k.bits q).toNat = r) : Yld P n S w0 ss l o (.int k r) := by
  intro a w F _; simp only [execOp, ho, F.ev hx, F.ev hy, eqGuard, binOp, Op.intBits, hr]; simp
theorem y_or {t t' : TypeId} {x y : Operand} {k : IntKind} {p q r : Int} (ho : o.op = .binOp .or t x y t') (hx : evO ss x = some (.int k p)) (hy : evO ss y = some (.int k q)) (hr : k.wrap (BitVec.ofInt k.bits p ||| BitVec.ofInt k.bits q).toNat = r) : Yld P n S w0 ss l o (.int k r) := by
  intro a w F _; simp only [execOp, ho, F.ev hx, F.ev hy, eqGuard, binOp, Op.intBits, hr]; simp
theorem y_xor {t t' : TypeId} {x y : Operand} {k : IntKind} {p q r : Int} (ho : o.op = .binOp .xor t x y t') (hx : evO ss x = some (.int k p)) (hy : evO ss y = some (.int k q)) (hr : k.wrap (BitVec.ofInt k.bits p ^^^ BitVec.ofInt k.bits q).toNat = r) : Yld P n S w0 ss l o (.int k r) := by
  intro a w F _; simp only [execOp, ho, F.ev hx, F.ev hy, eqGuard, binOp, Op.intBits, hr]; simp
theorem y_lss {t t' : TypeId} {x y : Operand} {k : IntKind} {p q : Int} (ho : o.op = .binOp .lss t x y t') (hx : evO ss x = some (.int k p)) (hy : evO ss y = some (.int k q)) : Yld P n S w0 ss l o (.bool (decide (p < q))) := by
  intro a w F _; simp [execOp, ho, F.ev hx, F.ev hy, eqGuard, binOp, Op.intCmp]
theorem y_leq {t t' : TypeId} {x y : Operand} {k : IntKind} {p q : Int} (ho : o.op = .binOp .leq t x y t') (hx : evO ss x = some (.int k p)) (hy : evO ss y = some (.int k q)) : Yld P n S w0 ss l o (.bool (decide (p ≤ q))) := by
  intro a w F _; simp [execOp, ho, F.ev hx, F.ev hy, eqGuard, binOp, Op.intCmp]
theorem y_gtr {t t' : TypeId} {x y : Operand} {k : IntKind} {p q : Int} (ho : o.op = .binOp .gtr t x y t') (hx : evO ss x = some (.int k p)) (hy : evO ss y = some (.int k q)) : Yld P n S w0 ss l o (.bool (decide (q < p))) := by
  intro a w F _; simp [execOp, ho, F.ev hx, F.ev hy, eqGuard, binOp, Op.intCmp]
theorem y_geq {t t' : TypeId} {x y : Operand} {k : IntKind} {p q : Int} (ho : o.op = .binOp .geq t x y t') (hx : evO ss x = some (.int k p)) (hy : evO ss y = some (.int k q)) : Yld P n S w0 ss l o (.bool (decide (q ≤ p))) := by
  intro a w F _; simp [execOp, ho, F.ev hx, F.ev hy, eqGuard, binOp, Op.intCmp]
theorem y_eql {t t' : TypeId} {x y : Operand} {k : IntKind} {p q : Int} (ho : o.op = .binOp .eql t x y t') (hx : evO ss x = some (.int k p)) (hy : evO ss y = some (.int k q)) : Yld P n S w0 ss l o (.bool (decide (p = q))) := by
  intro a w F _; simp [execOp, ho, F.ev hx, F.ev hy, eqGuard, binOp, Op.intCmp]; rfl
theorem y_neq {t t' : TypeId} {x y : Operand} {k : IntKind} {p q : Int} (ho : o.op = .binOp .neq t x y t') (hx : evO ss x = some (.int k p)) (hy : evO ss y = some (.int k q)) : Yld P n S w0 ss l o (.bool (decide (p ≠ q))) := by
  intro a w F _; simp [execOp, ho, F.ev hx, F.ev hy, eqGuard, binOp, Op.intCmp, bne]; rfl
theorem y_not {t : TypeId} {x : Operand} {b : Bool} (ho : o.op = .unOp .not t x) (hx : evO ss x = some (.bool b)) : Yld P n S w0 ss l o (.bool (!b)) := by
  intro a w F _; simp [execOp, ho, F.ev hx, Op.unary]
theorem y_not_d {t : TypeId} {x : Operand} {p : Prop} [Decidable p] (ho : o.op = .unOp .not t x) (hx : evO ss x = some (.bool (decide p))) : Yld P n S w0 ss l o (.bool (decide (¬ p))) := by
  intro a w F _; simp [execOp, ho, F.ev hx, Op.unary]
theorem y_conv {s t : TypeId} {x : Operand} {k k' : IntKind} {p r : Int} (ho : o.op = .convert s t x) {d : TypeDesc} (hs : P.underlying s = some d) (ht : P.underlying t = some (.int k')) (hx : evO ss x = some (.int k p)) (hr : k'.wrap p = r) : Yld P n S w0 ss l o (.int k' r) := by
  intro a w F _; simp [execOp, ho, F.ev hx, convert, underlying, program, Sem.run, hs, ht, Conv.intToInt, hr]

/-! ### Bools -/
/-! ### Texts -/
theorem size_mk (p : List UInt8) : (ByteArray.mk p.toArray).size = p.length := by simp [ByteArray.size]
theorem lbeq (p q : List UInt8) : (p == q) = decide (p = q) := by
  cases h : (p == q) with
  | true => simp [beq_iff_eq.1 h]
  | false => simp [beq_eq_false_iff_ne.1 h]
theorem y_sadd {t t' : TypeId} {x y : Operand} {p q : List UInt8} (ho : o.op = .binOp .add t x y t') (hx : evO ss x = some (str p)) (hy : evO ss y = some (str q)) (hb : p.length + q.length ≤ 9223372036854775807) : Yld P n S w0 ss l o (str (p ++ q)) := by
  intro a w F _
  have h1 := run_string_add_sum (P := P) (w := w) (⟨p.toArray⟩) (⟨q.toArray⟩) (by rw [size_mk, size_mk]; exact hb)
  rw [ByteArray.mk_append_mk] at h1
  simp [execOp, ho, F.ev hx, F.ev hy, eqGuard, binOp_string_add, h1]
theorem y_slen {x : Operand} {t : TypeId} {p : List UInt8} (ho : o.op = .call { callee := .builtin .len, args := #[x], argTypes := #[t] }) (ht : P.underlying t = some .string) (hx : evO ss x = some (str p)) : Yld P n S w0 ss l o (.int .i64 (p.length : Int)) := by
  intro a w F _; simp [execOp, ho, F.ev hx, resolve, invoke, builtin, run_len_string w t _ _ ht, goInt, size_mk]
theorem y_len {x : Operand} {t e : TypeId} {A : Option Addr} {m c : Nat} (ho : o.op = .call { callee := .builtin .len, args := #[x], argTypes := #[t] }) (ht : P.underlying t = some (.slice e)) (hx : evO ss x = some (.slice A m c)) : Yld P n S w0 ss l o (.int .i64 (m : Int)) := by
  intro a w F _; simp [execOp, ho, F.ev hx, resolve, invoke, builtin, Builtin.len_, run_underlying ht, goInt]
theorem y_sindex {x i : Operand} {t : TypeId} {p : List UInt8} {k : IntKind} {q : Int} {b : UInt8} (ho : o.op = .index t x i) (ht : P.underlying t = some .string) (hx : evO ss x = some (str p)) (hi : evO ss i = some (.int k q)) (h0 : 0 ≤ q) (hb : p[q.toNat]? = some b) : Yld P n S w0 ss l o (u8 b) := by
  intro a w F _
  obtain ⟨h1, h2⟩ := List.getElem?_eq_some_iff.1 hb
  have h3 : 0 ≤ q ∧ q < ((ByteArray.mk p.toArray).size : Int) := ⟨h0, by rw [size_mk]; omega⟩
  have h4 := run_index_string (P := P) w t (ByteArray.mk p.toArray) k q ht
  rw [dif_pos h3] at h4
  have h5 : (ByteArray.mk p.toArray)[q.toNat]'(by omega) = b := by
    show (p.toArray)[q.toNat]'_ = b
    simpa using h2
  rw [h5] at h4
  simp [execOp, ho, F.ev hx, F.ev hi, h4]
theorem y_sidx {x i : Operand} {t : TypeId} {p : List UInt8} {k : IntKind} {q : Int} (ho : o.op = .index t x i) (ht : P.underlying t = some .string) (hx : evO ss x = some (str p)) (hi : evO ss i = some (.int k q)) (h0 : 0 ≤ q) (h1 : q < p.length) : Yld P n S w0 ss l o (u8 (p.getD q.toNat 0)) :=
  y_sindex ho ht hx hi h0 (by
    have : q.toNat < p.length := by omega
    simp [List.getD_eq_getElem?_getD, List.getElem?_eq_getElem this])
theorem y_sslice {x : Operand} {t : TypeId} {p : List UInt8} {lo hi : Operand} {k k' : IntKind} {i j : Int} (ho : o.op = .slice t x (some lo) (some hi) none) (ht : P.underlying t = some .string) (hx : evO ss x = some (str p)) (hl : evO ss lo = some (.int k i)) (hh : evO ss hi = some (.int k' j)) (h0 : 0 ≤ i) (h1 : i ≤ j) (h2 : j ≤ p.length) : Yld P n S w0 ss l o (str ((p.drop i.toNat).take (j.toNat - i.toNat))) := by
  intro a w F _
  have h3 := run_slice_string (P := P) w t (ByteArray.mk p.toArray) k k' i j ht h0 h1 (by rw [size_mk]; exact h2)
  rw [ByteArray.extract_mk] at h3
  simp [execOp, ho, F.ev hx, F.ev hl, F.ev hh, Instr.sliceAt, run_underlying ht, h3]
theorem y_sslice_lo {x : Operand} {t : TypeId} {p : List UInt8} {lo : Operand} {k : IntKind} {i : Int} (ho : o.op = .slice t x (some lo) none none) (ht : P.underlying t = some .string) (hx : evO ss x = some (str p)) (hl : evO ss lo = some (.int k i)) (h0 : 0 ≤ i) (h1 : i ≤ p.length) : Yld P n S w0 ss l o (str (p.drop i.toNat)) := by
  intro a w F _
  have h3 := run_slice_string_from_if (P := P) w t (ByteArray.mk p.toArray) k i ht
  rw [if_pos ⟨h0, by rw [size_mk]; exact h1⟩, ByteArray.extract_mk, size_mk, List.take_of_length_le (by simp)] at h3
  simp [execOp, ho, F.ev hx, F.ev hl, Instr.sliceAt, run_underlying ht, h3]
end
end Go.Sx
