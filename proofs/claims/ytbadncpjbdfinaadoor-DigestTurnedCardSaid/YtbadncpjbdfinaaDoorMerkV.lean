/- A case of a proof, as cells; a bit that is turned. -/
import Derived.Test.YtbadncpjbdfinaaDoorSxTw
import Derived.Test.YtbadncpjbdfinaaDoorSxZ
import Derived.Test.YtbadncpjbdfinaaDoorSealV
namespace Go.Merk
open Go.Sx
structure Case where
  root : List UInt8
  n : Int
  i : Int
  s : List UInt8
  A : Option Addr
  p : List (List UInt8)
  c : Nat
def cells (x : Case) : List Value := x.root.map u8 ++ [i64 x.n, i64 x.i, str x.s, .slice x.A x.p.length x.c]
def Wf (W : World) (x : Case) : Prop := x.root.length = 32 ∧ (-9223372036854775808 ≤ x.n ∧ x.n ≤ 9223372036854775807) ∧ (-9223372036854775808 ≤ x.i ∧ x.i ≤ 9223372036854775807) ∧ x.s.length ≤ 140737488351232 ∧ (x.p.length ≤ x.c ∧ x.p.length ≤ 9223372036854775807 ∧ H32 x.p ∧ Rd W x.A (hc x.p))
theorem cells_root {W : World} {x : Case} (h : Wf W x) : ((cells x).drop 0).take 32 = x.root.map u8 := by
  rw [List.drop_zero, cells, List.take_left' (by rw [List.length_map, h.1])]
theorem cells_at {W : World} {x : Case} (h : Wf W x) (k : Nat) : (cells x)[32 + k]? = [i64 x.n, i64 x.i, str x.s, .slice x.A x.p.length x.c][k]? := by
  rw [cells, List.getElem?_append_right (by rw [List.length_map, h.1]; omega), List.length_map, h.1, Nat.add_sub_cancel_left]
/-- A bit's place: which byte, which of its bits. -/
def ub (b : Int) : Nat := (b % 18446744073709551616).toNat
def flip (t : List UInt8) (b : Int) : List UInt8 := t.set (ub b / 8 % 32) (t.getD (ub b / 8 % 32) 0 ^^^ Seal.bitOf (UInt8.ofNat (ub b % 8)))
theorem flip_len (t : List UInt8) (b : Int) : (flip t b).length = t.length := by simp [flip]
theorem flip_ne {t : List UInt8} {b : Int} (h : t.length = 32) : t ≠ flip t b := by
  intro e
  generalize hk : ub b / 8 % 32 = k at *
  have hk32 : k < 32 := by omega
  have h1 : t.getD k 0 = (flip t b).getD k 0 := by rw [← e]
  rw [flip, hk, List.getD_eq_getElem?_getD (l := t.set _ _), List.getElem?_set, if_pos rfl, if_pos (by omega)] at h1
  simp only [Option.getD_some] at h1
  have h2 : t.getD k 0 ^^^ (t.getD k 0) = t.getD k 0 ^^^ (t.getD k 0 ^^^ Seal.bitOf (UInt8.ofNat (ub b % 8))) := by rw [← h1]
  rw [← UInt8.xor_assoc, UInt8.xor_self, UInt8.zero_xor] at h2
  exact Seal.bit_ne _ h2.symm
theorem ub_conv (b : Int) : IntKind.u64.wrap b = ((ub b : Nat) : Int) := by
  have : IntKind.u64.wrap b = b % 18446744073709551616 := by simp [IntKind.wrap, IntKind.bits, IntKind.signed]
  rw [this, ub]
  omega
theorem ub_lt (b : Int) : ub b < 18446744073709551616 := by unfold ub; omega
theorem ub_quo (b : Int) : IntKind.u64.wrap (Int.tdiv ((ub b : Nat) : Int) 8) = ((ub b / 8 : Nat) : Int) := by
  have := ub_lt b
  rw [Int.tdiv_eq_ediv_of_nonneg (by omega), wu64 (by omega) (by omega)]
  omega
theorem ub_rem (m k : Nat) : Int.tmod ((m : Nat) : Int) (k : Int) = ((m % k : Nat) : Int) := by
  rw [Int.tmod_eq_emod_of_nonneg (by omega)]
  rfl
theorem ub_shl (m : Nat) : IntKind.u8.wrap (1 * 2 ^ (min (((m % 8 : Nat) : Int).toNat) IntKind.u8.bits)) = ((Seal.bitOf (UInt8.ofNat (m % 8))).toNat : Int) := by
  have h := Seal.shl8 (UInt8.ofNat (m % 8))
  have e : (UInt8.ofNat (m % 8)).toNat % 8 = m % 8 := by rw [UInt8.toNat_ofNat']; omega
  rw [e] at h
  exact h
end Go.Merk
