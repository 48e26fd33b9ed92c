/- What was said, as cells. -/
import Derived.Test.YtbadncpjbdfinaaDoorSxTw
import Derived.Test.YtbadncpjbdfinaaDoorSxV
import Derived.Test.YtbadncpjbdfinaaDoorSeal
namespace Go.Seal
open Go.Sx
structure Said where
  who : Int
  dom : Int
  body : List UInt8
  t : List UInt8
def cells (s : Said) : List Value := [i64 s.who, i64 s.dom, str s.body] ++ s.t.map u8
def Wf (s : Said) : Prop := (-9223372036854775808 ≤ s.who ∧ s.who ≤ 9223372036854775807) ∧ (-9223372036854775808 ≤ s.dom ∧ s.dom ≤ 9223372036854775807) ∧ s.body.length ≤ 140737488351232 ∧ s.t.length = 32
theorem cells_t {s : Said} (h : Wf s) : ((cells s).drop 3).take 32 = s.t.map u8 := by
  show (s.t.map u8).take 32 = _
  exact List.take_of_length_le (by rw [List.length_map, h.2.2.2]; omega)
def bitOf (b : UInt8) : UInt8 := UInt8.ofNat (2 ^ (b.toNat % 8))
def turned (t : List UInt8) (b : UInt8) : List UInt8 := t.set (b.toNat / 8) (t.getD (b.toNat / 8) 0 ^^^ bitOf b)
theorem quo8 (b : UInt8) : IntKind.u8.wrap (Int.tdiv (b.toNat : Int) 8) = ((b.toNat / 8 : Nat) : Int) := by
  have := b.toNat_lt
  rw [Int.tdiv_eq_ediv_of_nonneg (by omega), wu8 (by omega) (by omega)]
  omega
theorem rem8 (b : UInt8) : Int.tmod (b.toNat : Int) 8 = ((b.toNat % 8 : Nat) : Int) := by
  rw [Int.tmod_eq_emod_of_nonneg (by omega)]
  omega
theorem shl8 (b : UInt8) : IntKind.u8.wrap (1 * 2 ^ (min (((b.toNat % 8 : Nat) : Int).toNat) IntKind.u8.bits)) = ((bitOf b).toNat : Int) := by
  have e : min (((b.toNat % 8 : Nat) : Int).toNat) IntKind.u8.bits = b.toNat % 8 := by show min (((b.toNat % 8 : Nat) : Int).toNat) 8 = _; omega
  rw [e, Int.one_mul, wu8_mod, bitOf, UInt8.toNat_ofNat']
  have e2 : ((2 : Int) ^ (b.toNat % 8)) = ((2 ^ (b.toNat % 8) : Nat) : Int) := by rw [Int.natCast_pow]; rfl
  rw [e2]
  omega
theorem xor8 (x y : UInt8) : IntKind.u8.wrap ((BitVec.ofInt IntKind.u8.bits (x.toNat : Int) ^^^ BitVec.ofInt IntKind.u8.bits (y.toNat : Int)).toNat : Int) = ((x ^^^ y).toNat : Int) := by
  show IntKind.u8.wrap ((BitVec.ofInt 8 (x.toNat : Int) ^^^ BitVec.ofInt 8 (y.toNat : Int)).toNat : Int) = _
  have hx := x.toNat_lt
  have hy := y.toNat_lt
  rw [BitVec.ofInt_natCast, BitVec.ofInt_natCast, BitVec.toNat_xor, BitVec.toNat_ofNat, BitVec.toNat_ofNat, UInt8.toNat_xor, wu8_mod]
  rw [Nat.mod_eq_of_lt (show x.toNat < 2 ^ 8 by omega), Nat.mod_eq_of_lt (show y.toNat < 2 ^ 8 by omega)]
  have := Nat.xor_lt_two_pow (n := 8) (x := x.toNat) (y := y.toNat) (by omega) (by omega)
  omega
theorem bit_ne (b : UInt8) : bitOf b ≠ 0 := by
  intro h
  have h1 : (bitOf b).toNat = 0 := by rw [h]; rfl
  rw [bitOf, UInt8.toNat_ofNat'] at h1
  have h2 : b.toNat % 8 < 8 := by omega
  generalize b.toNat % 8 = k at h1 h2
  match k, h2 with
  | 0, _ => simp at h1
  | 1, _ => simp at h1
  | 2, _ => simp at h1
  | 3, _ => simp at h1
  | 4, _ => simp at h1
  | 5, _ => simp at h1
  | 6, _ => simp at h1
  | 7, _ => simp at h1
theorem turned_len (t : List UInt8) (b : UInt8) : (turned t b).length = t.length := by simp [turned]
theorem turned_ne {t : List UInt8} {b : UInt8} (h : t.length = 32) : t ≠ turned t b := by
  intro e
  have hb := b.toNat_lt
  have h1 : t.getD (b.toNat / 8) 0 = (turned t b).getD (b.toNat / 8) 0 := by rw [← e]
  rw [turned, List.getD_eq_getElem?_getD (l := t.set _ _), List.getElem?_set, if_pos rfl, if_pos (by omega)] at h1
  simp only [Option.getD_some] at h1
  have h2 : t.getD (b.toNat / 8) 0 ^^^ (t.getD (b.toNat / 8) 0) = t.getD (b.toNat / 8) 0 ^^^ (t.getD (b.toNat / 8) 0 ^^^ bitOf b) := by rw [← h1]
  rw [← UInt8.xor_assoc, UInt8.xor_self, UInt8.zero_xor] at h2
  exact bit_ne b h2.symm
theorem tag_zero {who dom : Int} {body : List UInt8} (h : (tag who dom body).2 ≠ 0) : (tag who dom body).1 = Z := by
  unfold tag at h ⊢
  split
  · rfl
  · split
    · rfl
    · rename_i h1 h2
      rw [if_neg h1, if_neg h2] at h
      exact absurd rfl h
end Go.Seal
