/- Part of a proof about given Go functions: contracts of functions, or plain laws. -/
import Derived.Test.YtbadncpjbdfinaaDoorSxG
import Derived.Test.YtbadncpjbdfinaaDoorOct
import Derived.Test.YtbadncpjbdfinaaDoorProg
set_option linter.unusedVariables false
set_option linter.unusedSimpArgs false
namespace Go.Proofs.YtbadncpjbdfinaaDoor.D_Num
open Go.Sx Go.RowKit

theorem z_zero75 : zeroL Tryd.prog 75 = some ([.int .u8 0, .int .u8 0, .int .u8 0, .int .u8 0, .int .u8 0, .int .u8 0, .int .u8 0, .int .u8 0, .int .u8 0]) := by kernel_rfl
theorem z_size5 : sizeB Tryd.prog 5 = some 1 := by kernel_rfl

theorem set_lows (m j : Nat) (hj : j ≤ 7) : (List.replicate (9 - j) (Value.int .u8 0) ++ (Oct.lows j m).map u8).set (0 + (9 - (j : Int) - 1).toNat * 1) (u8 (UInt8.ofNat (m / 256 ^ j))) = List.replicate (9 - (j + 1)) (.int .u8 0) ++ (Oct.lows (j + 1) m).map u8 := by
  have e1 : 0 + (9 - (j : Int) - 1).toNat * 1 = 8 - j := by omega
  have e2 : 9 - j = (8 - j) + 1 := by omega
  have e3 : 9 - (j + 1) = 8 - j := by omega
  rw [e1, e2, e3, List.replicate_succ', List.append_assoc, List.set_append_right _ _ (by simp)]
  simp [Oct.lows]
theorem shr8 (m j : Nat) : Int.fdiv ((m / 256 ^ j : Nat) : Int) (2 ^ (min (Int.toNat 8) IntKind.i64.bits)) = ((m / 256 ^ (j + 1) : Nat) : Int) := by
  have e : (2 : Int) ^ (min (Int.toNat 8) IntKind.i64.bits) = ((256 : Nat) : Int) := by decide
  rw [e, ← Oct.div_pow_succ, Int.fdiv_eq_ediv_of_nonneg _ (by omega)]
  rfl
theorem drop_lows (m j : Nat) (hj : j ≤ 8) (hb : Oct.blen m = j) : ((List.replicate (9 - j) (Value.int .u8 0) ++ (Oct.lows j m).map u8).set (0 + (9 - (j : Int) - 1).toNat * 1) (u8 (UInt8.ofNat j))).drop (8 - j) = (Oct.numL m).map u8 := by
  have e1 : 0 + (9 - (j : Int) - 1).toNat * 1 = 8 - j := by omega
  have e2 : 9 - j = (8 - j) + 1 := by omega
  rw [e1, e2, List.replicate_succ', List.append_assoc, List.set_append_right _ _ (by simp)]
  simp [Oct.numL, hb]
theorem conv_rem' (x : Nat) : IntKind.u8.wrap (Int.tmod (x : Int) 256) = ((UInt8.ofNat x).toNat : Int) := by
  rw [Int.tmod_eq_emod_of_nonneg (by omega), wu8_mod, UInt8.toNat_ofNat']
  omega
theorem conv_rem (m j : Nat) : IntKind.u8.wrap (Int.tmod ((m / 256 ^ j : Nat) : Int) 256) = ((UInt8.ofNat (m / 256 ^ j)).toNat : Int) := conv_rem' _
theorem quo8' (x m : Nat) (h1 : x ≤ m) (hm : m ≤ 9223372036854775807) : IntKind.i64.wrap (Int.tdiv (x : Int) 256) = ((x / 256 : Nat) : Int) := by
  rw [Int.tdiv_eq_ediv_of_nonneg (by omega), w64 (by omega) (by omega)]
  omega
theorem quo8 (m j : Nat) (hm : m ≤ 9223372036854775807 := by omega) : IntKind.i64.wrap (Int.tdiv ((m / 256 ^ j : Nat) : Int) 256) = ((m / 256 ^ (j + 1) : Nat) : Int) := by
  rw [← Oct.div_pow_succ]
  exact quo8' _ m (Nat.div_le_self _ _) hm
theorem shl8 (x : Nat) (h : x * 256 ≤ 9223372036854775807) : IntKind.i64.wrap ((x : Int) * 2 ^ (min (Int.toNat 8) IntKind.i64.bits)) = ((x * 256 : Nat) : Int) := by
  have e : (2 : Int) ^ (min (Int.toNat 8) IntKind.i64.bits) = 256 := by decide
  rw [e, w64 (by omega) (by omega)]
  omega
theorem or8 (x : Nat) (b : UInt8) (h : x * 256 + b.toNat ≤ 9223372036854775807) : IntKind.i64.wrap ((BitVec.ofInt IntKind.i64.bits ((x * 256 : Nat) : Int) ||| BitVec.ofInt IntKind.i64.bits (b.toNat : Int)).toNat : Int) = ((x * 256 + b.toNat : Nat) : Int) := by
  have hb := b.toNat_lt
  have e1 : (BitVec.ofInt IntKind.i64.bits ((x * 256 : Nat) : Int)).toNat = x * 256 := by
    show (BitVec.ofInt 64 ((x * 256 : Nat) : Int)).toNat = x * 256
    rw [BitVec.ofInt_natCast, BitVec.toNat_ofNat]
    exact Nat.mod_eq_of_lt (by omega)
  have e2 : (BitVec.ofInt IntKind.i64.bits (b.toNat : Int)).toNat = b.toNat := by
    show (BitVec.ofInt 64 (b.toNat : Int)).toNat = b.toNat
    rw [BitVec.ofInt_natCast, BitVec.toNat_ofNat]
    exact Nat.mod_eq_of_lt (by omega)
  rw [BitVec.toNat_or, e1, e2]
  have e3 : x * 256 ||| b.toNat = x * 256 + b.toNat := by
    have := Nat.shiftLeft_add_eq_or_of_lt (b := b.toNat) (i := 8) (by omega) x
    have e0 : (2 : Nat) ^ 8 = 256 := by decide
    rw [Nat.shiftLeft_eq, e0] at this
    exact this.symm
  rw [e3]
  exact w64 (by omega) (by omega)
theorem made_u8 (m : Nat) : (madeCells #[Value.int .u8 0] (m * 1)).toList = List.replicate m (.int .u8 0) := by rw [Nat.mul_one, toList_madeCells_one]
theorem spl_join (l : List (List UInt8)) (k : Nat) (hk : k < l.length) : spl ((Oct.tf l k).map u8 ++ List.replicate (l.flatten.length - (Oct.tf l k).length) (Value.int .u8 0)) (Oct.tf l k).length ((l.getD k []).map u8) = (Oct.tf l (k + 1)).map u8 ++ List.replicate (l.flatten.length - (Oct.tf l (k + 1)).length) (Value.int .u8 0) := by
  have h := Oct.len_le_flatten hk
  rw [Oct.tf_succ hk]
  unfold spl
  rw [List.take_left' (by simp), List.drop_append, List.drop_eq_nil_of_le (by simp), List.nil_append]
  simp only [List.map_append, List.append_assoc, List.length_append, List.length_map, List.drop_replicate]
  congr 3
  omega

set_option maxRecDepth 100000 in
set_option maxHeartbeats 1000000 in
theorem num (n : Int) (hn : n ≤ 9223372036854775807) (w : World) : Calls Tryd.prog 33 #[.int .i64 n] w (Gives (.tuple #[str (Oct.number n).1, .int .i64 (Oct.number n).2]) [] w) := by
  refine enterL (args := [.int .i64 n]) Tryd.func33 rfl rfl (l := []) (Sep.refl _) ?_
  intro a0 H0
  refine wp_seq ?_
  refine reg ?_
  refine plain (y_assign rfl rfl) rfl rfl rfl H0 ?_
  clear H0; intro a1 H1
  refine plain (y_assign rfl rfl) rfl rfl rfl H1 ?_
  clear H1; intro a2 H2
  refine fin ?_
  refine then_n ?_
  refine wp_seq ?_
  refine wp_seq ?_
  refine reg ?_
  refine plain (y_move rfl rfl) rfl rfl rfl H2 ?_
  clear H2; intro a3 H3
  refine plain (y_lss rfl rfl rfl) rfl rfl rfl H3 ?_
  clear H3; intro a4 H4
  refine fin ?_
  refine then_n ?_
  refine cnd_d H4 rfl (fun hc5 => ?_) (fun hc5 => ?_) -- cond 1
  · skip
    refine wp_seq ?_
    refine reg ?_
    refine plain (y_assign rfl rfl) rfl rfl rfl H4 ?_
    clear H4; intro a6 H6
    refine plain (y_assign rfl rfl) rfl rfl rfl H6 ?_
    clear H6; intro a7 H7
    refine fin ?_
    refine then_n ?_
    refine wp_ret ?_
    refine then_r ?_
    -- return 1
    refine ret2 rfl H7 rfl rfl ?_
    exact ⟨_, [], rfl, ⟨by simp [Oct.number, *], rfl⟩, H7.sep.sub (List.nil_sublist _)⟩
  · skip
    obtain ⟨m, rfl⟩ := Int.eq_ofNat_of_zero_le (Int.not_lt.1 hc5)
    refine wp_skip ?_
    refine then_n ?_
    refine wp_seq ?_
    refine reg ?_
    refine st_alloc rfl z_zero75 rfl rfl rfl H4 ?_
    clear H4; intro b8 a8 w8 H8
    refine fin ?_
    refine then_n ?_
    refine wp_seq ?_
    refine reg ?_
    refine plain (y_assign rfl rfl) rfl rfl rfl H8 ?_
    clear H8; intro a9 H9
    refine fin ?_
    refine then_n ?_
    refine wp_seq ?_
    refine wp_block ?_
    refine loop (ι := Nat) (fun j => [(0, .int .i64 ((m / 256 ^ j : Nat) : Int)), (4, .pointer (some ⟨b8, 0, none⟩)), (5, .int .i64 (9 - (j : Int)))]) (fun j => [It.blk b8 75 (List.replicate (9 - j) (.int .u8 0) ++ (Oct.lows j m).map u8)]) (fun j => j ≤ 8 ∧ (j = 0 ∨ 256 ^ (j - 1) ≤ m)) (fun j => 9 - j) (0) ⟨by omega, .inl rfl⟩ (H9.weak ⟨fi rfl (by simp), rfl, rfl, trivial⟩ rfl) ?_
    clear H9; intro j a10 w10 hok10 H10
    have hok := hok10
    refine wp_seq ?_
    refine wp_seq ?_
    refine reg ?_
    refine plain (y_move rfl rfl) rfl rfl rfl H10 ?_
    clear H10; intro a11 H11
    refine plain (y_gtr rfl rfl rfl) rfl rfl rfl H11 ?_
    clear H11; intro a12 H12
    refine fin ?_
    refine then_n ?_
    refine cnd_d H12 rfl (fun hc13 => ?_) (fun hc13 => ?_) -- cond 2
    · skip
      obtain ⟨hj, hle⟩ := Oct.round_pos' (m := m) (j := j) (by omega) hc13
      refine wp_skip ?_
      refine then_n ?_
      refine wp_seq ?_
      refine wp_block ?_
      refine wp_seq ?_
      refine reg ?_
      refine plain (y_move rfl rfl) rfl rfl rfl H12 ?_
      clear H12; intro a14 H14
      refine plain (y_sub rfl rfl rfl (by first | exact w64 (by omega) (by omega) | rfl)) rfl rfl rfl H14 ?_
      clear H14; intro a15 H15
      refine plain (y_assign rfl rfl) rfl rfl rfl H15 ?_
      clear H15; intro a16 H16
      refine fin ?_
      refine then_n ?_
      refine reg ?_
      refine plain (y_move rfl rfl) rfl rfl rfl H16 ?_
      clear H16; intro a17 H17
      refine plain (y_move rfl rfl) rfl rfl rfl H17 ?_
      clear H17; intro a18 H18
      refine plain (y_conv rfl Tryd.underlying3 Tryd.underlying5 rfl (wu8_nat _)) rfl rfl rfl H18 ?_
      clear H18; intro a19 H19
      refine plain (y_ixA rfl Tryd.underlying75 z_size5 rfl rfl (by omega) (by omega) rfl) rfl rfl rfl H19 ?_
      clear H19; intro a20 H20
      refine st_store1 rfl z_size5 rfl rfl rfl (by repeat (first | exact Upd.head _ _ _ | apply Upd.tail)) (by first | decide | (simp; omega)) rfl rfl H20 ?_
      clear H20; intro w21 H21
      refine fin ?_
      refine inb_n ?_
      refine then_n ?_
      refine reg ?_
      refine plain (y_move rfl rfl) rfl rfl rfl H21 ?_
      clear H21; intro a22 H22
      refine plain (y_shr rfl rfl rfl (by decide) (shr8 m j)) rfl rfl rfl H22 ?_
      clear H22; intro a23 H23
      refine plain (y_assign rfl rfl) rfl rfl rfl H23 ?_
      clear H23; intro a24 H24
      refine fin ?_
      refine then_n ?_
      refine ⟨j + 1, by omega, ⟨by omega, .inr (by simpa using hle)⟩, H24.weak ⟨rfl, rfl, fi rfl (by omega), trivial⟩ (ib (set_lows m j hj))⟩
    · skip
      have hb : Oct.blen m = j := Oct.round_zero' hc13 hok.2
      refine wp_exit ?_
      refine then_x ?_
      refine then_x ?_
      refine inb_hit ?_
      refine then_n ?_
      refine wp_seq ?_
      refine reg ?_
      refine plain (y_move rfl rfl) rfl rfl rfl H12 ?_
      clear H12; intro a25 H25
      refine plain (y_sub rfl rfl rfl (by first | exact w64 (by omega) (by omega) | rfl)) rfl rfl rfl H25 ?_
      clear H25; intro a26 H26
      refine plain (y_move rfl rfl) rfl rfl rfl H26 ?_
      clear H26; intro a27 H27
      refine plain (y_sub rfl rfl rfl (by first | exact w64 (by omega) (by omega) | rfl)) rfl rfl rfl H27 ?_
      clear H27; intro a28 H28
      refine plain (y_conv rfl Tryd.underlying3 Tryd.underlying5 rfl (wu8_eq (x := j) (by omega))) rfl rfl rfl H28 ?_
      clear H28; intro a29 H29
      refine plain (y_ixA rfl Tryd.underlying75 z_size5 rfl rfl (by omega) (by omega) rfl) rfl rfl rfl H29 ?_
      clear H29; intro a30 H30
      refine st_store1 rfl z_size5 rfl rfl rfl (by repeat (first | exact Upd.head _ _ _ | apply Upd.tail)) (by first | decide | (simp; omega)) rfl rfl H30 ?_
      clear H30; intro w31 H31
      refine fin ?_
      refine then_n ?_
      refine wp_seq ?_
      refine reg ?_
      refine plain (y_move rfl rfl) rfl rfl rfl H31 ?_
      clear H31; intro a32 H32
      refine plain (y_sub rfl rfl rfl (by first | exact w64 (by omega) (by omega) | rfl)) rfl rfl rfl H32 ?_
      clear H32; intro a33 H33
      refine plain (y_slA rfl Tryd.underlying75 z_size5 rfl rfl (by omega) (by omega)) rfl rfl rfl H33 ?_
      clear H33; intro a34 H34
      refine plain (y_bstr rfl Tryd.underlying44 Tryd.underlying5 Tryd.underlying9 rfl (by simp [Oct.lows_length, Oct.numL, hb]; omega) (rd_slA (by repeat (first | exact List.Mem.head _ | apply List.Mem.tail)) (q := 8 - j) (by simp [Oct.lows_length]; omega) (by omega) (drop_lows m j hok.1 hb))) rfl rfl rfl H34 ?_
      clear H34; intro a35 H35
      refine plain (y_assign rfl rfl) rfl rfl rfl H35 ?_
      clear H35; intro a36 H36
      refine plain (y_assign rfl rfl) rfl rfl rfl H36 ?_
      clear H36; intro a37 H37
      refine fin ?_
      refine then_n ?_
      refine wp_ret ?_
      -- return 2
      refine ret2 rfl H37 rfl rfl ?_
      exact ⟨_, [], rfl, ⟨by simp [Oct.number, show ¬ ((m : Int) < 0) by omega], rfl⟩, H37.sep.sub (List.nil_sublist _)⟩

end Go.Proofs.YtbadncpjbdfinaaDoor.D_Num
