/- Part of a proof about given Go functions: contracts of functions, or plain laws. -/
import Derived.Test.YtlaojmcpiggfeaaSxG
import Derived.Test.YtlaojmcpiggfeaaOct
import Derived.Test.YtlaojmcpiggfeaaProg
set_option linter.unusedVariables false
set_option linter.unusedSimpArgs false
namespace Go.Proofs.Ytlaojmcpiggfeaa.TNum
open Go.Sx Go.RowKit

theorem z_zero63 : zeroL Try.prog 63 = some ([.int .u8 0, .int .u8 0, .int .u8 0, .int .u8 0, .int .u8 0, .int .u8 0, .int .u8 0, .int .u8 0, .int .u8 0]) := by kernel_rfl
theorem z_size5 : sizeB Try.prog 5 = some 1 := by kernel_rfl
theorem z_zero5 : zeroL Try.prog 5 = some ([.int .u8 0]) := by kernel_rfl
theorem z_size9 : sizeB Try.prog 9 = some 1 := by kernel_rfl
theorem z_agg9 : aggB Try.prog 9 = some false := by kernel_rfl
theorem z_slice65 : sliceB Try.prog 65 = some (5, 1, 1) := by kernel_rfl
theorem z_zval5 : (Try.prog.info? 5).bind (·.zero) = some (.int .u8 0) := by kernel_rfl
theorem z_call14 : callB Try.prog 14 = true := by kernel_rfl
theorem z_zero9 : zeroL Try.prog 9 = some ([.string ⟨#[]⟩]) := by kernel_rfl
theorem z_call42 : callB Try.prog 42 = true := by kernel_rfl
theorem z_call15 : callB Try.prog 15 = true := by kernel_rfl
theorem z_call16 : callB Try.prog 16 = true := by kernel_rfl
theorem z_slice49 : sliceB Try.prog 49 = some (9, 1, 16) := by kernel_rfl
theorem z_notint49 : notIntB Try.prog 49 = true := by kernel_rfl
theorem z_call17 : callB Try.prog 17 = true := by kernel_rfl
theorem z_notint9 : notIntB Try.prog 9 = true := by kernel_rfl

theorem set_lows (m j : Nat) (hj : j ≤ 7) : (List.replicate (9 - j) (Value.int .u8 0) ++ (Oct.lows j m).map u8).set (0 + (9 - (j : Int) - 1).toNat * 1) (u8 (UInt8.ofNat (m / 256 ^ j))) = List.replicate (9 - (j + 1)) (.int .u8 0) ++ (Oct.lows (j + 1) m).map u8 := by
  have e1 : 0 + (9 - (j : Int) - 1).toNat * 1 = 8 - j := by omega
  have e2 : 9 - j = (8 - j) + 1 := by omega
  have e3 : 9 - (j + 1) = 8 - j := by omega
  rw [e1, e2, e3, List.replicate_succ', List.append_assoc, List.set_append_right _ _ (by simp)]
  simp [Oct.lows]
theorem shr8 (m j : Nat) : Int.fdiv ((m / 256 ^ j : Nat) : Int) (2 ^ (min (Int.toNat 8) IntKind.i64.bits)) = ((m / 256 ^ (j + 1) : Nat) : Int) := by
  have e : (2 : Int) ^ (min (Int.toNat 8) IntKind.i64.bits) = ((256 : Nat) : Int) := by decide
  rw [e, ← Oct.div_pow_succ, Int.fdiv_eq_ediv_of_nonneg _ (by omega)]
  rfl
theorem drop_lows (m j : Nat) (hj : j ≤ 8) (hb : Oct.blen m = j) : ((List.replicate (9 - j) (Value.int .u8 0) ++ (Oct.lows j m).map u8).set (0 + (9 - (j : Int) - 1).toNat * 1) (u8 (UInt8.ofNat j))).drop (8 - j) = (Oct.numL m).map u8 := by
  have e1 : 0 + (9 - (j : Int) - 1).toNat * 1 = 8 - j := by omega
  have e2 : 9 - j = (8 - j) + 1 := by omega
  rw [e1, e2, List.replicate_succ', List.append_assoc, List.set_append_right _ _ (by simp)]
  simp [Oct.numL, hb]
theorem conv_rem' (x : Nat) : IntKind.u8.wrap (Int.tmod (x : Int) 256) = ((UInt8.ofNat x).toNat : Int) := by
  rw [Int.tmod_eq_emod_of_nonneg (by omega), wu8_mod, UInt8.toNat_ofNat']
  omega
theorem conv_rem (m j : Nat) : IntKind.u8.wrap (Int.tmod ((m / 256 ^ j : Nat) : Int) 256) = ((UInt8.ofNat (m / 256 ^ j)).toNat : Int) := conv_rem' _
theorem quo8' (x m : Nat) (h1 : x ≤ m) (hm : m ≤ 9223372036854775807) : IntKind.i64.wrap (Int.tdiv (x : Int) 256) = ((x / 256 : Nat) : Int) := by
  rw [Int.tdiv_eq_ediv_of_nonneg (by omega), w64 (by omega) (by omega)]
  omega
theorem quo8 (m j : Nat) (hm : m ≤ 9223372036854775807 := by omega) : IntKind.i64.wrap (Int.tdiv ((m / 256 ^ j : Nat) : Int) 256) = ((m / 256 ^ (j + 1) : Nat) : Int) := by
  rw [← Oct.div_pow_succ]
  exact quo8' _ m (Nat.div_le_self _ _) hm
theorem shl8 (x : Nat) (h : x * 256 ≤ 9223372036854775807) : IntKind.i64.wrap ((x : Int) * 2 ^ (min (Int.toNat 8) IntKind.i64.bits)) = ((x * 256 : Nat) : Int) := by
  have e : (2 : Int) ^ (min (Int.toNat 8) IntKind.i64.bits) = 256 := by decide
  rw [e, w64 (by omega) (by omega)]
  omega
theorem or8 (x : Nat) (b : UInt8) (h : x * 256 + b.toNat ≤ 9223372036854775807) : IntKind.i64.wrap ((BitVec.ofInt IntKind.i64.bits ((x * 256 : Nat) : Int) ||| BitVec.ofInt IntKind.i64.bits (b.toNat : Int)).toNat : Int) = ((x * 256 + b.toNat : Nat) : Int) := by
  have hb := b.toNat_lt
  have e1 : (BitVec.ofInt IntKind.i64.bits ((x * 256 : Nat) : Int)).toNat = x * 256 := by
    show (BitVec.ofInt 64 ((x * 256 : Nat) : Int)).toNat = x * 256
    rw [BitVec.ofInt_natCast, BitVec.toNat_ofNat]
    exact Nat.mod_eq_of_lt (by omega)
  have e2 : (BitVec.ofInt IntKind.i64.bits (b.toNat : Int)).toNat = b.toNat := by
    show (BitVec.ofInt 64 (b.toNat : Int)).toNat = b.toNat
    rw [BitVec.ofInt_natCast, BitVec.toNat_ofNat]
    exact Nat.mod_eq_of_lt (by omega)
  rw [BitVec.toNat_or, e1, e2]
  have e3 : x * 256 ||| b.toNat = x * 256 + b.toNat := by
    have := Nat.shiftLeft_add_eq_or_of_lt (b := b.toNat) (i := 8) (by omega) x
    have e0 : (2 : Nat) ^ 8 = 256 := by decide
    rw [Nat.shiftLeft_eq, e0] at this
    exact this.symm
  rw [e3]
  exact w64 (by omega) (by omega)
theorem made_u8 (m : Nat) : (madeCells #[Value.int .u8 0] (m * 1)).toList = List.replicate m (.int .u8 0) := by rw [Nat.mul_one, toList_madeCells_one]
theorem spl_join (l : List (List UInt8)) (k : Nat) (hk : k < l.length) : spl ((Oct.tf l k).map u8 ++ List.replicate (l.flatten.length - (Oct.tf l k).length) (Value.int .u8 0)) (Oct.tf l k).length ((l.getD k []).map u8) = (Oct.tf l (k + 1)).map u8 ++ List.replicate (l.flatten.length - (Oct.tf l (k + 1)).length) (Value.int .u8 0) := by
  have h := Oct.len_le_flatten hk
  rw [Oct.tf_succ hk]
  unfold spl
  rw [List.take_left' (by simp), List.drop_append, List.drop_eq_nil_of_le (by simp), List.nil_append]
  simp only [List.map_append, List.append_assoc, List.length_append, List.length_map, List.drop_replicate]
  congr 3
  omega

set_option maxRecDepth 100000 in
set_option maxHeartbeats 1000000 in
theorem num (n : Int) (hn : n ≤ 9223372036854775807) (w : World) : Calls Try.prog 14 #[.int .i64 n] w (Gives (.tuple #[str (Oct.number n).1, .int .i64 (Oct.number n).2]) [] w) := by
  refine enterL (args := [.int .i64 n]) Try.func14 rfl rfl (l := []) (Sep.refl _) ?_
  intro a0 H0
  refine wp_seq ?_
  refine reg ?_
  refine plain (y_assign rfl rfl) rfl rfl rfl H0 ?_
  clear H0; intro a1 H1
  refine plain (y_assign rfl rfl) rfl rfl rfl H1 ?_
  clear H1; intro a2 H2
  refine fin ?_
  refine then_n ?_
  refine wp_seq ?_
  refine wp_seq ?_
  refine reg ?_
  refine plain (y_move rfl rfl) rfl rfl rfl H2 ?_
  clear H2; intro a3 H3
  refine plain (y_lss rfl rfl rfl) rfl rfl rfl H3 ?_
  clear H3; intro a4 H4
  refine fin ?_
  refine then_n ?_
  refine cnd_d H4 rfl (fun hc5 => ?_) (fun hc5 => ?_)
  · skip
    refine wp_seq ?_
    refine reg ?_
    refine plain (y_assign rfl rfl) rfl rfl rfl H4 ?_
    clear H4; intro a6 H6
    refine plain (y_assign rfl rfl) rfl rfl rfl H6 ?_
    clear H6; intro a7 H7
    refine fin ?_
    refine then_n ?_
    refine wp_ret ?_
    refine then_r ?_
    -- return 1
    refine ret2 rfl H7 rfl rfl ?_
    exact ⟨_, [], rfl, ⟨by simp [Oct.number, *], rfl⟩, H7.sep.sub (List.nil_sublist _)⟩
  · skip
    obtain ⟨m, rfl⟩ := Int.eq_ofNat_of_zero_le (Int.not_lt.1 hc5)
    refine wp_skip ?_
    refine then_n ?_
    refine wp_seq ?_
    refine reg ?_
    refine st_alloc rfl z_zero63 rfl rfl rfl H4 ?_
    clear H4; intro b8 a8 w8 H8
    refine fin ?_
    refine then_n ?_
    refine wp_seq ?_
    refine reg ?_
    refine plain (y_assign rfl rfl) rfl rfl rfl H8 ?_
    clear H8; intro a9 H9
    refine fin ?_
    refine then_n ?_
    refine wp_seq ?_
    refine wp_block ?_
    refine loop (ι := Nat) (fun j => [(0, .int .i64 ((m / 256 ^ j : Nat) : Int)), (4, .pointer (some ⟨b8, 0, none⟩)), (5, .int .i64 (9 - (j : Int)))]) (fun j => [It.blk b8 63 (List.replicate (9 - j) (.int .u8 0) ++ (Oct.lows j m).map u8)]) (fun j => j ≤ 8 ∧ (j = 0 ∨ 256 ^ (j - 1) ≤ m)) (fun j => 9 - j) (0) ⟨by omega, .inl rfl⟩ (H9.weak ⟨fi rfl (by simp), rfl, rfl, trivial⟩ rfl) ?_
    clear H9; intro j a10 w10 hok10 H10
    have hok := hok10
    refine wp_seq ?_
    refine wp_seq ?_
    refine reg ?_
    refine plain (y_move rfl rfl) rfl rfl rfl H10 ?_
    clear H10; intro a11 H11
    refine plain (y_gtr rfl rfl rfl) rfl rfl rfl H11 ?_
    clear H11; intro a12 H12
    refine fin ?_
    refine then_n ?_
    refine cnd_d H12 rfl (fun hc13 => ?_) (fun hc13 => ?_)
    · skip
      obtain ⟨hj, hle⟩ := Oct.round_pos' (m := m) (j := j) (by omega) hc13
      refine wp_skip ?_
      refine then_n ?_
      refine wp_seq ?_
      refine wp_block ?_
      refine wp_seq ?_
      refine reg ?_
      refine plain (y_move rfl rfl) rfl rfl rfl H12 ?_
      clear H12; intro a14 H14
      refine plain (y_sub rfl rfl rfl (by first | exact w64 (by omega) (by omega) | rfl)) rfl rfl rfl H14 ?_
      clear H14; intro a15 H15
      refine plain (y_assign rfl rfl) rfl rfl rfl H15 ?_
      clear H15; intro a16 H16
      refine fin ?_
      refine then_n ?_
      refine reg ?_
      refine plain (y_move rfl rfl) rfl rfl rfl H16 ?_
      clear H16; intro a17 H17
      refine plain (y_move rfl rfl) rfl rfl rfl H17 ?_
      clear H17; intro a18 H18
      refine plain (y_conv rfl Try.underlying3 Try.underlying5 rfl (wu8_nat _)) rfl rfl rfl H18 ?_
      clear H18; intro a19 H19
      refine plain (y_ixA rfl Try.underlying63 z_size5 rfl rfl (by omega) (by omega) rfl) rfl rfl rfl H19 ?_
      clear H19; intro a20 H20
      refine st_store1 rfl z_size5 rfl rfl rfl (by repeat (first | exact Upd.head _ _ _ | apply Upd.tail)) (by first | decide | (simp; omega)) rfl rfl H20 ?_
      clear H20; intro w21 H21
      refine fin ?_
      refine inb_n ?_
      refine then_n ?_
      refine reg ?_
      refine plain (y_move rfl rfl) rfl rfl rfl H21 ?_
      clear H21; intro a22 H22
      refine plain (y_shr rfl rfl rfl (by decide) (shr8 m j)) rfl rfl rfl H22 ?_
      clear H22; intro a23 H23
      refine plain (y_assign rfl rfl) rfl rfl rfl H23 ?_
      clear H23; intro a24 H24
      refine fin ?_
      refine then_n ?_
      refine ⟨j + 1, by omega, ⟨by omega, .inr (by simpa using hle)⟩, H24.weak ⟨rfl, rfl, fi rfl (by omega), trivial⟩ (ib (set_lows m j hj))⟩
    · skip
      have hb : Oct.blen m = j := Oct.round_zero' hc13 hok.2
      refine wp_exit ?_
      refine then_x ?_
      refine then_x ?_
      refine inb_hit ?_
      refine then_n ?_
      refine wp_seq ?_
      refine reg ?_
      refine plain (y_move rfl rfl) rfl rfl rfl H12 ?_
      clear H12; intro a25 H25
      refine plain (y_sub rfl rfl rfl (by first | exact w64 (by omega) (by omega) | rfl)) rfl rfl rfl H25 ?_
      clear H25; intro a26 H26
      refine plain (y_move rfl rfl) rfl rfl rfl H26 ?_
      clear H26; intro a27 H27
      refine plain (y_sub rfl rfl rfl (by first | exact w64 (by omega) (by omega) | rfl)) rfl rfl rfl H27 ?_
      clear H27; intro a28 H28
      refine plain (y_conv rfl Try.underlying3 Try.underlying5 rfl (wu8_eq (x := j) (by omega))) rfl rfl rfl H28 ?_
      clear H28; intro a29 H29
      refine plain (y_ixA rfl Try.underlying63 z_size5 rfl rfl (by omega) (by omega) rfl) rfl rfl rfl H29 ?_
      clear H29; intro a30 H30
      refine st_store1 rfl z_size5 rfl rfl rfl (by repeat (first | exact Upd.head _ _ _ | apply Upd.tail)) (by first | decide | (simp; omega)) rfl rfl H30 ?_
      clear H30; intro w31 H31
      refine fin ?_
      refine then_n ?_
      refine wp_seq ?_
      refine reg ?_
      refine plain (y_move rfl rfl) rfl rfl rfl H31 ?_
      clear H31; intro a32 H32
      refine plain (y_sub rfl rfl rfl (by first | exact w64 (by omega) (by omega) | rfl)) rfl rfl rfl H32 ?_
      clear H32; intro a33 H33
      refine plain (y_slA rfl Try.underlying63 z_size5 rfl rfl (by omega) (by omega)) rfl rfl rfl H33 ?_
      clear H33; intro a34 H34
      refine plain (y_bstr rfl Try.underlying65 Try.underlying5 Try.underlying9 rfl (by simp [Oct.lows_length, Oct.numL, hb]; omega) (rd_slA (by repeat (first | exact List.Mem.head _ | apply List.Mem.tail)) (q := 8 - j) (by simp [Oct.lows_length]; omega) (by omega) (drop_lows m j hok.1 hb))) rfl rfl rfl H34 ?_
      clear H34; intro a35 H35
      refine plain (y_assign rfl rfl) rfl rfl rfl H35 ?_
      clear H35; intro a36 H36
      refine plain (y_assign rfl rfl) rfl rfl rfl H36 ?_
      clear H36; intro a37 H37
      refine fin ?_
      refine then_n ?_
      refine wp_ret ?_
      -- return 2
      refine ret2 rfl H37 rfl rfl ?_
      exact ⟨_, [], rfl, ⟨by simp [Oct.number, show ¬ ((m : Int) < 0) by omega], rfl⟩, H37.sep.sub (List.nil_sublist _)⟩
set_option maxRecDepth 100000 in
set_option maxHeartbeats 1000000 in
theorem numR (n : Int) (hn : n ≤ 9223372036854775807) (w : World) : Calls Try.prog 15 #[.int .i64 n] w (Gives (.tuple #[str (Oct.number n).1, .int .i64 (Oct.number n).2]) [] w) := by
  refine enterL (args := [.int .i64 n]) Try.func15 rfl rfl (l := []) (Sep.refl _) ?_
  intro a0 H0
  refine wp_seq ?_
  refine reg ?_
  refine plain (y_assign rfl rfl) rfl rfl rfl H0 ?_
  clear H0; intro a1 H1
  refine plain (y_assign rfl rfl) rfl rfl rfl H1 ?_
  clear H1; intro a2 H2
  refine fin ?_
  refine then_n ?_
  refine wp_seq ?_
  refine wp_seq ?_
  refine reg ?_
  refine plain (y_move rfl rfl) rfl rfl rfl H2 ?_
  clear H2; intro a3 H3
  refine plain (y_lss rfl rfl rfl) rfl rfl rfl H3 ?_
  clear H3; intro a4 H4
  refine fin ?_
  refine then_n ?_
  refine cnd_d H4 rfl (fun hc5 => ?_) (fun hc5 => ?_)
  · skip
    refine wp_seq ?_
    refine reg ?_
    refine plain (y_assign rfl rfl) rfl rfl rfl H4 ?_
    clear H4; intro a6 H6
    refine plain (y_assign rfl rfl) rfl rfl rfl H6 ?_
    clear H6; intro a7 H7
    refine fin ?_
    refine then_n ?_
    refine wp_ret ?_
    refine then_r ?_
    -- return 1
    refine ret2 rfl H7 rfl rfl ?_
    exact ⟨_, [], rfl, ⟨by simp [Oct.number, *], rfl⟩, H7.sep.sub (List.nil_sublist _)⟩
  · skip
    obtain ⟨m, rfl⟩ := Int.eq_ofNat_of_zero_le (Int.not_lt.1 hc5)
    refine wp_skip ?_
    refine then_n ?_
    refine wp_seq ?_
    refine reg ?_
    refine plain (y_assign rfl rfl) rfl rfl rfl H4 ?_
    clear H4; intro a8 H8
    refine fin ?_
    refine then_n ?_
    refine wp_seq ?_
    refine reg ?_
    refine plain (y_assign rfl rfl) rfl rfl rfl H8 ?_
    clear H8; intro a9 H9
    refine fin ?_
    refine then_n ?_
    refine wp_seq ?_
    refine wp_block ?_
    refine loop (ι := Nat) (fun j => [(0, .int .i64 ((m / 256 ^ j : Nat) : Int)), (4, str (Oct.lows j m)), (5, .int .i64 (j : Int))]) (fun j => []) (fun j => j ≤ 8 ∧ (j = 0 ∨ 256 ^ (j - 1) ≤ m)) (fun j => 9 - j) (0) ⟨by omega, .inl rfl⟩ (H9.weak ⟨fi rfl (by simp), rfl, rfl, trivial⟩ rfl) ?_
    clear H9; intro j a10 w10 hok10 H10
    have hok := hok10
    refine wp_seq ?_
    refine wp_seq ?_
    refine reg ?_
    refine plain (y_move rfl rfl) rfl rfl rfl H10 ?_
    clear H10; intro a11 H11
    refine plain (y_gtr rfl rfl rfl) rfl rfl rfl H11 ?_
    clear H11; intro a12 H12
    refine fin ?_
    refine then_n ?_
    refine cnd_d H12 rfl (fun hc13 => ?_) (fun hc13 => ?_)
    · skip
      obtain ⟨hj, hle⟩ := Oct.round_pos' (m := m) (j := j) (by omega) hc13
      refine wp_skip ?_
      refine then_n ?_
      refine wp_block ?_
      refine wp_seq ?_
      refine reg ?_
      refine plain (y_move rfl rfl) rfl rfl rfl H12 ?_
      clear H12; intro a14 H14
      refine plain (y_rem rfl rfl rfl (by decide) rfl) rfl rfl rfl H14 ?_
      clear H14; intro a15 H15
      refine plain (y_conv rfl Try.underlying3 Try.underlying5 rfl (conv_rem m j)) rfl rfl rfl H15 ?_
      clear H15; intro a16 H16
      refine st_buildSlice1 (xs := [.tmp 12]) rfl Try.underlying65 z_size5 z_zero5 rfl rfl rfl rfl rfl rfl rfl rfl rfl H16 ?_
      clear H16; intro b17 a17 w17 H17
      refine plain (y_bstr (p := [UInt8.ofNat (m / 256 ^ j)]) rfl Try.underlying65 Try.underlying5 Try.underlying9 rfl (by rfl) (rd_blk (off := 0) (by repeat (first | exact List.Mem.head _ | apply List.Mem.tail)) 1 rfl)) rfl rfl rfl H17 ?_
      clear H17; intro a18 H18
      refine plain (y_move rfl rfl) rfl rfl rfl H18 ?_
      clear H18; intro a19 H19
      refine plain (y_sadd rfl rfl rfl (by simp [Oct.lows_length]; omega)) rfl rfl rfl H19 ?_
      clear H19; intro a20 H20
      refine plain (y_assign rfl rfl) rfl rfl rfl H20 ?_
      clear H20; intro a21 H21
      refine fin ?_
      refine then_n ?_
      refine wp_seq ?_
      refine reg ?_
      refine plain (y_move rfl rfl) rfl rfl rfl H21 ?_
      clear H21; intro a22 H22
      refine plain (y_quo rfl rfl rfl (by decide) (quo8 m j)) rfl rfl rfl H22 ?_
      clear H22; intro a23 H23
      refine plain (y_assign rfl rfl) rfl rfl rfl H23 ?_
      clear H23; intro a24 H24
      refine fin ?_
      refine then_n ?_
      refine reg ?_
      refine plain (y_move rfl rfl) rfl rfl rfl H24 ?_
      clear H24; intro a25 H25
      refine plain (y_add rfl rfl rfl (by first | exact w64 (by omega) (by omega) | rfl)) rfl rfl rfl H25 ?_
      clear H25; intro a26 H26
      refine plain (y_assign rfl rfl) rfl rfl rfl H26 ?_
      clear H26; intro a27 H27
      refine fin ?_
      refine inb_n ?_
      refine then_n ?_
      refine ⟨j + 1, by omega, ⟨by omega, .inr (by simpa using hle)⟩, (H27.drop (List.nil_sublist _)).weak ⟨rfl, rfl, fi rfl (by omega), trivial⟩ rfl⟩
    · skip
      have hb : Oct.blen m = j := Oct.round_zero' hc13 hok.2
      refine wp_exit ?_
      refine then_x ?_
      refine then_x ?_
      refine inb_hit ?_
      refine then_n ?_
      refine wp_seq ?_
      refine reg ?_
      refine plain (y_move rfl rfl) rfl rfl rfl H12 ?_
      clear H12; intro a28 H28
      refine plain (y_conv rfl Try.underlying3 Try.underlying5 rfl (wu8_nat _)) rfl rfl rfl H28 ?_
      clear H28; intro a29 H29
      refine st_buildSlice1 (xs := [.tmp 22]) rfl Try.underlying65 z_size5 z_zero5 rfl rfl rfl rfl rfl rfl rfl rfl rfl H29 ?_
      clear H29; intro b30 a30 w30 H30
      refine plain (y_bstr (p := [UInt8.ofNat j]) rfl Try.underlying65 Try.underlying5 Try.underlying9 rfl (by rfl) (rd_blk (off := 0) (by repeat (first | exact List.Mem.head _ | apply List.Mem.tail)) 1 rfl)) rfl rfl rfl H30 ?_
      clear H30; intro a31 H31
      refine plain (y_move rfl rfl) rfl rfl rfl H31 ?_
      clear H31; intro a32 H32
      refine plain (y_sadd rfl rfl rfl (by simp [Oct.lows_length]; omega)) rfl rfl rfl H32 ?_
      clear H32; intro a33 H33
      refine plain (y_assign rfl rfl) rfl rfl rfl H33 ?_
      clear H33; intro a34 H34
      refine plain (y_assign rfl rfl) rfl rfl rfl H34 ?_
      clear H34; intro a35 H35
      refine fin ?_
      refine then_n ?_
      refine wp_ret ?_
      -- return 2
      refine ret2 rfl H35 rfl rfl ?_
      exact ⟨_, [], rfl, ⟨by simp [Oct.number, show ¬ ((m : Int) < 0) by omega, Oct.numL, hb], rfl⟩, H35.sep.sub (List.nil_sublist _)⟩
set_option maxRecDepth 100000 in
set_option maxHeartbeats 1000000 in
theorem join (l : List (List UInt8)) (A : Option Addr) (m c : Nat) (hm : m = l.length) {w : World} (hR : Rd w A (l.map str)) (hl : l.length ≤ 9223372036854775807) (hb : l.flatten.length ≤ 140737488351232) : Calls Try.prog 42 #[.slice A m c] w (Gives (str l.flatten) [] w) := by
  subst hm
  refine enterL (args := [.slice A l.length c]) Try.func42 rfl rfl (l := []) (Sep.refl _) ?_
  intro a0 H0
  refine wp_seq ?_
  refine reg ?_
  refine plain (y_assign rfl rfl) rfl rfl rfl H0 ?_
  clear H0; intro a1 H1
  refine fin ?_
  refine then_n ?_
  refine wp_seq ?_
  refine reg ?_
  refine plain (y_assign rfl rfl) rfl rfl rfl H1 ?_
  clear H1; intro a2 H2
  refine fin ?_
  refine then_n ?_
  refine wp_seq ?_
  refine wp_seq ?_
  refine reg ?_
  refine plain (y_move rfl rfl) rfl rfl rfl H2 ?_
  clear H2; intro a3 H3
  refine plain (y_len rfl Try.underlying49 rfl) rfl rfl rfl H3 ?_
  clear H3; intro a4 H4
  refine plain (y_move rfl rfl) rfl rfl rfl H4 ?_
  clear H4; intro a5 H5
  refine fin ?_
  refine then_n ?_
  refine wp_block ?_
  refine loop (ι := Nat) (fun k => [(0, .slice A l.length c), (3, .int .i64 ((Oct.tf l k).length : Int)), (10, .slice A l.length c), (11, .int .i64 (l.length : Int)), (12, .int .i64 (k : Int))]) (fun k => []) (fun k => k ≤ l.length) (fun k => l.length - k) (0) (by omega) (H5.weak ⟨rfl, fi rfl (by simp [Oct.tf_zero]), rfl, rfl, rfl, trivial⟩ rfl) ?_
  clear H5; intro k a6 w6 hok6 H6
  have hok := hok6
  have hle := Oct.tf_le l k
  have hlk := fun h : k < l.length => Oct.len_le_flatten (l := l) (k := k) h
  have hsl := fun h : k < l.length => Oct.tf_succ (l := l) (k := k) h
  refine wp_seq ?_
  refine reg ?_
  refine plain (y_lss rfl rfl rfl) rfl rfl rfl H6 ?_
  clear H6; intro a7 H7
  refine fin ?_
  refine then_n ?_
  refine wp_seq ?_
  refine cnd_d H7 rfl (fun hc8 => ?_) (fun hc8 => ?_)
  · skip
    refine wp_skip ?_
    refine then_n ?_
    refine wp_seq ?_
    refine wp_block ?_
    refine wp_seq ?_
    refine reg ?_
    refine plain (y_ixR rfl Try.underlying49 z_size9 rfl rfl (by omega) (by omega) (rd_old (by assumption) (by simp)) (by simp; omega)) rfl rfl rfl H7 ?_
    clear H7; intro a9 H9
    refine plain (y_loadR rfl z_agg9 rfl (rd_old (by assumption) (by simp)) (by simp only [Int.toNat_natCast, Nat.mul_one, Nat.add_zero]; exact map_get _ _ _ [] (by omega))) rfl rfl rfl H9 ?_
    clear H9; intro a10 H10
    refine plain (y_assign rfl rfl) rfl rfl rfl H10 ?_
    clear H10; intro a11 H11
    refine fin ?_
    refine then_n ?_
    refine reg ?_
    refine plain (y_move rfl rfl) rfl rfl rfl H11 ?_
    clear H11; intro a12 H12
    refine plain (y_move rfl rfl) rfl rfl rfl H12 ?_
    clear H12; intro a13 H13
    refine plain (y_slen rfl Try.underlying9 rfl) rfl rfl rfl H13 ?_
    clear H13; intro a14 H14
    refine plain (y_add rfl rfl rfl (w64 (by omega) (by have := hlk (by omega); omega))) rfl rfl rfl H14 ?_
    clear H14; intro a15 H15
    refine plain (y_assign rfl rfl) rfl rfl rfl H15 ?_
    clear H15; intro a16 H16
    refine fin ?_
    refine inb_n ?_
    refine then_n ?_
    refine reg ?_
    refine plain (y_add rfl rfl rfl (by first | exact w64 (by omega) (by omega) | rfl)) rfl rfl rfl H16 ?_
    clear H16; intro a17 H17
    refine plain (y_move rfl rfl) rfl rfl rfl H17 ?_
    clear H17; intro a18 H18
    refine fin ?_
    refine then_n ?_
    refine ⟨k + 1, by omega, by omega, H18.weak ⟨rfl, fi rfl (by rw [Oct.tf_succ (by omega)]; simp), rfl, rfl, fi rfl (by omega), trivial⟩ rfl⟩
  · skip
    have hall : Oct.tf l k = l.flatten := Oct.tf_all (by omega)
    rw [hall] at H7
    refine wp_exit ?_
    refine then_x ?_
    refine then_x ?_
    refine inb_hit ?_
    refine then_n ?_
    refine wp_seq ?_
    refine reg ?_
    refine plain (y_move rfl rfl) rfl rfl rfl H7 ?_
    clear H7; intro a19 H19
    refine st_make rfl z_slice65 rfl rfl (by unfold maxLen; omega) (by omega) z_zval5 rfl rfl rfl H19 ?_
    clear H19; intro b20 a20 w20 H20
    refine plain (y_assign rfl rfl) rfl rfl rfl H20 ?_
    clear H20; intro a21 H21
    refine fin ?_
    refine then_n ?_
    refine wp_seq ?_
    refine reg ?_
    refine plain (y_assign rfl rfl) rfl rfl rfl H21 ?_
    clear H21; intro a22 H22
    refine fin ?_
    refine then_n ?_
    refine wp_seq ?_
    refine wp_seq ?_
    refine reg ?_
    refine plain (y_move rfl rfl) rfl rfl rfl H22 ?_
    clear H22; intro a23 H23
    refine plain (y_len rfl Try.underlying49 rfl) rfl rfl rfl H23 ?_
    clear H23; intro a24 H24
    refine plain (y_move rfl rfl) rfl rfl rfl H24 ?_
    clear H24; intro a25 H25
    refine fin ?_
    refine then_n ?_
    refine wp_block ?_
    refine loop (ι := Nat) (fun k2 => [(6, .slice (some ⟨b20, 0, none⟩) l.flatten.length l.flatten.length), (7, .int .i64 ((Oct.tf l k2).length : Int)), (23, .slice A l.length c), (24, .int .i64 (l.length : Int)), (25, .int .i64 (k2 : Int))]) (fun k2 => [It.blk b20 5 ((Oct.tf l k2).map u8 ++ List.replicate (l.flatten.length - (Oct.tf l k2).length) (.int .u8 0))]) (fun k2 => k2 ≤ l.length) (fun k2 => l.length - k2) (0) (by omega) (H25.weak ⟨rfl, fi rfl (by simp [Oct.tf_zero]), rfl, rfl, rfl, trivial⟩ (ib (by rw [Oct.tf_zero]; exact (made_u8 _).trans (by simp)))) ?_
    clear H25; intro k2 a26 w26 hok26 H26
    have hok2 := hok26
    have hle2 := Oct.tf_le l k2
    have hlk2 := fun h : k2 < l.length => Oct.len_le_flatten (l := l) (k := k2) h
    refine wp_seq ?_
    refine reg ?_
    refine plain (y_lss rfl rfl rfl) rfl rfl rfl H26 ?_
    clear H26; intro a27 H27
    refine fin ?_
    refine then_n ?_
    refine wp_seq ?_
    refine cnd_d H27 rfl (fun hc28 => ?_) (fun hc28 => ?_)
    · skip
      refine wp_skip ?_
      refine then_n ?_
      refine wp_seq ?_
      refine wp_block ?_
      refine wp_seq ?_
      refine reg ?_
      refine plain (y_ixR rfl Try.underlying49 z_size9 rfl rfl (by omega) (by omega) (rd_old (by assumption) (by simp)) (by simp; omega)) rfl rfl rfl H27 ?_
      clear H27; intro a29 H29
      refine plain (y_loadR rfl z_agg9 rfl (rd_old (by assumption) (by simp)) (by simp only [Int.toNat_natCast, Nat.mul_one, Nat.add_zero]; exact map_get _ _ _ [] (by omega))) rfl rfl rfl H29 ?_
      clear H29; intro a30 H30
      refine plain (y_assign rfl rfl) rfl rfl rfl H30 ?_
      clear H30; intro a31 H31
      refine fin ?_
      refine then_n ?_
      refine reg ?_
      refine plain (y_move rfl rfl) rfl rfl rfl H31 ?_
      clear H31; intro a32 H32
      refine plain (y_move rfl rfl) rfl rfl rfl H32 ?_
      clear H32; intro a33 H33
      refine plain (y_move rfl rfl) rfl rfl rfl H33 ?_
      clear H33; intro a34 H34
      refine plain (y_slS_lo rfl Try.underlying65 z_size5 rfl rfl (by omega) (by omega)) rfl rfl rfl H34 ?_
      clear H34; intro a35 H35
      refine plain (y_move rfl rfl) rfl rfl rfl H35 ?_
      clear H35; intro a36 H36
      refine st_copyT rfl Try.underlying65 z_size5 rfl rfl (by repeat (first | exact Upd.head _ _ _ | apply Upd.tail)) (by have := hlk2 (by omega); omega) (by simp only [List.length_append, List.length_map, List.length_replicate]; omega) rfl rfl rfl H36 ?_
      clear H36; intro a37 w37 H37
      refine plain (y_add rfl rfl rfl (w64 (by omega) (by have := hlk2 (by omega); omega))) rfl rfl rfl H37 ?_
      clear H37; intro a38 H38
      refine plain (y_assign rfl rfl) rfl rfl rfl H38 ?_
      clear H38; intro a39 H39
      refine fin ?_
      refine inb_n ?_
      refine then_n ?_
      refine reg ?_
      refine plain (y_add rfl rfl rfl (by first | exact w64 (by omega) (by omega) | rfl)) rfl rfl rfl H39 ?_
      clear H39; intro a40 H40
      refine plain (y_move rfl rfl) rfl rfl rfl H40 ?_
      clear H40; intro a41 H41
      refine fin ?_
      refine then_n ?_
      refine ⟨k2 + 1, by omega, by omega, H41.weak ⟨rfl, fi rfl (by rw [Oct.tf_succ (by omega)]; simp), rfl, rfl, fi rfl (by omega), trivial⟩ (ib (spl_join l k2 (by omega)))⟩
    · skip
      refine wp_exit ?_
      refine then_x ?_
      refine then_x ?_
      refine inb_hit ?_
      refine then_n ?_
      refine wp_seq ?_
      refine reg ?_
      refine plain (y_move rfl rfl) rfl rfl rfl H27 ?_
      clear H27; intro a42 H42
      refine plain (y_bstr (p := l.flatten) rfl Try.underlying65 Try.underlying5 Try.underlying9 rfl rfl (rd_blk (off := 0) (by repeat (first | exact List.Mem.head _ | apply List.Mem.tail)) l.flatten.length (by rw [show Oct.tf l k2 = l.flatten from Oct.tf_all (by omega)]; simp only [Nat.sub_self, List.replicate_zero, List.append_nil, List.drop_zero]; exact List.take_of_length_le (by rw [List.length_map]; exact Nat.le_refl _)))) rfl rfl rfl H42 ?_
      clear H42; intro a43 H43
      refine plain (y_assign rfl rfl) rfl rfl rfl H43 ?_
      clear H43; intro a44 H44
      refine fin ?_
      refine then_n ?_
      refine wp_ret ?_
      -- return 1
      refine ret1 rfl H44 rfl ?_
      exact ⟨_, [], rfl, ⟨rfl, rfl⟩, H44.sep.sub (List.nil_sublist _)⟩
set_option maxRecDepth 100000 in
set_option maxHeartbeats 1000000 in
theorem txt (s : List UInt8) (hs : s.length ≤ 9223372036854775807) (w : World) : Calls Try.prog 16 #[str s] w (Gives (.tuple #[str (Oct.text s).1, .int .i64 (Oct.text s).2]) [] w) := by
  refine enterL (args := [str s]) Try.func16 rfl rfl (l := []) (Sep.refl _) ?_
  intro a0 H0
  refine wp_seq ?_
  refine reg ?_
  refine plain (y_assign rfl rfl) rfl rfl rfl H0 ?_
  clear H0; intro a1 H1
  refine plain (y_assign rfl rfl) rfl rfl rfl H1 ?_
  clear H1; intro a2 H2
  refine fin ?_
  refine then_n ?_
  refine wp_seq ?_
  refine wp_seq ?_
  refine reg ?_
  refine plain (y_move rfl rfl) rfl rfl rfl H2 ?_
  clear H2; intro a3 H3
  refine plain (y_slen rfl Try.underlying9 rfl) rfl rfl rfl H3 ?_
  clear H3; intro a4 H4
  refine plain (y_gtr rfl rfl rfl) rfl rfl rfl H4 ?_
  clear H4; intro a5 H5
  refine fin ?_
  refine then_n ?_
  refine cnd_d H5 rfl (fun hc6 => ?_) (fun hc6 => ?_)
  · skip
    refine wp_seq ?_
    refine reg ?_
    refine plain (y_assign rfl rfl) rfl rfl rfl H5 ?_
    clear H5; intro a7 H7
    refine plain (y_assign rfl rfl) rfl rfl rfl H7 ?_
    clear H7; intro a8 H8
    refine fin ?_
    refine then_n ?_
    refine wp_ret ?_
    refine then_r ?_
    -- return 1
    refine ret2 rfl H8 rfl rfl ?_
    exact ⟨_, [], rfl, ⟨by simp [Oct.text, show 65536 < s.length by omega], rfl⟩, H8.sep.sub (List.nil_sublist _)⟩
  · skip
    refine wp_skip ?_
    refine then_n ?_
    refine wp_seq ?_
    refine reg ?_
    refine plain (y_move rfl rfl) rfl rfl rfl H5 ?_
    clear H5; intro a9 H9
    refine plain (y_slen rfl Try.underlying9 rfl) rfl rfl rfl H9 ?_
    clear H9; intro a10 H10
    refine st_callg rfl z_call14 rfl rfl rfl rfl H10 (num _ (by omega) _) ?_
    clear H10; intro a11 w11 H11
    refine plain (y_move rfl rfl) rfl rfl rfl H11 ?_
    clear H11; intro a12 H12
    refine plain (y_extract rfl rfl rfl) rfl rfl rfl H12 ?_
    clear H12; intro a13 H13
    refine plain (y_extract rfl rfl rfl) rfl rfl rfl H13 ?_
    clear H13; intro a14 H14
    refine plain (y_assign rfl rfl) rfl rfl rfl H14 ?_
    clear H14; intro a15 H15
    refine plain (y_assign rfl rfl) rfl rfl rfl H15 ?_
    clear H15; intro a16 H16
    refine fin ?_
    refine then_n ?_
    refine wp_seq ?_
    refine reg ?_
    refine plain (y_move rfl rfl) rfl rfl rfl H16 ?_
    clear H16; intro a17 H17
    refine plain (y_move rfl rfl) rfl rfl rfl H17 ?_
    clear H17; intro a18 H18
    refine st_buildSlice1 (xs := [.tmp 15, .tmp 16]) rfl Try.underlying49 z_size9 z_zero9 rfl rfl rfl rfl rfl rfl rfl rfl rfl H18 ?_
    clear H18; intro b19 a19 w19 H19
    refine st_callg rfl z_call42 rfl rfl rfl rfl H19 (join [(Oct.number (s.length : Int)).1, s] _ _ _ rfl (Rd.ofSep (rd_blk (by repeat (first | exact List.Mem.head _ | apply List.Mem.tail)) 2 rfl) H19.sep) (by simp) (by have := Oct.textL_le (s := s) (by omega); simp [Oct.number_nat] at *; unfold Oct.textL at this; simp at this; omega)) ?_
    clear H19; intro a20 w20 H20
    refine plain (y_move rfl rfl) rfl rfl rfl H20 ?_
    clear H20; intro a21 H21
    refine plain (y_assign rfl rfl) rfl rfl rfl H21 ?_
    clear H21; intro a22 H22
    refine plain (y_assign rfl rfl) rfl rfl rfl H22 ?_
    clear H22; intro a23 H23
    refine fin ?_
    refine then_n ?_
    refine wp_ret ?_
    -- return 2
    refine ret2 rfl H23 rfl rfl ?_
    exact ⟨_, [], rfl, ⟨by simp [Oct.text, show ¬ 65536 < s.length by omega, Oct.number_nat, Oct.textL], rfl⟩, H23.sep.sub (List.nil_sublist _)⟩
set_option maxRecDepth 100000 in
set_option maxHeartbeats 1000000 in
theorem txtR (s : List UInt8) (hs : s.length ≤ 9223372036854775807) (w : World) : Calls Try.prog 17 #[str s] w (Gives (.tuple #[str (Oct.text s).1, .int .i64 (Oct.text s).2]) [] w) := by
  refine enterL (args := [str s]) Try.func17 rfl rfl (l := []) (Sep.refl _) ?_
  intro a0 H0
  refine wp_seq ?_
  refine reg ?_
  refine plain (y_assign rfl rfl) rfl rfl rfl H0 ?_
  clear H0; intro a1 H1
  refine plain (y_assign rfl rfl) rfl rfl rfl H1 ?_
  clear H1; intro a2 H2
  refine fin ?_
  refine then_n ?_
  refine wp_seq ?_
  refine wp_seq ?_
  refine reg ?_
  refine plain (y_move rfl rfl) rfl rfl rfl H2 ?_
  clear H2; intro a3 H3
  refine plain (y_slen rfl Try.underlying9 rfl) rfl rfl rfl H3 ?_
  clear H3; intro a4 H4
  refine plain (y_gtr rfl rfl rfl) rfl rfl rfl H4 ?_
  clear H4; intro a5 H5
  refine fin ?_
  refine then_n ?_
  refine cnd_d H5 rfl (fun hc6 => ?_) (fun hc6 => ?_)
  · skip
    refine wp_seq ?_
    refine reg ?_
    refine plain (y_assign rfl rfl) rfl rfl rfl H5 ?_
    clear H5; intro a7 H7
    refine plain (y_assign rfl rfl) rfl rfl rfl H7 ?_
    clear H7; intro a8 H8
    refine fin ?_
    refine then_n ?_
    refine wp_ret ?_
    refine then_r ?_
    -- return 1
    refine ret2 rfl H8 rfl rfl ?_
    exact ⟨_, [], rfl, ⟨by simp [Oct.text, show 65536 < s.length by omega], rfl⟩, H8.sep.sub (List.nil_sublist _)⟩
  · skip
    refine wp_skip ?_
    refine then_n ?_
    refine wp_seq ?_
    refine reg ?_
    refine plain (y_move rfl rfl) rfl rfl rfl H5 ?_
    clear H5; intro a9 H9
    refine plain (y_slen rfl Try.underlying9 rfl) rfl rfl rfl H9 ?_
    clear H9; intro a10 H10
    refine st_callg rfl z_call15 rfl rfl rfl rfl H10 (numR _ (by omega) _) ?_
    clear H10; intro a11 w11 H11
    refine plain (y_move rfl rfl) rfl rfl rfl H11 ?_
    clear H11; intro a12 H12
    refine plain (y_extract rfl rfl rfl) rfl rfl rfl H12 ?_
    clear H12; intro a13 H13
    refine plain (y_extract rfl rfl rfl) rfl rfl rfl H13 ?_
    clear H13; intro a14 H14
    refine plain (y_assign rfl rfl) rfl rfl rfl H14 ?_
    clear H14; intro a15 H15
    refine plain (y_assign rfl rfl) rfl rfl rfl H15 ?_
    clear H15; intro a16 H16
    refine fin ?_
    refine then_n ?_
    refine wp_seq ?_
    refine reg ?_
    refine plain (y_move rfl rfl) rfl rfl rfl H16 ?_
    clear H16; intro a17 H17
    refine plain (y_move rfl rfl) rfl rfl rfl H17 ?_
    clear H17; intro a18 H18
    refine plain (y_sadd rfl rfl rfl (by have := Oct.textL_le (s := s) (by omega); simp [Oct.number_nat] at *; unfold Oct.textL at this; simp at this; omega)) rfl rfl rfl H18 ?_
    clear H18; intro a19 H19
    refine plain (y_assign rfl rfl) rfl rfl rfl H19 ?_
    clear H19; intro a20 H20
    refine plain (y_assign rfl rfl) rfl rfl rfl H20 ?_
    clear H20; intro a21 H21
    refine fin ?_
    refine then_n ?_
    refine wp_ret ?_
    -- return 2
    refine ret2 rfl H21 rfl rfl ?_
    exact ⟨_, [], rfl, ⟨by simp [Oct.text, show ¬ 65536 < s.length by omega, Oct.number_nat, Oct.textL], rfl⟩, H21.sep.sub (List.nil_sublist _)⟩
set_option maxRecDepth 100000 in
set_option maxHeartbeats 1000000 in
theorem lst (l : List (List UInt8)) (A : Option Addr) (m c : Nat) (hm : m = l.length) {w : World} (hR : Rd w A (l.map str)) (hl : l.length ≤ 9223372036854775807) : Calls Try.prog 33 #[.slice A m c] w (Gives (.tuple #[str (Oct.list l).1, .int .i64 (Oct.list l).2]) [] w) := by
  subst hm
  refine enterL (args := [.slice A l.length c]) Try.func33 rfl rfl (l := []) (Sep.refl _) ?_
  intro a0 H0
  refine wp_seq ?_
  refine reg ?_
  refine plain (y_assign rfl rfl) rfl rfl rfl H0 ?_
  clear H0; intro a1 H1
  refine plain (y_assign rfl rfl) rfl rfl rfl H1 ?_
  clear H1; intro a2 H2
  refine fin ?_
  refine then_n ?_
  refine wp_seq ?_
  refine wp_seq ?_
  refine reg ?_
  refine plain (y_move rfl rfl) rfl rfl rfl H2 ?_
  clear H2; intro a3 H3
  refine plain (y_len rfl Try.underlying49 rfl) rfl rfl rfl H3 ?_
  clear H3; intro a4 H4
  refine plain (y_gtr rfl rfl rfl) rfl rfl rfl H4 ?_
  clear H4; intro a5 H5
  refine fin ?_
  refine then_n ?_
  refine cnd_d H5 rfl (fun hc6 => ?_) (fun hc6 => ?_)
  · skip
    refine wp_seq ?_
    refine reg ?_
    refine plain (y_assign rfl rfl) rfl rfl rfl H5 ?_
    clear H5; intro a7 H7
    refine plain (y_assign rfl rfl) rfl rfl rfl H7 ?_
    clear H7; intro a8 H8
    refine fin ?_
    refine then_n ?_
    refine wp_ret ?_
    refine then_r ?_
    -- return 1
    refine ret2 rfl H8 rfl rfl ?_
    exact ⟨_, [], rfl, ⟨by rw [Oct.list_big (by omega)], rfl⟩, H8.sep.sub (List.nil_sublist _)⟩
  · skip
    refine wp_skip ?_
    refine then_n ?_
    refine wp_seq ?_
    refine reg ?_
    refine plain (y_move rfl rfl) rfl rfl rfl H5 ?_
    clear H5; intro a9 H9
    refine plain (y_len rfl Try.underlying49 rfl) rfl rfl rfl H9 ?_
    clear H9; intro a10 H10
    refine st_callg rfl z_call14 rfl rfl rfl rfl H10 (num _ (by omega) _) ?_
    clear H10; intro a11 w11 H11
    refine plain (y_move rfl rfl) rfl rfl rfl H11 ?_
    clear H11; intro a12 H12
    refine plain (y_extract rfl rfl rfl) rfl rfl rfl H12 ?_
    clear H12; intro a13 H13
    refine plain (y_extract rfl rfl rfl) rfl rfl rfl H13 ?_
    clear H13; intro a14 H14
    refine plain (y_assign rfl rfl) rfl rfl rfl H14 ?_
    clear H14; intro a15 H15
    refine plain (y_assign rfl rfl) rfl rfl rfl H15 ?_
    clear H15; intro a16 H16
    refine fin ?_
    refine then_n ?_
    refine wp_seq ?_
    refine reg ?_
    refine plain (y_move rfl rfl) rfl rfl rfl H16 ?_
    clear H16; intro a17 H17
    refine st_buildSlice1 (xs := [.tmp 21]) rfl Try.underlying49 z_size9 z_zero9 rfl rfl rfl rfl rfl rfl rfl rfl rfl H17 ?_
    clear H17; intro b18 a18 w18 H18
    refine plain (y_assign rfl rfl) rfl rfl rfl H18 ?_
    clear H18; intro a19 H19
    refine fin ?_
    refine then_n ?_
    refine wp_seq ?_
    refine reg ?_
    refine plain (y_assign rfl rfl) rfl rfl rfl H19 ?_
    clear H19; intro a20 H20
    refine fin ?_
    refine then_n ?_
    refine wp_seq ?_
    refine wp_seq ?_
    refine reg ?_
    refine plain (y_move rfl rfl) rfl rfl rfl H20 ?_
    clear H20; intro a21 H21
    refine plain (y_len rfl Try.underlying49 rfl) rfl rfl rfl H21 ?_
    clear H21; intro a22 H22
    refine plain (y_move rfl rfl) rfl rfl rfl H22 ?_
    clear H22; intro a23 H23
    refine fin ?_
    refine then_n ?_
    refine wp_block ?_
    simp only [Oct.number_nat] at H23
    replace H23 := H23.asRow (size := 1) (m := 1) (by repeat (first | exact Upd.head _ _ _ | apply Upd.tail)) rfl (by unfold maxLen; omega)
    refine loop (ι := Nat × Value) (fun x => [(6, x.2), (7, .int .i64 (65536 - ((Oct.tf l x.1).length : Int))), (23, .slice A l.length c), (24, .int .i64 (l.length : Int)), (25, .int .i64 (x.1 : Int))]) (fun x => [It.row 9 1 x.2 (x.1 + 1) ((Oct.parts l x.1).map str)]) (fun x => x.1 ≤ l.length ∧ (Oct.tf l x.1).length ≤ 65536) (fun x => l.length - x.1) ((0, .slice (some ⟨b18, 0, none⟩) 1 1)) (by simp [Oct.tf_zero]) (H23.weak ⟨rfl, fi rfl (by simp [Oct.tf_zero]), rfl, rfl, rfl, trivial⟩ rfl) ?_
    clear H23; intro x a24 w24 hok24 H24
    obtain ⟨k, v⟩ := x
    dsimp only at hok24 H24
    have hok := hok24
    have hlk := fun h : k < l.length => Oct.len_le_flatten (l := l) (k := k) h
    refine wp_seq ?_
    refine reg ?_
    refine plain (y_lss rfl rfl rfl) rfl rfl rfl H24 ?_
    clear H24; intro a25 H25
    refine fin ?_
    refine then_n ?_
    refine wp_seq ?_
    refine cnd_d H25 rfl (fun hc26 => ?_) (fun hc26 => ?_)
    · skip
      refine wp_skip ?_
      refine then_n ?_
      refine wp_seq ?_
      refine wp_block ?_
      refine wp_seq ?_
      refine reg ?_
      refine plain (y_ixR rfl Try.underlying49 z_size9 rfl rfl (by omega) (by omega) (rd_old (by assumption) (by simp)) (by simp; omega)) rfl rfl rfl H25 ?_
      clear H25; intro a27 H27
      refine plain (y_loadR rfl z_agg9 rfl (rd_old (by assumption) (by simp)) (by simp only [Int.toNat_natCast, Nat.mul_one, Nat.add_zero]; exact map_get _ _ _ [] (by omega))) rfl rfl rfl H27 ?_
      clear H27; intro a28 H28
      refine plain (y_assign rfl rfl) rfl rfl rfl H28 ?_
      clear H28; intro a29 H29
      refine fin ?_
      refine then_n ?_
      refine wp_seq ?_
      refine wp_seq ?_
      refine reg ?_
      refine plain (y_move rfl rfl) rfl rfl rfl H29 ?_
      clear H29; intro a30 H30
      refine plain (y_slen rfl Try.underlying9 rfl) rfl rfl rfl H30 ?_
      clear H30; intro a31 H31
      refine plain (y_move rfl rfl) rfl rfl rfl H31 ?_
      clear H31; intro a32 H32
      refine plain (y_gtr rfl rfl rfl) rfl rfl rfl H32 ?_
      clear H32; intro a33 H33
      refine fin ?_
      refine then_n ?_
      refine cnd_d H33 rfl (fun hc34 => ?_) (fun hc34 => ?_)
      · skip
        refine wp_seq ?_
        refine reg ?_
        refine plain (y_assign rfl rfl) rfl rfl rfl H33 ?_
        clear H33; intro a35 H35
        refine plain (y_assign rfl rfl) rfl rfl rfl H35 ?_
        clear H35; intro a36 H36
        refine fin ?_
        refine then_n ?_
        refine wp_ret ?_
        refine then_r ?_
        refine inb_r ?_
        refine then_r ?_
        refine then_r ?_
        refine inb_r ?_
        refine then_r ?_
        -- return 2
        refine ret2 rfl H36 rfl rfl ?_
        exact ⟨_, [], rfl, ⟨by rw [Oct.list_long (by have := hlk (by omega); omega)], rfl⟩, H36.sep.sub (List.nil_sublist _)⟩
      · skip
        refine wp_skip ?_
        refine then_n ?_
        refine wp_seq ?_
        refine reg ?_
        refine plain (y_move rfl rfl) rfl rfl rfl H33 ?_
        clear H33; intro a37 H37
        refine plain (y_move rfl rfl) rfl rfl rfl H37 ?_
        clear H37; intro a38 H38
        refine plain (y_slen rfl Try.underlying9 rfl) rfl rfl rfl H38 ?_
        clear H38; intro a39 H39
        refine plain (y_sub rfl rfl rfl (by first | exact w64 (by omega) (by omega) | rfl)) rfl rfl rfl H39 ?_
        clear H39; intro a40 H40
        refine plain (y_assign rfl rfl) rfl rfl rfl H40 ?_
        clear H40; intro a41 H41
        refine fin ?_
        refine then_n ?_
        refine wp_seq ?_
        refine reg ?_
        refine plain (y_move rfl rfl) rfl rfl rfl H41 ?_
        clear H41; intro a42 H42
        refine st_callg rfl z_call16 rfl rfl rfl rfl H42 (txt _ (by omega) _) ?_
        clear H42; intro a43 w43 H43
        refine plain (y_move rfl rfl) rfl rfl rfl H43 ?_
        clear H43; intro a44 H44
        refine plain (y_extract rfl rfl rfl) rfl rfl rfl H44 ?_
        clear H44; intro a45 H45
        refine plain (y_extract rfl rfl rfl) rfl rfl rfl H45 ?_
        clear H45; intro a46 H46
        refine plain (y_assign rfl rfl) rfl rfl rfl H46 ?_
        clear H46; intro a47 H47
        refine plain (y_assign rfl rfl) rfl rfl rfl H47 ?_
        clear H47; intro a48 H48
        refine fin ?_
        refine then_n ?_
        refine reg ?_
        refine plain (y_move rfl rfl) rfl rfl rfl H48 ?_
        clear H48; intro a49 H49
        refine plain (y_move rfl rfl) rfl rfl rfl H49 ?_
        clear H49; intro a50 H50
        refine st_buildSlice1 (xs := [.tmp 43]) rfl Try.underlying49 z_size9 z_zero9 rfl rfl rfl rfl rfl rfl rfl rfl rfl H50 ?_
        clear H50; intro b51 a51 w51 H51
        refine st_append rfl z_slice49 z_notint49 rfl rfl (fun _ => (by repeat (first | exact Upd.head _ _ _ | apply Upd.tail))) (fun w hs => Src.slice ((rd_blkA (by repeat (first | exact List.Mem.head _ | apply List.Mem.tail))) w hs) rfl (by simp [Value.oneCell'])) (by unfold maxLen; omega) (by omega) rfl rfl rfl H51 ?_
        clear H51; intro v52 a52 w52 hnil52 H52
        refine plain (y_assign rfl rfl) rfl rfl rfl H52 ?_
        clear H52; intro a53 H53
        refine fin ?_
        refine inb_n ?_
        refine then_n ?_
        refine reg ?_
        refine plain (y_add rfl rfl rfl (by first | exact w64 (by omega) (by omega) | rfl)) rfl rfl rfl H53 ?_
        clear H53; intro a54 H54
        refine plain (y_move rfl rfl) rfl rfl rfl H54 ?_
        clear H54; intro a55 H55
        refine fin ?_
        refine then_n ?_
        refine ⟨(k + 1, v52), by dsimp only; omega, by dsimp only; rw [Oct.tf_succ (by omega), List.length_append]; omega, (H55.drop (List.Sublist.cons _ (List.Sublist.refl _))).weak ⟨rfl, fi rfl (by rw [Oct.tf_succ (by omega)]; simp; omega), rfl, rfl, fi rfl (by dsimp only; omega), trivial⟩ (ir rfl ?_)⟩
        rw [Oct.parts_succ (by omega), Oct.text_ok (by omega)]
        simp
    · skip
      refine wp_exit ?_
      refine then_x ?_
      refine then_x ?_
      refine inb_hit ?_
      refine then_n ?_
      refine wp_seq ?_
      refine reg ?_
      refine plain (y_move rfl rfl) rfl rfl rfl H25 ?_
      clear H25; intro a56 H56
      obtain ⟨A2, c2, hv2, hR2, hm2⟩ := row_shape H56.sep (by repeat (first | exact List.Mem.head _ | apply List.Mem.tail))
      subst hv2
      refine st_callg rfl z_call42 rfl rfl rfl rfl H56 (join (Oct.parts l k) _ _ _ (by rw [Oct.parts_length _ (by omega)]) hR2 (by rw [Oct.parts_length _ (by omega)]; omega) (by rw [Oct.parts_flatten (by omega)]; have := Oct.listL_le (l := l) (by omega) (by rw [← Oct.tf_all (l := l) (k := k) (by omega)]; exact hok.2); omega)) ?_
      clear H56; intro a57 w57 H57
      refine plain (y_assign rfl rfl) rfl rfl rfl H57 ?_
      clear H57; intro a58 H58
      refine plain (y_assign rfl rfl) rfl rfl rfl H58 ?_
      clear H58; intro a59 H59
      refine fin ?_
      refine then_n ?_
      refine wp_ret ?_
      -- return 3
      refine ret2 rfl H59 rfl rfl ?_
      exact ⟨_, [], rfl, ⟨by rw [Oct.parts_flatten (by omega), Oct.list_ok (by omega) (by have := Oct.tf_all (l := l) (k := k) (by omega); rw [this] at hok; omega)], rfl⟩, H59.sep.sub (List.nil_sublist _)⟩
set_option maxRecDepth 100000 in
set_option maxHeartbeats 1000000 in
theorem lstR (l : List (List UInt8)) (A : Option Addr) (m c : Nat) (hm : m = l.length) {w : World} (hR : Rd w A (l.map str)) (hl : l.length ≤ 9223372036854775807) : Calls Try.prog 34 #[.slice A m c] w (Gives (.tuple #[str (Oct.list l).1, .int .i64 (Oct.list l).2]) [] w) := by
  subst hm
  refine enterL (args := [.slice A l.length c]) Try.func34 rfl rfl (l := []) (Sep.refl _) ?_
  intro a0 H0
  refine wp_seq ?_
  refine reg ?_
  refine plain (y_assign rfl rfl) rfl rfl rfl H0 ?_
  clear H0; intro a1 H1
  refine plain (y_assign rfl rfl) rfl rfl rfl H1 ?_
  clear H1; intro a2 H2
  refine fin ?_
  refine then_n ?_
  refine wp_seq ?_
  refine wp_seq ?_
  refine reg ?_
  refine plain (y_move rfl rfl) rfl rfl rfl H2 ?_
  clear H2; intro a3 H3
  refine plain (y_len rfl Try.underlying49 rfl) rfl rfl rfl H3 ?_
  clear H3; intro a4 H4
  refine plain (y_gtr rfl rfl rfl) rfl rfl rfl H4 ?_
  clear H4; intro a5 H5
  refine fin ?_
  refine then_n ?_
  refine cnd_d H5 rfl (fun hc6 => ?_) (fun hc6 => ?_)
  · skip
    refine wp_seq ?_
    refine reg ?_
    refine plain (y_assign rfl rfl) rfl rfl rfl H5 ?_
    clear H5; intro a7 H7
    refine plain (y_assign rfl rfl) rfl rfl rfl H7 ?_
    clear H7; intro a8 H8
    refine fin ?_
    refine then_n ?_
    refine wp_ret ?_
    refine then_r ?_
    -- return 1
    refine ret2 rfl H8 rfl rfl ?_
    exact ⟨_, [], rfl, ⟨by rw [Oct.list_big (by omega)], rfl⟩, H8.sep.sub (List.nil_sublist _)⟩
  · skip
    refine wp_skip ?_
    refine then_n ?_
    refine wp_seq ?_
    refine reg ?_
    refine plain (y_move rfl rfl) rfl rfl rfl H5 ?_
    clear H5; intro a9 H9
    refine plain (y_len rfl Try.underlying49 rfl) rfl rfl rfl H9 ?_
    clear H9; intro a10 H10
    refine st_callg rfl z_call15 rfl rfl rfl rfl H10 (numR _ (by omega) _) ?_
    clear H10; intro a11 w11 H11
    refine plain (y_move rfl rfl) rfl rfl rfl H11 ?_
    clear H11; intro a12 H12
    refine plain (y_extract rfl rfl rfl) rfl rfl rfl H12 ?_
    clear H12; intro a13 H13
    refine plain (y_extract rfl rfl rfl) rfl rfl rfl H13 ?_
    clear H13; intro a14 H14
    refine plain (y_assign rfl rfl) rfl rfl rfl H14 ?_
    clear H14; intro a15 H15
    refine plain (y_assign rfl rfl) rfl rfl rfl H15 ?_
    clear H15; intro a16 H16
    refine fin ?_
    refine then_n ?_
    refine wp_seq ?_
    refine reg ?_
    refine plain (y_move rfl rfl) rfl rfl rfl H16 ?_
    clear H16; intro a17 H17
    refine st_strb rfl Try.underlying9 Try.underlying65 Try.underlying5 rfl (by have := Oct.numL_le (m := l.length) (by omega); rw [Oct.number_nat]; dsimp only; unfold maxLen; omega) rfl rfl rfl H17 ?_
    clear H17; intro v18 a18 w18 H18
    refine plain (y_assign rfl rfl) rfl rfl rfl H18 ?_
    clear H18; intro a19 H19
    refine fin ?_
    refine then_n ?_
    refine wp_seq ?_
    refine reg ?_
    refine plain (y_assign rfl rfl) rfl rfl rfl H19 ?_
    clear H19; intro a20 H20
    refine fin ?_
    refine then_n ?_
    refine wp_seq ?_
    refine wp_seq ?_
    refine reg ?_
    refine plain (y_assign rfl rfl) rfl rfl rfl H20 ?_
    clear H20; intro a21 H21
    refine fin ?_
    refine then_n ?_
    refine wp_block ?_
    simp only [Oct.number_nat] at H21
    refine loop (ι := Nat × Value) (fun x => [(0, .slice A l.length c), (6, x.2), (7, .int .i64 ((Oct.tf l x.1).length : Int)), (8, .int .i64 (x.1 : Int))]) (fun x => [It.row 5 1 x.2 (Oct.parts l x.1).flatten.length ((Oct.parts l x.1).flatten.map u8)]) (fun x => x.1 ≤ l.length ∧ (Oct.tf l x.1).length ≤ 65536) (fun x => l.length - x.1) ((0, v18)) (by simp [Oct.tf_zero]) (H21.weak ⟨rfl, rfl, fi rfl (by simp [Oct.tf_zero]), rfl, trivial⟩ (ir (by simp [Oct.parts]) (by simp [Oct.parts]))) ?_
    clear H21; intro x a22 w22 hok22 H22
    obtain ⟨k, v⟩ := x
    dsimp only at hok22 H22
    have hok := hok22
    have hlk := fun h : k < l.length => Oct.len_le_flatten (l := l) (k := k) h
    have hpl := Oct.parts_len (l := l) (k := k) hok.1 (by omega) hok.2
    refine wp_seq ?_
    refine wp_seq ?_
    refine reg ?_
    refine plain (y_move rfl rfl) rfl rfl rfl H22 ?_
    clear H22; intro a23 H23
    refine plain (y_move rfl rfl) rfl rfl rfl H23 ?_
    clear H23; intro a24 H24
    refine plain (y_len rfl Try.underlying49 rfl) rfl rfl rfl H24 ?_
    clear H24; intro a25 H25
    refine plain (y_lss rfl rfl rfl) rfl rfl rfl H25 ?_
    clear H25; intro a26 H26
    refine fin ?_
    refine then_n ?_
    refine cnd_d H26 rfl (fun hc27 => ?_) (fun hc27 => ?_)
    · skip
      refine wp_skip ?_
      refine then_n ?_
      refine wp_seq ?_
      refine wp_block ?_
      refine wp_seq ?_
      refine wp_seq ?_
      refine reg ?_
      refine plain (y_move rfl rfl) rfl rfl rfl H26 ?_
      clear H26; intro a28 H28
      refine plain (y_move rfl rfl) rfl rfl rfl H28 ?_
      clear H28; intro a29 H29
      refine plain (y_ixR rfl Try.underlying49 z_size9 rfl rfl (by omega) (by omega) (rd_old (by assumption) (by simp)) (by simp; omega)) rfl rfl rfl H29 ?_
      clear H29; intro a30 H30
      refine plain (y_loadR rfl z_agg9 rfl (rd_old (by assumption) (by simp)) (by simp only [Int.toNat_natCast, Nat.mul_one, Nat.add_zero]; exact map_get _ _ _ [] (by omega))) rfl rfl rfl H30 ?_
      clear H30; intro a31 H31
      refine plain (y_slen rfl Try.underlying9 rfl) rfl rfl rfl H31 ?_
      clear H31; intro a32 H32
      refine plain (y_move rfl rfl) rfl rfl rfl H32 ?_
      clear H32; intro a33 H33
      refine plain (y_sub rfl rfl rfl (by first | exact w64 (by omega) (by omega) | rfl)) rfl rfl rfl H33 ?_
      clear H33; intro a34 H34
      refine plain (y_gtr rfl rfl rfl) rfl rfl rfl H34 ?_
      clear H34; intro a35 H35
      refine fin ?_
      refine then_n ?_
      refine cnd_d H35 rfl (fun hc36 => ?_) (fun hc36 => ?_)
      · skip
        refine wp_seq ?_
        refine reg ?_
        refine plain (y_assign rfl rfl) rfl rfl rfl H35 ?_
        clear H35; intro a37 H37
        refine plain (y_assign rfl rfl) rfl rfl rfl H37 ?_
        clear H37; intro a38 H38
        refine fin ?_
        refine then_n ?_
        refine wp_ret ?_
        refine then_r ?_
        refine inb_r ?_
        refine then_r ?_
        refine then_r ?_
        refine inb_r ?_
        refine then_r ?_
        -- return 2
        refine ret2 rfl H38 rfl rfl ?_
        exact ⟨_, [], rfl, ⟨by rw [Oct.list_long (by have := hlk (by omega); omega)], rfl⟩, H38.sep.sub (List.nil_sublist _)⟩
      · skip
        refine wp_skip ?_
        refine then_n ?_
        refine wp_seq ?_
        refine reg ?_
        refine plain (y_move rfl rfl) rfl rfl rfl H35 ?_
        clear H35; intro a39 H39
        refine plain (y_move rfl rfl) rfl rfl rfl H39 ?_
        clear H39; intro a40 H40
        refine plain (y_move rfl rfl) rfl rfl rfl H40 ?_
        clear H40; intro a41 H41
        refine plain (y_ixR rfl Try.underlying49 z_size9 rfl rfl (by omega) (by omega) (rd_old (by assumption) (by simp)) (by simp; omega)) rfl rfl rfl H41 ?_
        clear H41; intro a42 H42
        refine plain (y_loadR rfl z_agg9 rfl (rd_old (by assumption) (by simp)) (by simp only [Int.toNat_natCast, Nat.mul_one, Nat.add_zero]; exact map_get _ _ _ [] (by omega))) rfl rfl rfl H42 ?_
        clear H42; intro a43 H43
        refine plain (y_slen rfl Try.underlying9 rfl) rfl rfl rfl H43 ?_
        clear H43; intro a44 H44
        refine plain (y_add rfl rfl rfl (by first | exact w64 (by omega) (by omega) | rfl)) rfl rfl rfl H44 ?_
        clear H44; intro a45 H45
        refine plain (y_assign rfl rfl) rfl rfl rfl H45 ?_
        clear H45; intro a46 H46
        refine fin ?_
        refine then_n ?_
        refine wp_seq ?_
        refine reg ?_
        refine plain (y_move rfl rfl) rfl rfl rfl H46 ?_
        clear H46; intro a47 H47
        refine plain (y_move rfl rfl) rfl rfl rfl H47 ?_
        clear H47; intro a48 H48
        refine plain (y_ixR rfl Try.underlying49 z_size9 rfl rfl (by omega) (by omega) (rd_old (by assumption) (by simp)) (by simp; omega)) rfl rfl rfl H48 ?_
        clear H48; intro a49 H49
        refine plain (y_loadR rfl z_agg9 rfl (rd_old (by assumption) (by simp)) (by simp only [Int.toNat_natCast, Nat.mul_one, Nat.add_zero]; exact map_get _ _ _ [] (by omega))) rfl rfl rfl H49 ?_
        clear H49; intro a50 H50
        refine st_callg rfl z_call17 rfl rfl rfl rfl H50 (txtR _ (by omega) _) ?_
        clear H50; intro a51 w51 H51
        refine plain (y_move rfl rfl) rfl rfl rfl H51 ?_
        clear H51; intro a52 H52
        refine plain (y_extract rfl rfl rfl) rfl rfl rfl H52 ?_
        clear H52; intro a53 H53
        refine plain (y_extract rfl rfl rfl) rfl rfl rfl H53 ?_
        clear H53; intro a54 H54
        refine plain (y_assign rfl rfl) rfl rfl rfl H54 ?_
        clear H54; intro a55 H55
        refine plain (y_assign rfl rfl) rfl rfl rfl H55 ?_
        clear H55; intro a56 H56
        refine fin ?_
        refine then_n ?_
        refine reg ?_
        refine plain (y_move rfl rfl) rfl rfl rfl H56 ?_
        clear H56; intro a57 H57
        refine plain (y_move rfl rfl) rfl rfl rfl H57 ?_
        clear H57; intro a58 H58
        refine st_append rfl z_slice65 z_notint9 rfl rfl (fun _ => (by repeat (first | exact Upd.head _ _ _ | apply Upd.tail))) (fun w _ => Src.text _) (by have := Oct.text_len (l.getD k []); unfold maxLen; omega) (by have := Oct.text_len (l.getD k []); omega) rfl rfl rfl H58 ?_
        clear H58; intro v59 a59 w59 hnil59 H59
        refine plain (y_assign rfl rfl) rfl rfl rfl H59 ?_
        clear H59; intro a60 H60
        refine fin ?_
        refine inb_n ?_
        refine then_n ?_
        refine reg ?_
        refine plain (y_move rfl rfl) rfl rfl rfl H60 ?_
        clear H60; intro a61 H61
        refine plain (y_add rfl rfl rfl (by first | exact w64 (by omega) (by omega) | rfl)) rfl rfl rfl H61 ?_
        clear H61; intro a62 H62
        refine plain (y_assign rfl rfl) rfl rfl rfl H62 ?_
        clear H62; intro a63 H63
        refine fin ?_
        refine then_n ?_
        refine ⟨(k + 1, v59), by dsimp only; omega, by dsimp only; rw [Oct.tf_succ (by omega), List.length_append]; omega, H63.weak ⟨rfl, rfl, fi rfl (by rw [Oct.tf_succ (by omega)]; simp), fi rfl (by dsimp only; omega), trivial⟩ (ir ?_ ?_)⟩
        · rw [Oct.parts_succ (by omega), Oct.text_ok (by omega)]; simp
        · rw [Oct.parts_succ (by omega), Oct.text_ok (by omega)]; simp
    · skip
      refine wp_exit ?_
      refine then_x ?_
      refine then_x ?_
      refine inb_hit ?_
      refine then_n ?_
      refine wp_seq ?_
      refine reg ?_
      refine plain (y_move rfl rfl) rfl rfl rfl H26 ?_
      clear H26; intro a64 H64
      obtain ⟨A2, c2, hv2, hR2, hm2⟩ := row_shape H64.sep (by repeat (first | exact List.Mem.head _ | apply List.Mem.tail))
      subst hv2
      refine plain (y_bstr (p := (Oct.parts l k).flatten) rfl Try.underlying65 Try.underlying5 Try.underlying9 rfl rfl (rd_row (by repeat (first | exact List.Mem.head _ | apply List.Mem.tail)))) rfl rfl rfl H64 ?_
      clear H64; intro a65 H65
      refine plain (y_assign rfl rfl) rfl rfl rfl H65 ?_
      clear H65; intro a66 H66
      refine plain (y_assign rfl rfl) rfl rfl rfl H66 ?_
      clear H66; intro a67 H67
      refine fin ?_
      refine then_n ?_
      refine wp_ret ?_
      -- return 3
      refine ret2 rfl H67 rfl rfl ?_
      exact ⟨_, [], rfl, ⟨by rw [Oct.parts_flatten (by omega), Oct.list_ok (by omega) (by have := Oct.tf_all (l := l) (k := k) (by omega); rw [this] at hok; omega)], rfl⟩, H67.sep.sub (List.nil_sublist _)⟩

end Go.Proofs.Ytlaojmcpiggfeaa.TNum
