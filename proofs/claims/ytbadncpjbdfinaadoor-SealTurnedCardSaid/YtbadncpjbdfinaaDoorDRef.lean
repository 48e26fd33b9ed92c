/- Part of a proof about given Go functions: contracts of functions, or plain laws. -/
import Derived.Test.YtbadncpjbdfinaaDoorSxV
import Derived.Test.YtbadncpjbdfinaaDoorSxI
import Derived.Test.YtbadncpjbdfinaaDoorSha
import Derived.Test.YtbadncpjbdfinaaDoorProg
set_option linter.unusedVariables false
set_option linter.unusedSimpArgs false
namespace Go.Proofs.YtbadncpjbdfinaaDoor.D_Ref
open Go.Sx Go.RowKit

theorem z_call37 : callB Tryd.prog 37 = true := by kernel_rfl
theorem z_size59 : sizeB Tryd.prog 59 = some 1 := by kernel_rfl
theorem z_zero59 : zeroL Tryd.prog 59 = some ([.int .u32 0]) := by kernel_rfl
theorem z_agg59 : aggB Tryd.prog 59 = some false := by kernel_rfl
theorem z_size5 : sizeB Tryd.prog 5 = some 1 := by kernel_rfl
theorem z_zero5 : zeroL Tryd.prog 5 = some ([.int .u8 0]) := by kernel_rfl
theorem z_slice44 : sliceB Tryd.prog 44 = some (5, 1, 1) := by kernel_rfl
theorem z_notint44 : notIntB Tryd.prog 44 = true := by kernel_rfl

set_option maxRecDepth 100000 in
set_option maxHeartbeats 1000000 in
theorem rright (x : BitVec 32) (n : Nat) (h0 : 0 < n) (h1 : n < 32) (w : World) : Calls Tryd.prog 37 #[u32 x, .int .i64 (n : Int)] w (Gives (u32 (Sha.rotr x n)) [] w) := by
  refine enterL (args := [u32 x, .int .i64 (n : Int)]) Tryd.func37 rfl rfl (l := []) (Sep.refl _) ?_
  intro a0 H0
  refine wp_seq ?_
  refine reg ?_
  refine plain (y_assign rfl rfl) rfl rfl rfl H0 ?_
  clear H0; intro a1 H1
  refine fin ?_
  refine then_n ?_
  refine wp_seq ?_
  refine qreg (by kernel_rfl) (by kernel_rfl) H1 ?_
  have F2 := H1.fr
  clear H1
  refine qplain (y_move rfl rfl) rfl rfl rfl F2 ?_
  clear F2; intro a3 H3
  refine qplain (y_move rfl rfl) rfl rfl rfl H3 ?_
  clear H3; intro a4 H4
  refine qplain (y_shr32 rfl rfl rfl (by omega)) rfl rfl rfl H4 ?_
  clear H4; intro a5 H5
  refine qplain (y_move rfl rfl) rfl rfl rfl H5 ?_
  clear H5; intro a6 H6
  refine qplain (y_move rfl rfl) rfl rfl rfl H6 ?_
  clear H6; intro a7 H7
  refine qplain (y_sub rfl rfl rfl (show IntKind.i64.wrap ((32 : Int) - (n : Int)) = ((32 - n : Nat) : Int) by rw [w64 (by omega) (by omega)]; omega)) rfl rfl rfl H7 ?_
  clear H7; intro a8 H8
  refine qplain (y_shl32 rfl rfl rfl (by omega)) rfl rfl rfl H8 ?_
  clear H8; intro a9 H9
  refine qplain (y_add32 rfl rfl rfl) rfl rfl rfl H9 ?_
  clear H9; intro a10 H10
  refine qplain (y_assign rfl rfl) rfl rfl rfl H10 ?_
  clear H10; intro a11 H11
  refine qfin H11 ?_
  clear H11; intro w12 H12
  refine then_n ?_
  refine wp_ret ?_
  -- return 1
  refine ret1 rfl H12 rfl ?_
  exact ⟨_, [], rfl, ⟨by rw [rot_or x n h0 h1]; rfl, rfl⟩, H12.sep.sub (List.nil_sublist _)⟩
set_option maxRecDepth 100000 in
set_option maxHeartbeats 1000000 in
theorem three (x : BitVec 32) (a b c : Nat) (ha0 : 0 < a) (ha1 : a < 32) (hb0 : 0 < b) (hb1 : b < 32) (hc0 : 0 < c) (hc1 : c < 32) (w : World) : Calls Tryd.prog 38 #[u32 x, .int .i64 (a : Int), .int .i64 (b : Int), .int .i64 (c : Int)] w (Gives (u32 (Sha.rotr x a ^^^ Sha.rotr x b ^^^ Sha.rotr x c)) [] w) := by
  refine enterL (args := [u32 x, .int .i64 (a : Int), .int .i64 (b : Int), .int .i64 (c : Int)]) Tryd.func38 rfl rfl (l := []) (Sep.refl _) ?_
  intro a0 H0
  refine wp_seq ?_
  refine reg ?_
  refine plain (y_assign rfl rfl) rfl rfl rfl H0 ?_
  clear H0; intro a1 H1
  refine fin ?_
  refine then_n ?_
  refine wp_seq ?_
  refine reg ?_
  refine plain (y_move rfl rfl) rfl rfl rfl H1 ?_
  clear H1; intro a2 H2
  refine plain (y_move rfl rfl) rfl rfl rfl H2 ?_
  clear H2; intro a3 H3
  refine st_callg rfl z_call37 rfl rfl rfl rfl H3 (rright x a ha0 ha1 _) ?_
  clear H3; intro a4 w4 H4
  refine plain (y_move rfl rfl) rfl rfl rfl H4 ?_
  clear H4; intro a5 H5
  refine plain (y_move rfl rfl) rfl rfl rfl H5 ?_
  clear H5; intro a6 H6
  refine st_callg rfl z_call37 rfl rfl rfl rfl H6 (rright x b hb0 hb1 _) ?_
  clear H6; intro a7 w7 H7
  refine plain (y_xor32 rfl rfl rfl) rfl rfl rfl H7 ?_
  clear H7; intro a8 H8
  refine plain (y_move rfl rfl) rfl rfl rfl H8 ?_
  clear H8; intro a9 H9
  refine plain (y_move rfl rfl) rfl rfl rfl H9 ?_
  clear H9; intro a10 H10
  refine st_callg rfl z_call37 rfl rfl rfl rfl H10 (rright x c hc0 hc1 _) ?_
  clear H10; intro a11 w11 H11
  refine plain (y_xor32 rfl rfl rfl) rfl rfl rfl H11 ?_
  clear H11; intro a12 H12
  refine plain (y_assign rfl rfl) rfl rfl rfl H12 ?_
  clear H12; intro a13 H13
  refine fin ?_
  refine then_n ?_
  refine wp_ret ?_
  -- return 1
  refine ret1 rfl H13 rfl ?_
  exact ⟨_, [], rfl, ⟨rfl, rfl⟩, H13.sep.sub (List.nil_sublist _)⟩
set_option maxRecDepth 100000 in
set_option maxHeartbeats 2000000 in
theorem word (n : Nat) (hn : n < 64) (w : World) : Calls Tryd.prog 39 #[.int .i64 (n : Int)] w (Gives (u32 (Sha.K.getD n 0)) [] w) := by
  refine enterL (args := [.int .i64 (n : Int)]) Tryd.func39 rfl rfl (l := []) (Sep.refl _) ?_
  intro a0 H0
  refine wp_seq ?_
  refine reg ?_
  refine plain (y_assign rfl rfl) rfl rfl rfl H0 ?_
  clear H0; intro a1 H1
  refine fin ?_
  refine then_n ?_
  refine wp_seq ?_
  refine reg ?_
  refine st_buildSlice1 (xs := [.const (.int .u32 (1116352408)), .const (.int .u32 (1899447441)), .const (.int .u32 (3049323471)), .const (.int .u32 (3921009573)), .const (.int .u32 (961987163)), .const (.int .u32 (1508970993)), .const (.int .u32 (2453635748)), .const (.int .u32 (2870763221)), .const (.int .u32 (3624381080)), .const (.int .u32 (310598401)), .const (.int .u32 (607225278)), .const (.int .u32 (1426881987)), .const (.int .u32 (1925078388)), .const (.int .u32 (2162078206)), .const (.int .u32 (2614888103)), .const (.int .u32 (3248222580)), .const (.int .u32 (3835390401)), .const (.int .u32 (4022224774)), .const (.int .u32 (264347078)), .const (.int .u32 (604807628)), .const (.int .u32 (770255983)), .const (.int .u32 (1249150122)), .const (.int .u32 (1555081692)), .const (.int .u32 (1996064986)), .const (.int .u32 (2554220882)), .const (.int .u32 (2821834349)), .const (.int .u32 (2952996808)), .const (.int .u32 (3210313671)), .const (.int .u32 (3336571891)), .const (.int .u32 (3584528711)), .const (.int .u32 (113926993)), .const (.int .u32 (338241895)), .const (.int .u32 (666307205)), .const (.int .u32 (773529912)), .const (.int .u32 (1294757372)), .const (.int .u32 (1396182291)), .const (.int .u32 (1695183700)), .const (.int .u32 (1986661051)), .const (.int .u32 (2177026350)), .const (.int .u32 (2456956037)), .const (.int .u32 (2730485921)), .const (.int .u32 (2820302411)), .const (.int .u32 (3259730800)), .const (.int .u32 (3345764771)), .const (.int .u32 (3516065817)), .const (.int .u32 (3600352804)), .const (.int .u32 (4094571909)), .const (.int .u32 (275423344)), .const (.int .u32 (430227734)), .const (.int .u32 (506948616)), .const (.int .u32 (659060556)), .const (.int .u32 (883997877)), .const (.int .u32 (958139571)), .const (.int .u32 (1322822218)), .const (.int .u32 (1537002063)), .const (.int .u32 (1747873779)), .const (.int .u32 (1955562222)), .const (.int .u32 (2024104815)), .const (.int .u32 (2227730452)), .const (.int .u32 (2361852424)), .const (.int .u32 (2428436474)), .const (.int .u32 (2756734187)), .const (.int .u32 (3204031479)), .const (.int .u32 (3329325298))]) rfl Tryd.underlying66 z_size59 z_zero59 rfl rfl rfl rfl rfl rfl rfl rfl rfl H1 ?_
  clear H1; intro b2 a2 w2 H2
  refine plain (y_assign rfl rfl) rfl rfl rfl H2 ?_
  clear H2; intro a3 H3
  refine fin ?_
  refine then_n ?_
  refine wp_seq ?_
  refine reg ?_
  refine plain (y_move rfl rfl) rfl rfl rfl H3 ?_
  clear H3; intro a4 H4
  refine plain (y_move rfl rfl) rfl rfl rfl H4 ?_
  clear H4; intro a5 H5
  refine plain (y_ixR rfl Tryd.underlying66 z_size59 rfl rfl (by omega) (by omega) (rd_blkA (by repeat (first | exact List.Mem.head _ | apply List.Mem.tail))) (by decide)) rfl rfl rfl H5 ?_
  clear H5; intro a6 H6
  refine plain (y_loadR rfl z_agg59 rfl (rd_blkA (by repeat (first | exact List.Mem.head _ | apply List.Mem.tail))) (by rw [show (n : Int).toNat * 1 = n by omega]; exact u32_get Sha.K n hn)) rfl rfl rfl H6 ?_
  clear H6; intro a7 H7
  refine plain (y_assign rfl rfl) rfl rfl rfl H7 ?_
  clear H7; intro a8 H8
  refine fin ?_
  refine then_n ?_
  refine wp_ret ?_
  -- return 1
  refine ret1 rfl H8 rfl ?_
  exact ⟨_, [], rfl, ⟨rfl, rfl⟩, H8.sep.sub (List.nil_sublist _)⟩
set_option maxRecDepth 100000 in
set_option maxHeartbeats 2000000 in
theorem padded (s : List UInt8) (hs : s.length ≤ 140737488355000) (w : World) : Calls Tryd.prog 36 #[str s] w (Post [] w (fun u l => l = [It.row 5 1 u (Sha.pad s).length ((Sha.pad s).map u8)])) := by
  refine enterL (args := [str s]) Tryd.func36 rfl rfl (l := []) (Sep.refl _) ?_
  intro a0 H0
  refine wp_seq ?_
  refine reg ?_
  refine plain (y_assign rfl rfl) rfl rfl rfl H0 ?_
  clear H0; intro a1 H1
  refine fin ?_
  refine then_n ?_
  refine wp_seq ?_
  refine reg ?_
  refine plain (y_move rfl rfl) rfl rfl rfl H1 ?_
  clear H1; intro a2 H2
  refine st_strb rfl Tryd.underlying9 Tryd.underlying44 Tryd.underlying5 rfl (by unfold maxLen; omega) rfl rfl rfl H2 ?_
  clear H2; intro v3 a3 w3 H3
  refine plain (y_assign rfl rfl) rfl rfl rfl H3 ?_
  clear H3; intro a4 H4
  refine fin ?_
  refine then_n ?_
  refine wp_seq ?_
  refine reg ?_
  refine plain (y_move rfl rfl) rfl rfl rfl H4 ?_
  clear H4; intro a5 H5
  refine st_buildSlice1 (xs := [.const (.int .u8 (128))]) rfl Tryd.underlying44 z_size5 z_zero5 rfl rfl rfl rfl rfl rfl rfl rfl rfl H5 ?_
  clear H5; intro b6 a6 w6 H6
  refine st_append rfl z_slice44 z_notint44 rfl rfl (fun _ => (by repeat (first | exact Upd.head _ _ _ | apply Upd.tail))) (fun w hs => Src.slice ((rd_blkA (by repeat (first | exact List.Mem.head _ | apply List.Mem.tail))) w hs) rfl (by simp [Value.oneCell'])) (by unfold maxLen; omega) (by omega) rfl rfl rfl H6 ?_
  clear H6; intro v7 a7 w7 hnil7 H7
  refine plain (y_assign rfl rfl) rfl rfl rfl H7 ?_
  clear H7; intro a8 H8
  refine fin ?_
  refine then_n ?_
  refine wp_seq ?_
  refine wp_block ?_
  have hzz : Sha.zeros s.length = (119 - s.length % 64) % 64 := rfl
  refine loop (ι := Nat × Value) (fun x => [(0, str s), (3, x.2)]) (fun x => [It.row 5 1 x.2 (s.length + 1 + x.1) ((s ++ [128] ++ List.replicate x.1 0).map u8)]) (fun x => x.1 ≤ Sha.zeros s.length) (fun x => Sha.zeros s.length - x.1) ((0, v7)) (Nat.zero_le _) ((H8.drop (List.Sublist.cons _ (List.Sublist.refl _))).weak ⟨rfl, rfl, trivial⟩ (ir (by simp) (by simp))) ?_
  clear H8; intro x a9 w9 hok9 H9
  obtain ⟨z, v⟩ := x
  dsimp only at hok9 H9
  have hok := hok9
  obtain ⟨A0, c0, hv0, hR0, hm0⟩ := row_shape (v := v) H9.sep (by repeat (first | exact List.Mem.head _ | apply List.Mem.tail))
  subst hv0
  refine wp_seq ?_
  refine wp_seq ?_
  refine reg ?_
  refine plain (y_move rfl rfl) rfl rfl rfl H9 ?_
  clear H9; intro a10 H10
  refine plain (y_len rfl Tryd.underlying44 rfl) rfl rfl rfl H10 ?_
  clear H10; intro a11 H11
  refine plain (y_rem rfl rfl rfl (by decide) (Int.tmod_eq_emod_of_nonneg (by omega))) rfl rfl rfl H11 ?_
  clear H11; intro a12 H12
  refine plain (y_neq rfl rfl rfl) rfl rfl rfl H12 ?_
  clear H12; intro a13 H13
  refine fin ?_
  refine then_n ?_
  refine cnd_d H13 rfl (fun hc14 => ?_) (fun hc14 => ?_) -- cond 1
  · skip
    refine wp_skip ?_
    refine then_n ?_
    refine wp_block ?_
    refine reg ?_
    refine plain (y_move rfl rfl) rfl rfl rfl H13 ?_
    clear H13; intro a15 H15
    refine st_buildSlice1 (xs := [.const (.int .u8 (0))]) rfl Tryd.underlying44 z_size5 z_zero5 rfl rfl rfl rfl rfl rfl rfl rfl rfl H15 ?_
    clear H15; intro b16 a16 w16 H16
    refine st_append rfl z_slice44 z_notint44 rfl rfl (fun _ => (by repeat (first | exact Upd.head _ _ _ | apply Upd.tail))) (fun w hs => Src.slice ((rd_blkA (by repeat (first | exact List.Mem.head _ | apply List.Mem.tail))) w hs) rfl (by simp [Value.oneCell'])) (by unfold maxLen; omega) (by omega) rfl rfl rfl H16 ?_
    clear H16; intro v17 a17 w17 hnil17 H17
    refine plain (y_assign rfl rfl) rfl rfl rfl H17 ?_
    clear H17; intro a18 H18
    refine fin ?_
    refine inb_n ?_
    refine then_n ?_
    refine ⟨(z + 1, v17), by dsimp only; omega, by dsimp only; omega, (H18.drop (List.Sublist.cons _ (List.Sublist.refl _))).weak ⟨rfl, rfl, trivial⟩ (ir (by first | (simp; omega) | simp) (by simp [List.replicate_succ']))⟩
  · skip
    refine wp_exit ?_
    refine then_x ?_
    refine then_x ?_
    refine inb_hit ?_
    refine then_n ?_
    refine wp_seq ?_
    refine reg ?_
    refine plain (y_move rfl rfl) rfl rfl rfl H13 ?_
    clear H13; intro a19 H19
    refine plain (y_slen rfl Tryd.underlying9 rfl) rfl rfl rfl H19 ?_
    clear H19; intro a20 H20
    refine plain (y_conv rfl Tryd.underlying3 Tryd.underlying64 rfl (by first | exact wu64 (by omega) (by omega) | rfl)) rfl rfl rfl H20 ?_
    clear H20; intro a21 H21
    refine plain (y_mul rfl rfl rfl (by first | exact wu64 (by omega) (by omega) | rfl)) rfl rfl rfl H21 ?_
    clear H21; intro a22 H22
    refine plain (y_assign rfl rfl) rfl rfl rfl H22 ?_
    clear H22; intro a23 H23
    refine fin ?_
    refine then_n ?_
    refine wp_seq ?_
    refine wp_seq ?_
    refine reg ?_
    refine plain (y_assign rfl rfl) rfl rfl rfl H23 ?_
    clear H23; intro a24 H24
    refine fin ?_
    refine then_n ?_
    refine wp_block ?_
    refine loop (ι := Nat × Value) (fun x => [(3, x.2), (4, .int .u64 ((8 * s.length : Nat) : Int)), (5, .int .i64 (7 - (x.1 : Int)))]) (fun x => [It.row 5 1 x.2 (s.length + 1 + Sha.zeros s.length + x.1) (((s ++ [128] ++ List.replicate (Sha.zeros s.length) 0) ++ (Sha.be (8 * s.length)).take x.1).map u8)]) (fun x => x.1 ≤ 8) (fun x => 8 - x.1) ((0, .slice A0 (s.length + 1 + z) c0)) (Nat.zero_le _) (H24.weak ⟨rfl, fi rfl (by omega), rfl, trivial⟩ (by rw [show Sha.zeros s.length = z by omega]; exact ir (by simp) (by simp))) ?_
    clear H24; intro x a25 w25 hok25 H25
    obtain ⟨k, v⟩ := x
    dsimp only at hok25 H25
    have hok2 := hok25
    obtain ⟨A1, c1, hv1, hR1, hm1⟩ := row_shape (v := v) H25.sep (by repeat (first | exact List.Mem.head _ | apply List.Mem.tail))
    subst hv1
    refine wp_seq ?_
    refine wp_seq ?_
    refine reg ?_
    refine plain (y_move rfl rfl) rfl rfl rfl H25 ?_
    clear H25; intro a26 H26
    refine plain (y_geq rfl rfl rfl) rfl rfl rfl H26 ?_
    clear H26; intro a27 H27
    refine fin ?_
    refine then_n ?_
    refine cnd_d H27 rfl (fun hc28 => ?_) (fun hc28 => ?_) -- cond 2
    · skip
      refine wp_skip ?_
      refine then_n ?_
      refine wp_seq ?_
      refine wp_block ?_
      refine reg ?_
      refine plain (y_move rfl rfl) rfl rfl rfl H27 ?_
      clear H27; intro a29 H29
      refine plain (y_move rfl rfl) rfl rfl rfl H29 ?_
      clear H29; intro a30 H30
      refine plain (y_move rfl rfl) rfl rfl rfl H30 ?_
      clear H30; intro a31 H31
      refine plain (y_mul rfl rfl rfl (by first | exact w64 (by omega) (by omega) | rfl)) rfl rfl rfl H31 ?_
      clear H31; intro a32 H32
      refine plain (y_shr rfl rfl rfl (by omega) (show Int.fdiv ((8 * s.length : Nat) : Int) (2 ^ (min ((8 * (7 - (k : Int))).toNat) IntKind.u64.bits)) = ((8 * s.length / 256 ^ (7 - k) : Nat) : Int) by rw [show (8 * (7 - (k : Int))) = 8 * ((7 - k : Nat) : Int) by omega]; exact shrU _ (7 - k) (by omega))) rfl rfl rfl H32 ?_
      clear H32; intro a33 H33
      refine plain (y_conv rfl Tryd.underlying64 Tryd.underlying5 rfl (wu8_nat _)) rfl rfl rfl H33 ?_
      clear H33; intro a34 H34
      refine st_buildSlice1 (xs := [.tmp 31]) rfl Tryd.underlying44 z_size5 z_zero5 rfl rfl rfl rfl rfl rfl rfl rfl rfl H34 ?_
      clear H34; intro b35 a35 w35 H35
      refine st_append rfl z_slice44 z_notint44 rfl rfl (fun _ => (by repeat (first | exact Upd.head _ _ _ | apply Upd.tail))) (fun w hs => Src.slice ((rd_blkA (by repeat (first | exact List.Mem.head _ | apply List.Mem.tail))) w hs) rfl (by simp [Value.oneCell'])) (by unfold maxLen; omega) (by omega) rfl rfl rfl H35 ?_
      clear H35; intro v36 a36 w36 hnil36 H36
      refine plain (y_assign rfl rfl) rfl rfl rfl H36 ?_
      clear H36; intro a37 H37
      refine fin ?_
      refine inb_n ?_
      refine then_n ?_
      refine reg ?_
      refine plain (y_move rfl rfl) rfl rfl rfl H37 ?_
      clear H37; intro a38 H38
      refine plain (y_sub rfl rfl rfl (by first | exact w64 (by omega) (by omega) | rfl)) rfl rfl rfl H38 ?_
      clear H38; intro a39 H39
      refine plain (y_assign rfl rfl) rfl rfl rfl H39 ?_
      clear H39; intro a40 H40
      refine fin ?_
      refine then_n ?_
      refine ⟨(k + 1, v36), by dsimp only; omega, by dsimp only; omega, (H40.drop (List.Sublist.cons _ (List.Sublist.refl _))).weak ⟨rfl, rfl, fi rfl (by dsimp only; omega), trivial⟩ (ir (by first | (simp; omega) | simp) (by rw [Sha.be_take (by omega)]; simp))⟩
    · skip
      refine wp_exit ?_
      refine then_x ?_
      refine then_x ?_
      refine inb_hit ?_
      refine then_n ?_
      refine wp_seq ?_
      refine reg ?_
      refine plain (y_move rfl rfl) rfl rfl rfl H27 ?_
      clear H27; intro a41 H41
      refine plain (y_assign rfl rfl) rfl rfl rfl H41 ?_
      clear H41; intro a42 H42
      refine fin ?_
      refine then_n ?_
      refine wp_ret ?_
      -- return 1
      refine ret1 rfl H42 rfl ?_
      have hk8 : k = 8 := by omega
      subst hk8
      refine ⟨_, _, rfl, ?_, H42.sep⟩
      have e1 : s.length + 1 + Sha.zeros s.length + 8 = (Sha.pad s).length := by rw [Sha.pad_length]; omega
      have e2 : s ++ [128] ++ List.replicate (Sha.zeros s.length) 0 ++ (Sha.be (8 * s.length)).take 8 = Sha.pad s := by rw [List.take_of_length_le (by rw [Sha.be_length]; omega)]; rfl
      show [_] = [_]
      rw [e1, e2]

end Go.Proofs.YtbadncpjbdfinaaDoor.D_Ref
