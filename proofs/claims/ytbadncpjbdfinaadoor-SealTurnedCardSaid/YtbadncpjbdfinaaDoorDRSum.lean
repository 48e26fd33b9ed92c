/- Part of a proof about given Go functions: contracts of functions, or plain laws. -/
import Derived.Test.YtbadncpjbdfinaaDoorSxV
import Derived.Test.YtbadncpjbdfinaaDoorSxI
import Derived.Test.YtbadncpjbdfinaaDoorSha
import Derived.Test.YtbadncpjbdfinaaDoorProg
import Derived.Test.YtbadncpjbdfinaaDoorDRef
set_option linter.unusedVariables false
set_option linter.unusedSimpArgs false
namespace Go.Proofs.YtbadncpjbdfinaaDoor.D_RSum
open Go.Sx Go.RowKit Go.Proofs.YtbadncpjbdfinaaDoor.D_Ref

theorem z_zero23 : zeroL Tryd.prog 23 = some (List.replicate 32 (.int .u8 0)) := by kernel_rfl
theorem z_call36 : callB Tryd.prog 36 = true := by kernel_rfl
theorem z_size59 : sizeB Tryd.prog 59 = some 1 := by kernel_rfl
theorem z_zero59 : zeroL Tryd.prog 59 = some ([.int .u32 0]) := by kernel_rfl
theorem z_slice66 : sliceB Tryd.prog 66 = some (59, 1, 4) := by kernel_rfl
theorem z_zval59 : (Tryd.prog.info? 59).bind (·.zero) = some (.int .u32 0) := by kernel_rfl
theorem z_size5 : sizeB Tryd.prog 5 = some 1 := by kernel_rfl
theorem z_agg5 : aggB Tryd.prog 5 = some false := by kernel_rfl
theorem z_agg59 : aggB Tryd.prog 59 = some false := by kernel_rfl
theorem z_call37 : callB Tryd.prog 37 = true := by kernel_rfl
theorem z_notint66 : notIntB Tryd.prog 66 = true := by kernel_rfl
theorem z_call38 : callB Tryd.prog 38 = true := by kernel_rfl
theorem z_call39 : callB Tryd.prog 39 = true := by kernel_rfl
theorem z_size23 : sizeB Tryd.prog 23 = some 32 := by kernel_rfl
theorem z_agg23 : aggB Tryd.prog 23 = some true := by kernel_rfl

set_option maxRecDepth 100000 in
set_option maxHeartbeats 8000000 in
theorem rsum (s : List UInt8) (hs : s.length ≤ 140737488355000) (w : World) : Calls Tryd.prog 22 #[str s] w (Gives (.agg ((Sha.sum s).map u8).toArray) [] w) := by
  have hpm := Sha.pad_mod s
  have hpl := Sha.pad_length s
  have hzz : Sha.zeros s.length ≤ 63 := by unfold Sha.zeros; omega
  refine enterL (args := [str s]) Tryd.func22 rfl rfl (l := []) (Sep.refl _) ?_
  intro a0 H0
  refine wp_seq ?_
  refine reg ?_
  refine st_alloc rfl z_zero23 rfl rfl rfl H0 ?_
  clear H0; intro b1 a1 w1 H1
  refine fin ?_
  refine then_n ?_
  refine wp_seq ?_
  refine reg ?_
  refine plain (y_move rfl rfl) rfl rfl rfl H1 ?_
  clear H1; intro a2 H2
  refine st_call rfl z_call36 rfl rfl rfl rfl H2 (padded s hs _) ?_
  clear H2; intro v3 l3 a3 w3 hf3 H3
  obtain rfl := hf3
  simp only [List.cons_append, List.nil_append] at H3
  obtain ⟨Ap, cp, hv3, hRp, hmp⟩ := row_shape (v := v3) H3.sep (by repeat (first | exact List.Mem.head _ | apply List.Mem.tail))
  subst hv3
  refine plain (y_assign rfl rfl) rfl rfl rfl H3 ?_
  clear H3; intro a4 H4
  refine fin ?_
  refine then_n ?_
  refine wp_seq ?_
  refine reg ?_
  refine st_buildSlice1 (xs := [.const (.int .u32 (1779033703)), .const (.int .u32 (3144134277)), .const (.int .u32 (1013904242)), .const (.int .u32 (2773480762)), .const (.int .u32 (1359893119)), .const (.int .u32 (2600822924)), .const (.int .u32 (528734635)), .const (.int .u32 (1541459225))]) rfl Tryd.underlying66 z_size59 z_zero59 rfl rfl rfl rfl rfl rfl rfl rfl rfl H4 ?_
  clear H4; intro b5 a5 w5 H5
  refine plain (y_assign rfl rfl) rfl rfl rfl H5 ?_
  clear H5; intro a6 H6
  refine fin ?_
  refine then_n ?_
  refine wp_seq ?_
  refine wp_seq ?_
  refine reg ?_
  refine plain (y_assign rfl rfl) rfl rfl rfl H6 ?_
  clear H6; intro a7 H7
  refine fin ?_
  refine then_n ?_
  refine wp_block ?_
  refine loop (ι := Nat) (fun n => [(2, .pointer (some ⟨b1, 0, none⟩)), (3, .slice Ap (Sha.pad s).length cp), (4, .slice (some ⟨b5, 0, none⟩) 8 8), (5, .int .i64 ((64 * n : Nat) : Int))]) (fun n => [It.blk b5 59 ((Sha.blocks Sha.H0 (Sha.pad s) n).map u32), It.row 5 1 (.slice Ap (Sha.pad s).length cp) (Sha.pad s).length ((Sha.pad s).map u8), It.blk b1 23 (List.replicate 32 (.int .u8 0))]) (fun n => 64 * n ≤ (Sha.pad s).length) (fun n => (Sha.pad s).length - 64 * n) (0) (by omega) (H7.weak ⟨rfl, rfl, rfl, rfl, trivial⟩ rfl) ?_
  clear H7; intro n a8 w8 hok8 H8
  have hok := hok8
  have hvl := Sha.blocks_length (s := Sha.H0) rfl (Sha.pad s) n
  refine wp_seq ?_
  refine wp_seq ?_
  refine reg ?_
  refine plain (y_move rfl rfl) rfl rfl rfl H8 ?_
  clear H8; intro a9 H9
  refine plain (y_move rfl rfl) rfl rfl rfl H9 ?_
  clear H9; intro a10 H10
  refine plain (y_len rfl Tryd.underlying44 rfl) rfl rfl rfl H10 ?_
  clear H10; intro a11 H11
  refine plain (y_lss rfl rfl rfl) rfl rfl rfl H11 ?_
  clear H11; intro a12 H12
  refine fin ?_
  refine then_n ?_
  refine cnd_d H12 rfl (fun hc13 => ?_) (fun hc13 => ?_) -- cond 1
  · skip
    refine wp_skip ?_
    refine then_n ?_
    refine wp_seq ?_
    refine wp_block ?_
    refine wp_seq ?_
    refine reg ?_
    refine st_make rfl z_slice66 rfl rfl (by decide) (by decide) z_zval59 rfl rfl rfl H12 ?_
    clear H12; intro b14 a14 w14 H14
    refine plain (y_assign rfl rfl) rfl rfl rfl H14 ?_
    clear H14; intro a15 H15
    refine fin ?_
    refine then_n ?_
    refine wp_seq ?_
    refine wp_seq ?_
    refine reg ?_
    refine plain (y_assign rfl rfl) rfl rfl rfl H15 ?_
    clear H15; intro a16 H16
    refine fin ?_
    refine then_n ?_
    refine wp_block ?_
    refine loop (ι := Nat) (fun t => [(2, .pointer (some ⟨b1, 0, none⟩)), (3, .slice Ap (Sha.pad s).length cp), (4, .slice (some ⟨b5, 0, none⟩) 8 8), (5, .int .i64 ((64 * n : Nat) : Int)), (6, .slice (some ⟨b14, 0, none⟩) 64 64), (7, .int .i64 (t : Int))]) (fun t => [It.blk b14 59 ((Sha.sched (((Sha.pad s).drop (64 * n)).take 64) t).map u32 ++ List.replicate (64 - t) (.int .u32 0)), It.blk b5 59 ((Sha.blocks Sha.H0 (Sha.pad s) n).map u32), It.row 5 1 (.slice Ap (Sha.pad s).length cp) (Sha.pad s).length ((Sha.pad s).map u8), It.blk b1 23 (List.replicate 32 (.int .u8 0))]) (fun t => t ≤ 64) (fun t => 64 - t) (0) (Nat.zero_le _) (H16.weak ⟨rfl, rfl, rfl, rfl, rfl, rfl, trivial⟩ (ib2 (made_u32 64) rfl)) ?_
    clear H16; intro t a17 w17 hok17 H17
    have hok2 := hok17
    have hsl := Sha.sched_length (((Sha.pad s).drop (64 * n)).take 64) t
    refine wp_seq ?_
    refine wp_seq ?_
    refine reg ?_
    refine plain (y_move rfl rfl) rfl rfl rfl H17 ?_
    clear H17; intro a18 H18
    refine plain (y_lss rfl rfl rfl) rfl rfl rfl H18 ?_
    clear H18; intro a19 H19
    refine fin ?_
    refine then_n ?_
    refine cnd_d H19 rfl (fun hc20 => ?_) (fun hc20 => ?_) -- cond 2
    · skip
      refine wp_skip ?_
      refine then_n ?_
      refine wp_seq ?_
      refine wp_block ?_
      refine wp_seq ?_
      refine reg ?_
      refine plain (y_move rfl rfl) rfl rfl rfl H19 ?_
      clear H19; intro a21 H21
      refine plain (y_lss rfl rfl rfl) rfl rfl rfl H21 ?_
      clear H21; intro a22 H22
      refine fin ?_
      refine then_n ?_
      refine cnd_d H22 rfl (fun hc23 => ?_) (fun hc23 => ?_) -- cond 3
      · skip
        refine wp_seq ?_
        refine reg ?_
        refine plain (y_move rfl rfl) rfl rfl rfl H22 ?_
        clear H22; intro a24 H24
        refine plain (y_move rfl rfl) rfl rfl rfl H24 ?_
        clear H24; intro a25 H25
        refine plain (y_mul rfl rfl rfl (by first | exact w64 (by omega) (by omega) | rfl)) rfl rfl rfl H25 ?_
        clear H25; intro a26 H26
        refine plain (y_add rfl rfl rfl (by first | exact w64 (by omega) (by omega) | rfl)) rfl rfl rfl H26 ?_
        clear H26; intro a27 H27
        refine plain (y_assign rfl rfl) rfl rfl rfl H27 ?_
        clear H27; intro a28 H28
        refine fin ?_
        refine then_n ?_
        refine treg 32 (by kernel_rfl) (by kernel_rfl) H28 ?_
        clear H28; intro w29 H29
        refine tplain (y_move rfl rfl) rfl rfl rfl H29 ?_
        clear H29; intro a30 H30
        refine tplain (y_move rfl rfl) rfl rfl rfl H30 ?_
        clear H30; intro a31 H31
        refine tplain (y_move rfl rfl) rfl rfl rfl H31 ?_
        clear H31; intro a32 H32
        refine tplain (y_move rfl rfl) rfl rfl rfl H32 ?_
        clear H32; intro a33 H33
        refine tplain (y_ixR rfl Tryd.underlying44 z_size5 rfl rfl (by omega) (by omega) (rd_row (by repeat (first | exact List.Mem.head _ | apply List.Mem.tail))) (by first | (rw [List.length_map]; omega) | (simp; omega))) rfl rfl rfl H33 ?_
        clear H33; intro a34 H34
        refine tplain (y_loadR rfl z_agg5 rfl (rd_row (by repeat (first | exact List.Mem.head _ | apply List.Mem.tail))) (by rw [show (((64 * n : Nat) : Int) + 4 * (t : Int)).toNat * 1 = 64 * n + (4 * t) by omega]; exact map_get u8 _ _ 0 (by omega))) rfl rfl rfl H34 ?_
        clear H34; intro a35 H35
        refine tplain (y_wide rfl Tryd.underlying5 Tryd.underlying59 rfl) rfl rfl rfl H35 ?_
        clear H35; intro a36 H36
        refine tplain (y_mul32 rfl rfl (k32 rfl 16777216 (by decide))) rfl rfl rfl H36 ?_
        clear H36; intro a37 H37
        refine tplain (y_move rfl rfl) rfl rfl rfl H37 ?_
        clear H37; intro a38 H38
        refine tplain (y_move rfl rfl) rfl rfl rfl H38 ?_
        clear H38; intro a39 H39
        refine tplain (y_add rfl rfl rfl (by first | exact w64 (by omega) (by omega) | rfl)) rfl rfl rfl H39 ?_
        clear H39; intro a40 H40
        refine tplain (y_ixR rfl Tryd.underlying44 z_size5 rfl rfl (by omega) (by omega) (rd_row (by repeat (first | exact List.Mem.head _ | apply List.Mem.tail))) (by first | (rw [List.length_map]; omega) | (simp; omega))) rfl rfl rfl H40 ?_
        clear H40; intro a41 H41
        refine tplain (y_loadR rfl z_agg5 rfl (rd_row (by repeat (first | exact List.Mem.head _ | apply List.Mem.tail))) (by rw [show (((64 * n : Nat) : Int) + 4 * (t : Int) + 1).toNat * 1 = 64 * n + (4 * t + 1) by omega]; exact map_get u8 _ _ 0 (by omega))) rfl rfl rfl H41 ?_
        clear H41; intro a42 H42
        refine tplain (y_wide rfl Tryd.underlying5 Tryd.underlying59 rfl) rfl rfl rfl H42 ?_
        clear H42; intro a43 H43
        refine tplain (y_mul32 rfl rfl (k32 rfl 65536 (by decide))) rfl rfl rfl H43 ?_
        clear H43; intro a44 H44
        refine tplain (y_add32 rfl rfl rfl) rfl rfl rfl H44 ?_
        clear H44; intro a45 H45
        refine tplain (y_move rfl rfl) rfl rfl rfl H45 ?_
        clear H45; intro a46 H46
        refine tplain (y_move rfl rfl) rfl rfl rfl H46 ?_
        clear H46; intro a47 H47
        refine tplain (y_add rfl rfl rfl (by first | exact w64 (by omega) (by omega) | rfl)) rfl rfl rfl H47 ?_
        clear H47; intro a48 H48
        refine tplain (y_ixR rfl Tryd.underlying44 z_size5 rfl rfl (by omega) (by omega) (rd_row (by repeat (first | exact List.Mem.head _ | apply List.Mem.tail))) (by first | (rw [List.length_map]; omega) | (simp; omega))) rfl rfl rfl H48 ?_
        clear H48; intro a49 H49
        refine tplain (y_loadR rfl z_agg5 rfl (rd_row (by repeat (first | exact List.Mem.head _ | apply List.Mem.tail))) (by rw [show (((64 * n : Nat) : Int) + 4 * (t : Int) + 2).toNat * 1 = 64 * n + (4 * t + 2) by omega]; exact map_get u8 _ _ 0 (by omega))) rfl rfl rfl H49 ?_
        clear H49; intro a50 H50
        refine tplain (y_wide rfl Tryd.underlying5 Tryd.underlying59 rfl) rfl rfl rfl H50 ?_
        clear H50; intro a51 H51
        refine tplain (y_mul32 rfl rfl (k32 rfl 256 (by decide))) rfl rfl rfl H51 ?_
        clear H51; intro a52 H52
        refine tplain (y_add32 rfl rfl rfl) rfl rfl rfl H52 ?_
        clear H52; intro a53 H53
        refine tplain (y_move rfl rfl) rfl rfl rfl H53 ?_
        clear H53; intro a54 H54
        refine tplain (y_move rfl rfl) rfl rfl rfl H54 ?_
        clear H54; intro a55 H55
        refine tplain (y_add rfl rfl rfl (by first | exact w64 (by omega) (by omega) | rfl)) rfl rfl rfl H55 ?_
        clear H55; intro a56 H56
        refine tplain (y_ixR rfl Tryd.underlying44 z_size5 rfl rfl (by omega) (by omega) (rd_row (by repeat (first | exact List.Mem.head _ | apply List.Mem.tail))) (by first | (rw [List.length_map]; omega) | (simp; omega))) rfl rfl rfl H56 ?_
        clear H56; intro a57 H57
        refine tplain (y_loadR rfl z_agg5 rfl (rd_row (by repeat (first | exact List.Mem.head _ | apply List.Mem.tail))) (by rw [show (((64 * n : Nat) : Int) + 4 * (t : Int) + 3).toNat * 1 = 64 * n + (4 * t + 3) by omega]; exact map_get u8 _ _ 0 (by omega))) rfl rfl rfl H57 ?_
        clear H57; intro a58 H58
        refine tplain (y_wide rfl Tryd.underlying5 Tryd.underlying59 rfl) rfl rfl rfl H58 ?_
        clear H58; intro a59 H59
        refine tplain (y_add32 rfl rfl rfl) rfl rfl rfl H59 ?_
        clear H59; intro a60 H60
        refine tplain (y_ixL rfl Tryd.underlying66 z_size59 rfl rfl (by omega) (by omega) rfl) rfl rfl rfl H60 ?_
        clear H60; intro a61 H61
        refine tfin ?_
        refine st_store1 rfl z_size59 rfl rfl rfl (by repeat (first | exact Upd.head _ _ _ | apply Upd.tail)) (by first | decide | (simp; omega)) rfl rfl H61 ?_
        clear H61; intro w62 H62
        refine fin ?_
        refine inb_n ?_
        refine then_n ?_
        refine reg ?_
        refine plain (y_move rfl rfl) rfl rfl rfl H62 ?_
        clear H62; intro a63 H63
        refine plain (y_add rfl rfl rfl (by first | exact w64 (by omega) (by omega) | rfl)) rfl rfl rfl H63 ?_
        clear H63; intro a64 H64
        refine plain (y_assign rfl rfl) rfl rfl rfl H64 ?_
        clear H64; intro a65 H65
        refine fin ?_
        refine then_n ?_
        refine ⟨t + 1, by omega, by omega, H65.weak ⟨rfl, rfl, rfl, rfl, rfl, fi rfl (by omega), trivial⟩ (ib2 ?_ rfl)⟩
        rw [Sha.wd_mul, Sha.sched_wd _ (by omega), Sha.wd, Sha.blk_get _ _ _ (by omega), Sha.blk_get _ _ _ (by omega), Sha.blk_get _ _ _ (by omega), Sha.blk_get _ _ _ (by omega)]
        exact grow_set _ _ t 64 _ hsl (by omega)
      · skip
        refine wp_seq ?_
        refine qreg (by kernel_rfl) (by kernel_rfl) H22 ?_
        have F66 := H22.fr
        clear H22
        refine qplain (y_move rfl rfl) rfl rfl rfl F66 ?_
        clear F66; intro a67 H67
        refine qplain (y_move rfl rfl) rfl rfl rfl H67 ?_
        clear H67; intro a68 H68
        refine qplain (y_sub rfl rfl rfl (by first | exact w64 (by omega) (by omega) | rfl)) rfl rfl rfl H68 ?_
        clear H68; intro a69 H69
        refine qplain (y_ixL rfl Tryd.underlying66 z_size59 rfl rfl (by omega) (by omega) rfl) rfl rfl rfl H69 ?_
        clear H69; intro a70 H70
        refine qplain (y_loadB rfl z_agg59 rfl (by repeat (first | exact List.Mem.head _ | apply List.Mem.tail)) (by rw [show 0 + ((t : Int) - 15).toNat * 1 = t - 15 by omega]; exact grow_get _ _ _ (by omega))) rfl rfl rfl H70 ?_
        clear H70; intro a71 H71
        refine qcallg rfl z_call37 rfl rfl rfl rfl H71 (fun w hs => (rright _ 7 (by decide) (by decide) _)) ?_
        clear H71; intro a72 H72
        refine qplain (y_move rfl rfl) rfl rfl rfl H72 ?_
        clear H72; intro a73 H73
        refine qplain (y_move rfl rfl) rfl rfl rfl H73 ?_
        clear H73; intro a74 H74
        refine qplain (y_sub rfl rfl rfl (by first | exact w64 (by omega) (by omega) | rfl)) rfl rfl rfl H74 ?_
        clear H74; intro a75 H75
        refine qplain (y_ixL rfl Tryd.underlying66 z_size59 rfl rfl (by omega) (by omega) rfl) rfl rfl rfl H75 ?_
        clear H75; intro a76 H76
        refine qplain (y_loadB rfl z_agg59 rfl (by repeat (first | exact List.Mem.head _ | apply List.Mem.tail)) (by rw [show 0 + ((t : Int) - 15).toNat * 1 = t - 15 by omega]; exact grow_get _ _ _ (by omega))) rfl rfl rfl H76 ?_
        clear H76; intro a77 H77
        refine qcallg rfl z_call37 rfl rfl rfl rfl H77 (fun w hs => (rright _ 18 (by decide) (by decide) _)) ?_
        clear H77; intro a78 H78
        refine qplain (y_xor32 rfl rfl rfl) rfl rfl rfl H78 ?_
        clear H78; intro a79 H79
        refine qplain (y_move rfl rfl) rfl rfl rfl H79 ?_
        clear H79; intro a80 H80
        refine qplain (y_move rfl rfl) rfl rfl rfl H80 ?_
        clear H80; intro a81 H81
        refine qplain (y_sub rfl rfl rfl (by first | exact w64 (by omega) (by omega) | rfl)) rfl rfl rfl H81 ?_
        clear H81; intro a82 H82
        refine qplain (y_ixL rfl Tryd.underlying66 z_size59 rfl rfl (by omega) (by omega) rfl) rfl rfl rfl H82 ?_
        clear H82; intro a83 H83
        refine qplain (y_loadB rfl z_agg59 rfl (by repeat (first | exact List.Mem.head _ | apply List.Mem.tail)) (by rw [show 0 + ((t : Int) - 15).toNat * 1 = t - 15 by omega]; exact grow_get _ _ _ (by omega))) rfl rfl rfl H83 ?_
        clear H83; intro a84 H84
        refine qplain (y_shr32 (k := 3) rfl rfl rfl (by omega)) rfl rfl rfl H84 ?_
        clear H84; intro a85 H85
        refine qplain (y_xor32 rfl rfl rfl) rfl rfl rfl H85 ?_
        clear H85; intro a86 H86
        refine qplain (y_assign rfl rfl) rfl rfl rfl H86 ?_
        clear H86; intro a87 H87
        refine qfin H87 ?_
        clear H87; intro w88 H88
        refine then_n ?_
        refine wp_seq ?_
        refine qreg (by kernel_rfl) (by kernel_rfl) H88 ?_
        have F89 := H88.fr
        clear H88
        refine qplain (y_move rfl rfl) rfl rfl rfl F89 ?_
        clear F89; intro a90 H90
        refine qplain (y_move rfl rfl) rfl rfl rfl H90 ?_
        clear H90; intro a91 H91
        refine qplain (y_sub rfl rfl rfl (by first | exact w64 (by omega) (by omega) | rfl)) rfl rfl rfl H91 ?_
        clear H91; intro a92 H92
        refine qplain (y_ixL rfl Tryd.underlying66 z_size59 rfl rfl (by omega) (by omega) rfl) rfl rfl rfl H92 ?_
        clear H92; intro a93 H93
        refine qplain (y_loadB rfl z_agg59 rfl (by repeat (first | exact List.Mem.head _ | apply List.Mem.tail)) (by rw [show 0 + ((t : Int) - 2).toNat * 1 = t - 2 by omega]; exact grow_get _ _ _ (by omega))) rfl rfl rfl H93 ?_
        clear H93; intro a94 H94
        refine qcallg rfl z_call37 rfl rfl rfl rfl H94 (fun w hs => (rright _ 17 (by decide) (by decide) _)) ?_
        clear H94; intro a95 H95
        refine qplain (y_move rfl rfl) rfl rfl rfl H95 ?_
        clear H95; intro a96 H96
        refine qplain (y_move rfl rfl) rfl rfl rfl H96 ?_
        clear H96; intro a97 H97
        refine qplain (y_sub rfl rfl rfl (by first | exact w64 (by omega) (by omega) | rfl)) rfl rfl rfl H97 ?_
        clear H97; intro a98 H98
        refine qplain (y_ixL rfl Tryd.underlying66 z_size59 rfl rfl (by omega) (by omega) rfl) rfl rfl rfl H98 ?_
        clear H98; intro a99 H99
        refine qplain (y_loadB rfl z_agg59 rfl (by repeat (first | exact List.Mem.head _ | apply List.Mem.tail)) (by rw [show 0 + ((t : Int) - 2).toNat * 1 = t - 2 by omega]; exact grow_get _ _ _ (by omega))) rfl rfl rfl H99 ?_
        clear H99; intro a100 H100
        refine qcallg rfl z_call37 rfl rfl rfl rfl H100 (fun w hs => (rright _ 19 (by decide) (by decide) _)) ?_
        clear H100; intro a101 H101
        refine qplain (y_xor32 rfl rfl rfl) rfl rfl rfl H101 ?_
        clear H101; intro a102 H102
        refine qplain (y_move rfl rfl) rfl rfl rfl H102 ?_
        clear H102; intro a103 H103
        refine qplain (y_move rfl rfl) rfl rfl rfl H103 ?_
        clear H103; intro a104 H104
        refine qplain (y_sub rfl rfl rfl (by first | exact w64 (by omega) (by omega) | rfl)) rfl rfl rfl H104 ?_
        clear H104; intro a105 H105
        refine qplain (y_ixL rfl Tryd.underlying66 z_size59 rfl rfl (by omega) (by omega) rfl) rfl rfl rfl H105 ?_
        clear H105; intro a106 H106
        refine qplain (y_loadB rfl z_agg59 rfl (by repeat (first | exact List.Mem.head _ | apply List.Mem.tail)) (by rw [show 0 + ((t : Int) - 2).toNat * 1 = t - 2 by omega]; exact grow_get _ _ _ (by omega))) rfl rfl rfl H106 ?_
        clear H106; intro a107 H107
        refine qplain (y_shr32 (k := 10) rfl rfl rfl (by omega)) rfl rfl rfl H107 ?_
        clear H107; intro a108 H108
        refine qplain (y_xor32 rfl rfl rfl) rfl rfl rfl H108 ?_
        clear H108; intro a109 H109
        refine qplain (y_assign rfl rfl) rfl rfl rfl H109 ?_
        clear H109; intro a110 H110
        refine qfin H110 ?_
        clear H110; intro w111 H111
        refine then_n ?_
        refine treg 18 (by kernel_rfl) (by kernel_rfl) H111 ?_
        clear H111; intro w112 H112
        refine tplain (y_move rfl rfl) rfl rfl rfl H112 ?_
        clear H112; intro a113 H113
        refine tplain (y_move rfl rfl) rfl rfl rfl H113 ?_
        clear H113; intro a114 H114
        refine tplain (y_move rfl rfl) rfl rfl rfl H114 ?_
        clear H114; intro a115 H115
        refine tplain (y_move rfl rfl) rfl rfl rfl H115 ?_
        clear H115; intro a116 H116
        refine tplain (y_move rfl rfl) rfl rfl rfl H116 ?_
        clear H116; intro a117 H117
        refine tplain (y_sub rfl rfl rfl (by first | exact w64 (by omega) (by omega) | rfl)) rfl rfl rfl H117 ?_
        clear H117; intro a118 H118
        refine tplain (y_ixL rfl Tryd.underlying66 z_size59 rfl rfl (by omega) (by omega) rfl) rfl rfl rfl H118 ?_
        clear H118; intro a119 H119
        refine tplain (y_loadB rfl z_agg59 rfl (by repeat (first | exact List.Mem.head _ | apply List.Mem.tail)) (by rw [show 0 + ((t : Int) - 7).toNat * 1 = t - 7 by omega]; exact grow_get _ _ _ (by omega))) rfl rfl rfl H119 ?_
        clear H119; intro a120 H120
        refine tplain (y_add32 rfl rfl rfl) rfl rfl rfl H120 ?_
        clear H120; intro a121 H121
        refine tplain (y_move rfl rfl) rfl rfl rfl H121 ?_
        clear H121; intro a122 H122
        refine tplain (y_add32 rfl rfl rfl) rfl rfl rfl H122 ?_
        clear H122; intro a123 H123
        refine tplain (y_move rfl rfl) rfl rfl rfl H123 ?_
        clear H123; intro a124 H124
        refine tplain (y_move rfl rfl) rfl rfl rfl H124 ?_
        clear H124; intro a125 H125
        refine tplain (y_sub rfl rfl rfl (by first | exact w64 (by omega) (by omega) | rfl)) rfl rfl rfl H125 ?_
        clear H125; intro a126 H126
        refine tplain (y_ixL rfl Tryd.underlying66 z_size59 rfl rfl (by omega) (by omega) rfl) rfl rfl rfl H126 ?_
        clear H126; intro a127 H127
        refine tplain (y_loadB rfl z_agg59 rfl (by repeat (first | exact List.Mem.head _ | apply List.Mem.tail)) (by rw [show 0 + ((t : Int) - 16).toNat * 1 = t - 16 by omega]; exact grow_get _ _ _ (by omega))) rfl rfl rfl H127 ?_
        clear H127; intro a128 H128
        refine tplain (y_add32 rfl rfl rfl) rfl rfl rfl H128 ?_
        clear H128; intro a129 H129
        refine tplain (y_ixL rfl Tryd.underlying66 z_size59 rfl rfl (by omega) (by omega) rfl) rfl rfl rfl H129 ?_
        clear H129; intro a130 H130
        refine tfin ?_
        refine st_store1 rfl z_size59 rfl rfl rfl (by repeat (first | exact Upd.head _ _ _ | apply Upd.tail)) (by first | decide | (simp; omega)) rfl rfl H130 ?_
        clear H130; intro w131 H131
        refine fin ?_
        refine inb_n ?_
        refine then_n ?_
        refine reg ?_
        refine plain (y_move rfl rfl) rfl rfl rfl H131 ?_
        clear H131; intro a132 H132
        refine plain (y_add rfl rfl rfl (by first | exact w64 (by omega) (by omega) | rfl)) rfl rfl rfl H132 ?_
        clear H132; intro a133 H133
        refine plain (y_assign rfl rfl) rfl rfl rfl H133 ?_
        clear H133; intro a134 H134
        refine fin ?_
        refine then_n ?_
        refine ⟨t + 1, by omega, by omega, H134.weak ⟨rfl, rfl, rfl, rfl, rfl, fi rfl (by omega), trivial⟩ (ib2 ?_ rfl)⟩
        rw [Sha.next_comm, Sha.sched_next _ (by omega)]
        rw [Sha.nextW]
        skip
        exact grow_set _ _ t 64 _ hsl (by omega)
    · skip
      refine wp_exit ?_
      refine then_x ?_
      refine then_x ?_
      refine inb_hit ?_
      refine then_n ?_
      refine wp_seq ?_
      refine reg ?_
      refine st_buildSlice1 (xs := []) rfl Tryd.underlying66 z_size59 z_zero59 rfl rfl rfl rfl rfl rfl rfl rfl rfl H19 ?_
      clear H19; intro b135 a135 w135 H135
      refine plain (y_move rfl rfl) rfl rfl rfl H135 ?_
      clear H135; intro a136 H136
      replace H136 := H136.asRow (size := 1) (m := 0) (by repeat (first | exact Upd.head _ _ _ | apply Upd.tail)) rfl (by unfold maxLen; omega)
      refine st_append rfl z_slice66 z_notint66 rfl rfl (fun _ => (by repeat (first | exact Upd.head _ _ _ | apply Upd.tail))) (fun w hs => Src.slice (rd_blkA (by repeat (first | exact List.Mem.head _ | apply List.Mem.tail)) w hs) (by simp [hvl]) (by simp [Value.oneCell'])) (by unfold maxLen; omega) (by omega) rfl rfl rfl H136 ?_
      clear H136; intro v137 a137 w137 hnil137 H137
      refine plain (y_assign rfl rfl) rfl rfl rfl H137 ?_
      clear H137; intro a138 H138
      refine fin ?_
      refine then_n ?_
      refine wp_seq ?_
      refine wp_seq ?_
      refine reg ?_
      refine plain (y_assign rfl rfl) rfl rfl rfl H138 ?_
      clear H138; intro a139 H139
      refine fin ?_
      refine then_n ?_
      refine wp_block ?_
      have ht64 : t = 64 := by omega
      subst ht64
      obtain ⟨Ar, cr, hvr, hRr, hmr⟩ := row_shape (v := v137) H139.sep (by repeat (first | exact List.Mem.head _ | apply List.Mem.tail))
      subst hvr
      refine loop (ι := Nat × Option Addr × Nat) (fun x => [(2, .pointer (some ⟨b1, 0, none⟩)), (3, .slice Ap (Sha.pad s).length cp), (4, .slice (some ⟨b5, 0, none⟩) 8 8), (5, .int .i64 ((64 * n : Nat) : Int)), (6, .slice (some ⟨b14, 0, none⟩) 64 64), (11, .slice x.2.1 8 x.2.2), (12, .int .i64 (x.1 : Int))]) (fun x => [It.row 59 1 (.slice x.2.1 8 x.2.2) 8 ((Sha.rounds (Sha.blocks Sha.H0 (Sha.pad s) n) (Sha.sched (((Sha.pad s).drop (64 * n)).take 64) 64) x.1).map u32), It.blk b14 59 ((Sha.sched (((Sha.pad s).drop (64 * n)).take 64) 64).map u32 ++ List.replicate (64 - 64) (.int .u32 0)), It.blk b5 59 ((Sha.blocks Sha.H0 (Sha.pad s) n).map u32), It.row 5 1 (.slice Ap (Sha.pad s).length cp) (Sha.pad s).length ((Sha.pad s).map u8), It.blk b1 23 (List.replicate 32 (.int .u8 0))]) (fun x => x.1 ≤ 64) (fun x => 64 - x.1) ((0, Ar, cr)) (Nat.zero_le _) (H139.weak ⟨rfl, rfl, rfl, rfl, rfl, fv rfl (by rw [show 0 + 8 = 8 from rfl]), rfl, trivial⟩ rfl) ?_
      clear H139; intro x a140 w140 hok140 H140
      obtain ⟨t, Av, cv⟩ := x
      dsimp only at hok140 H140
      have hok3 := hok140
      have hwl := Sha.sched_length (((Sha.pad s).drop (64 * n)).take 64) 64
      have hrl := Sha.rounds_length (ws := Sha.sched (((Sha.pad s).drop (64 * n)).take 64) 64) hvl t
      refine wp_seq ?_
      refine wp_seq ?_
      refine reg ?_
      refine plain (y_move rfl rfl) rfl rfl rfl H140 ?_
      clear H140; intro a141 H141
      refine plain (y_lss rfl rfl rfl) rfl rfl rfl H141 ?_
      clear H141; intro a142 H142
      refine fin ?_
      refine then_n ?_
      refine cnd_d H142 rfl (fun hc143 => ?_) (fun hc143 => ?_) -- cond 4
      · skip
        refine wp_skip ?_
        refine then_n ?_
        refine wp_seq ?_
        refine wp_block ?_
        refine wp_seq ?_
        refine qreg (by kernel_rfl) (by kernel_rfl) H142 ?_
        have F144 := H142.fr
        clear H142
        refine qplain (y_move rfl rfl) rfl rfl rfl F144 ?_
        clear F144; intro a145 H145
        refine qplain (y_ixR rfl Tryd.underlying66 z_size59 rfl rfl (by omega) (by omega) (rd_row (by repeat (first | exact List.Mem.head _ | apply List.Mem.tail))) (by first | (rw [List.length_map]; omega) | (simp; omega))) rfl rfl rfl H145 ?_
        clear H145; intro a146 H146
        refine qplain (y_loadR rfl z_agg59 rfl (rd_row (by repeat (first | exact List.Mem.head _ | apply List.Mem.tail))) (u32_get _ 7 (by omega))) rfl rfl rfl H146 ?_
        clear H146; intro a147 H147
        refine qplain (y_move rfl rfl) rfl rfl rfl H147 ?_
        clear H147; intro a148 H148
        refine qplain (y_ixR rfl Tryd.underlying66 z_size59 rfl rfl (by omega) (by omega) (rd_row (by repeat (first | exact List.Mem.head _ | apply List.Mem.tail))) (by first | (rw [List.length_map]; omega) | (simp; omega))) rfl rfl rfl H148 ?_
        clear H148; intro a149 H149
        refine qplain (y_loadR rfl z_agg59 rfl (rd_row (by repeat (first | exact List.Mem.head _ | apply List.Mem.tail))) (u32_get _ 4 (by omega))) rfl rfl rfl H149 ?_
        clear H149; intro a150 H150
        refine qcallg rfl z_call38 rfl rfl rfl rfl H150 (fun w hs => (three _ 6 11 25 (by decide) (by decide) (by decide) (by decide) (by decide) (by decide) _)) ?_
        clear H150; intro a151 H151
        refine qplain (y_add32 rfl rfl rfl) rfl rfl rfl H151 ?_
        clear H151; intro a152 H152
        refine qplain (y_move rfl rfl) rfl rfl rfl H152 ?_
        clear H152; intro a153 H153
        refine qplain (y_ixR rfl Tryd.underlying66 z_size59 rfl rfl (by omega) (by omega) (rd_row (by repeat (first | exact List.Mem.head _ | apply List.Mem.tail))) (by first | (rw [List.length_map]; omega) | (simp; omega))) rfl rfl rfl H153 ?_
        clear H153; intro a154 H154
        refine qplain (y_loadR rfl z_agg59 rfl (rd_row (by repeat (first | exact List.Mem.head _ | apply List.Mem.tail))) (u32_get _ 4 (by omega))) rfl rfl rfl H154 ?_
        clear H154; intro a155 H155
        refine qplain (y_move rfl rfl) rfl rfl rfl H155 ?_
        clear H155; intro a156 H156
        refine qplain (y_ixR rfl Tryd.underlying66 z_size59 rfl rfl (by omega) (by omega) (rd_row (by repeat (first | exact List.Mem.head _ | apply List.Mem.tail))) (by first | (rw [List.length_map]; omega) | (simp; omega))) rfl rfl rfl H156 ?_
        clear H156; intro a157 H157
        refine qplain (y_loadR rfl z_agg59 rfl (rd_row (by repeat (first | exact List.Mem.head _ | apply List.Mem.tail))) (u32_get _ 5 (by omega))) rfl rfl rfl H157 ?_
        clear H157; intro a158 H158
        refine qplain (y_and32 rfl rfl rfl) rfl rfl rfl H158 ?_
        clear H158; intro a159 H159
        refine qplain (y_move rfl rfl) rfl rfl rfl H159 ?_
        clear H159; intro a160 H160
        refine qplain (y_ixR rfl Tryd.underlying66 z_size59 rfl rfl (by omega) (by omega) (rd_row (by repeat (first | exact List.Mem.head _ | apply List.Mem.tail))) (by first | (rw [List.length_map]; omega) | (simp; omega))) rfl rfl rfl H160 ?_
        clear H160; intro a161 H161
        refine qplain (y_loadR rfl z_agg59 rfl (rd_row (by repeat (first | exact List.Mem.head _ | apply List.Mem.tail))) (u32_get _ 4 (by omega))) rfl rfl rfl H161 ?_
        clear H161; intro a162 H162
        refine qplain (y_not32 rfl rfl) rfl rfl rfl H162 ?_
        clear H162; intro a163 H163
        refine qplain (y_move rfl rfl) rfl rfl rfl H163 ?_
        clear H163; intro a164 H164
        refine qplain (y_ixR rfl Tryd.underlying66 z_size59 rfl rfl (by omega) (by omega) (rd_row (by repeat (first | exact List.Mem.head _ | apply List.Mem.tail))) (by first | (rw [List.length_map]; omega) | (simp; omega))) rfl rfl rfl H164 ?_
        clear H164; intro a165 H165
        refine qplain (y_loadR rfl z_agg59 rfl (rd_row (by repeat (first | exact List.Mem.head _ | apply List.Mem.tail))) (u32_get _ 6 (by omega))) rfl rfl rfl H165 ?_
        clear H165; intro a166 H166
        refine qplain (y_and32 rfl rfl rfl) rfl rfl rfl H166 ?_
        clear H166; intro a167 H167
        refine qplain (y_xor32 rfl rfl rfl) rfl rfl rfl H167 ?_
        clear H167; intro a168 H168
        refine qplain (y_add32 rfl rfl rfl) rfl rfl rfl H168 ?_
        clear H168; intro a169 H169
        refine qplain (y_move rfl rfl) rfl rfl rfl H169 ?_
        clear H169; intro a170 H170
        refine qcallg rfl z_call39 rfl rfl rfl rfl H170 (fun w hs => (word t (by omega) _)) ?_
        clear H170; intro a171 H171
        refine qplain (y_add32 rfl rfl rfl) rfl rfl rfl H171 ?_
        clear H171; intro a172 H172
        refine qplain (y_move rfl rfl) rfl rfl rfl H172 ?_
        clear H172; intro a173 H173
        refine qplain (y_move rfl rfl) rfl rfl rfl H173 ?_
        clear H173; intro a174 H174
        refine qplain (y_ixL rfl Tryd.underlying66 z_size59 rfl rfl (by omega) (by omega) rfl) rfl rfl rfl H174 ?_
        clear H174; intro a175 H175
        refine qplain (y_loadB rfl z_agg59 rfl (by repeat (first | exact List.Mem.head _ | apply List.Mem.tail)) (by rw [show 0 + (t : Int).toNat * 1 = t by omega]; exact grow_get _ _ _ (by omega))) rfl rfl rfl H175 ?_
        clear H175; intro a176 H176
        refine qplain (y_add32 rfl rfl rfl) rfl rfl rfl H176 ?_
        clear H176; intro a177 H177
        refine qplain (y_assign rfl rfl) rfl rfl rfl H177 ?_
        clear H177; intro a178 H178
        refine qfin H178 ?_
        clear H178; intro w179 H179
        refine then_n ?_
        refine wp_seq ?_
        refine qreg (by kernel_rfl) (by kernel_rfl) H179 ?_
        have F180 := H179.fr
        clear H179
        refine qplain (y_move rfl rfl) rfl rfl rfl F180 ?_
        clear F180; intro a181 H181
        refine qplain (y_ixR rfl Tryd.underlying66 z_size59 rfl rfl (by omega) (by omega) (rd_row (by repeat (first | exact List.Mem.head _ | apply List.Mem.tail))) (by first | (rw [List.length_map]; omega) | (simp; omega))) rfl rfl rfl H181 ?_
        clear H181; intro a182 H182
        refine qplain (y_loadR rfl z_agg59 rfl (rd_row (by repeat (first | exact List.Mem.head _ | apply List.Mem.tail))) (u32_get _ 0 (by omega))) rfl rfl rfl H182 ?_
        clear H182; intro a183 H183
        refine qcallg rfl z_call38 rfl rfl rfl rfl H183 (fun w hs => (three _ 2 13 22 (by decide) (by decide) (by decide) (by decide) (by decide) (by decide) _)) ?_
        clear H183; intro a184 H184
        refine qplain (y_move rfl rfl) rfl rfl rfl H184 ?_
        clear H184; intro a185 H185
        refine qplain (y_ixR rfl Tryd.underlying66 z_size59 rfl rfl (by omega) (by omega) (rd_row (by repeat (first | exact List.Mem.head _ | apply List.Mem.tail))) (by first | (rw [List.length_map]; omega) | (simp; omega))) rfl rfl rfl H185 ?_
        clear H185; intro a186 H186
        refine qplain (y_loadR rfl z_agg59 rfl (rd_row (by repeat (first | exact List.Mem.head _ | apply List.Mem.tail))) (u32_get _ 0 (by omega))) rfl rfl rfl H186 ?_
        clear H186; intro a187 H187
        refine qplain (y_move rfl rfl) rfl rfl rfl H187 ?_
        clear H187; intro a188 H188
        refine qplain (y_ixR rfl Tryd.underlying66 z_size59 rfl rfl (by omega) (by omega) (rd_row (by repeat (first | exact List.Mem.head _ | apply List.Mem.tail))) (by first | (rw [List.length_map]; omega) | (simp; omega))) rfl rfl rfl H188 ?_
        clear H188; intro a189 H189
        refine qplain (y_loadR rfl z_agg59 rfl (rd_row (by repeat (first | exact List.Mem.head _ | apply List.Mem.tail))) (u32_get _ 1 (by omega))) rfl rfl rfl H189 ?_
        clear H189; intro a190 H190
        refine qplain (y_and32 rfl rfl rfl) rfl rfl rfl H190 ?_
        clear H190; intro a191 H191
        refine qplain (y_move rfl rfl) rfl rfl rfl H191 ?_
        clear H191; intro a192 H192
        refine qplain (y_ixR rfl Tryd.underlying66 z_size59 rfl rfl (by omega) (by omega) (rd_row (by repeat (first | exact List.Mem.head _ | apply List.Mem.tail))) (by first | (rw [List.length_map]; omega) | (simp; omega))) rfl rfl rfl H192 ?_
        clear H192; intro a193 H193
        refine qplain (y_loadR rfl z_agg59 rfl (rd_row (by repeat (first | exact List.Mem.head _ | apply List.Mem.tail))) (u32_get _ 0 (by omega))) rfl rfl rfl H193 ?_
        clear H193; intro a194 H194
        refine qplain (y_move rfl rfl) rfl rfl rfl H194 ?_
        clear H194; intro a195 H195
        refine qplain (y_ixR rfl Tryd.underlying66 z_size59 rfl rfl (by omega) (by omega) (rd_row (by repeat (first | exact List.Mem.head _ | apply List.Mem.tail))) (by first | (rw [List.length_map]; omega) | (simp; omega))) rfl rfl rfl H195 ?_
        clear H195; intro a196 H196
        refine qplain (y_loadR rfl z_agg59 rfl (rd_row (by repeat (first | exact List.Mem.head _ | apply List.Mem.tail))) (u32_get _ 2 (by omega))) rfl rfl rfl H196 ?_
        clear H196; intro a197 H197
        refine qplain (y_and32 rfl rfl rfl) rfl rfl rfl H197 ?_
        clear H197; intro a198 H198
        refine qplain (y_xor32 rfl rfl rfl) rfl rfl rfl H198 ?_
        clear H198; intro a199 H199
        refine qplain (y_move rfl rfl) rfl rfl rfl H199 ?_
        clear H199; intro a200 H200
        refine qplain (y_ixR rfl Tryd.underlying66 z_size59 rfl rfl (by omega) (by omega) (rd_row (by repeat (first | exact List.Mem.head _ | apply List.Mem.tail))) (by first | (rw [List.length_map]; omega) | (simp; omega))) rfl rfl rfl H200 ?_
        clear H200; intro a201 H201
        refine qplain (y_loadR rfl z_agg59 rfl (rd_row (by repeat (first | exact List.Mem.head _ | apply List.Mem.tail))) (u32_get _ 1 (by omega))) rfl rfl rfl H201 ?_
        clear H201; intro a202 H202
        refine qplain (y_move rfl rfl) rfl rfl rfl H202 ?_
        clear H202; intro a203 H203
        refine qplain (y_ixR rfl Tryd.underlying66 z_size59 rfl rfl (by omega) (by omega) (rd_row (by repeat (first | exact List.Mem.head _ | apply List.Mem.tail))) (by first | (rw [List.length_map]; omega) | (simp; omega))) rfl rfl rfl H203 ?_
        clear H203; intro a204 H204
        refine qplain (y_loadR rfl z_agg59 rfl (rd_row (by repeat (first | exact List.Mem.head _ | apply List.Mem.tail))) (u32_get _ 2 (by omega))) rfl rfl rfl H204 ?_
        clear H204; intro a205 H205
        refine qplain (y_and32 rfl rfl rfl) rfl rfl rfl H205 ?_
        clear H205; intro a206 H206
        refine qplain (y_xor32 rfl rfl rfl) rfl rfl rfl H206 ?_
        clear H206; intro a207 H207
        refine qplain (y_add32 rfl rfl rfl) rfl rfl rfl H207 ?_
        clear H207; intro a208 H208
        refine qplain (y_assign rfl rfl) rfl rfl rfl H208 ?_
        clear H208; intro a209 H209
        refine qfin H209 ?_
        clear H209; intro w210 H210
        refine then_n ?_
        refine treg 26 (by kernel_rfl) (by kernel_rfl) H210 ?_
        clear H210; intro w211 H211
        refine tplain (y_move rfl rfl) rfl rfl rfl H211 ?_
        clear H211; intro a212 H212
        refine tplain (y_move rfl rfl) rfl rfl rfl H212 ?_
        clear H212; intro a213 H213
        refine tplain (y_add32 rfl rfl rfl) rfl rfl rfl H213 ?_
        clear H213; intro a214 H214
        refine tplain (y_move rfl rfl) rfl rfl rfl H214 ?_
        clear H214; intro a215 H215
        refine tplain (y_ixR rfl Tryd.underlying66 z_size59 rfl rfl (by omega) (by omega) (rd_row (by repeat (first | exact List.Mem.head _ | apply List.Mem.tail))) (by first | (rw [List.length_map]; omega) | (simp; omega))) rfl rfl rfl H215 ?_
        clear H215; intro a216 H216
        refine tplain (y_loadR rfl z_agg59 rfl (rd_row (by repeat (first | exact List.Mem.head _ | apply List.Mem.tail))) (u32_get _ 0 (by omega))) rfl rfl rfl H216 ?_
        clear H216; intro a217 H217
        refine tplain (y_move rfl rfl) rfl rfl rfl H217 ?_
        clear H217; intro a218 H218
        refine tplain (y_ixR rfl Tryd.underlying66 z_size59 rfl rfl (by omega) (by omega) (rd_row (by repeat (first | exact List.Mem.head _ | apply List.Mem.tail))) (by first | (rw [List.length_map]; omega) | (simp; omega))) rfl rfl rfl H218 ?_
        clear H218; intro a219 H219
        refine tplain (y_loadR rfl z_agg59 rfl (rd_row (by repeat (first | exact List.Mem.head _ | apply List.Mem.tail))) (u32_get _ 1 (by omega))) rfl rfl rfl H219 ?_
        clear H219; intro a220 H220
        refine tplain (y_move rfl rfl) rfl rfl rfl H220 ?_
        clear H220; intro a221 H221
        refine tplain (y_ixR rfl Tryd.underlying66 z_size59 rfl rfl (by omega) (by omega) (rd_row (by repeat (first | exact List.Mem.head _ | apply List.Mem.tail))) (by first | (rw [List.length_map]; omega) | (simp; omega))) rfl rfl rfl H221 ?_
        clear H221; intro a222 H222
        refine tplain (y_loadR rfl z_agg59 rfl (rd_row (by repeat (first | exact List.Mem.head _ | apply List.Mem.tail))) (u32_get _ 2 (by omega))) rfl rfl rfl H222 ?_
        clear H222; intro a223 H223
        refine tplain (y_move rfl rfl) rfl rfl rfl H223 ?_
        clear H223; intro a224 H224
        refine tplain (y_ixR rfl Tryd.underlying66 z_size59 rfl rfl (by omega) (by omega) (rd_row (by repeat (first | exact List.Mem.head _ | apply List.Mem.tail))) (by first | (rw [List.length_map]; omega) | (simp; omega))) rfl rfl rfl H224 ?_
        clear H224; intro a225 H225
        refine tplain (y_loadR rfl z_agg59 rfl (rd_row (by repeat (first | exact List.Mem.head _ | apply List.Mem.tail))) (u32_get _ 3 (by omega))) rfl rfl rfl H225 ?_
        clear H225; intro a226 H226
        refine tplain (y_move rfl rfl) rfl rfl rfl H226 ?_
        clear H226; intro a227 H227
        refine tplain (y_add32 rfl rfl rfl) rfl rfl rfl H227 ?_
        clear H227; intro a228 H228
        refine tplain (y_move rfl rfl) rfl rfl rfl H228 ?_
        clear H228; intro a229 H229
        refine tplain (y_ixR rfl Tryd.underlying66 z_size59 rfl rfl (by omega) (by omega) (rd_row (by repeat (first | exact List.Mem.head _ | apply List.Mem.tail))) (by first | (rw [List.length_map]; omega) | (simp; omega))) rfl rfl rfl H229 ?_
        clear H229; intro a230 H230
        refine tplain (y_loadR rfl z_agg59 rfl (rd_row (by repeat (first | exact List.Mem.head _ | apply List.Mem.tail))) (u32_get _ 4 (by omega))) rfl rfl rfl H230 ?_
        clear H230; intro a231 H231
        refine tplain (y_move rfl rfl) rfl rfl rfl H231 ?_
        clear H231; intro a232 H232
        refine tplain (y_ixR rfl Tryd.underlying66 z_size59 rfl rfl (by omega) (by omega) (rd_row (by repeat (first | exact List.Mem.head _ | apply List.Mem.tail))) (by first | (rw [List.length_map]; omega) | (simp; omega))) rfl rfl rfl H232 ?_
        clear H232; intro a233 H233
        refine tplain (y_loadR rfl z_agg59 rfl (rd_row (by repeat (first | exact List.Mem.head _ | apply List.Mem.tail))) (u32_get _ 5 (by omega))) rfl rfl rfl H233 ?_
        clear H233; intro a234 H234
        refine tplain (y_move rfl rfl) rfl rfl rfl H234 ?_
        clear H234; intro a235 H235
        refine tplain (y_ixR rfl Tryd.underlying66 z_size59 rfl rfl (by omega) (by omega) (rd_row (by repeat (first | exact List.Mem.head _ | apply List.Mem.tail))) (by first | (rw [List.length_map]; omega) | (simp; omega))) rfl rfl rfl H235 ?_
        clear H235; intro a236 H236
        refine tplain (y_loadR rfl z_agg59 rfl (rd_row (by repeat (first | exact List.Mem.head _ | apply List.Mem.tail))) (u32_get _ 6 (by omega))) rfl rfl rfl H236 ?_
        clear H236; intro a237 H237
        refine tfin ?_
        refine st_buildSlice1 (xs := [.tmp 198, .tmp 201, .tmp 204, .tmp 207, .tmp 212, .tmp 215, .tmp 218, .tmp 221]) rfl Tryd.underlying66 z_size59 z_zero59 rfl rfl rfl rfl rfl rfl rfl rfl rfl H237 ?_
        clear H237; intro b238 a238 w238 H238
        refine plain (y_assign rfl rfl) rfl rfl rfl H238 ?_
        clear H238; intro a239 H239
        refine fin ?_
        refine inb_n ?_
        refine then_n ?_
        refine reg ?_
        refine plain (y_move rfl rfl) rfl rfl rfl H239 ?_
        clear H239; intro a240 H240
        refine plain (y_add rfl rfl rfl (by first | exact w64 (by omega) (by omega) | rfl)) rfl rfl rfl H240 ?_
        clear H240; intro a241 H241
        refine plain (y_assign rfl rfl) rfl rfl rfl H241 ?_
        clear H241; intro a242 H242
        refine fin ?_
        refine then_n ?_
        replace H242 := H242.asRow (size := 1) (m := 8) (by repeat (first | exact Upd.head _ _ _ | apply Upd.tail)) rfl (by unfold maxLen; omega)
        exact ⟨(t + 1, _, _), by dsimp only; omega, by dsimp only; omega, (H242.drop (List.Sublist.cons_cons _ (List.Sublist.cons _ (List.Sublist.refl _)))).weak ⟨rfl, rfl, rfl, rfl, rfl, rfl, fi rfl (by dsimp only; omega), trivial⟩ rfl⟩
      · skip
        refine wp_exit ?_
        refine then_x ?_
        refine then_x ?_
        refine inb_hit ?_
        refine then_n ?_
        refine wp_seq ?_
        refine reg ?_
        refine plain (y_assign rfl rfl) rfl rfl rfl H142 ?_
        clear H142; intro a243 H243
        refine fin ?_
        refine then_n ?_
        refine wp_block ?_
        have ht64 : t = 64 := by omega
        subst ht64
        refine loop (ι := Nat) (fun i => [(2, .pointer (some ⟨b1, 0, none⟩)), (3, .slice Ap (Sha.pad s).length cp), (4, .slice (some ⟨b5, 0, none⟩) 8 8), (5, .int .i64 ((64 * n : Nat) : Int)), (11, .slice Av 8 cv), (15, .int .i64 (i : Int))]) (fun i => [It.row 59 1 (.slice Av 8 cv) 8 ((Sha.rounds (Sha.blocks Sha.H0 (Sha.pad s) n) (Sha.sched (((Sha.pad s).drop (64 * n)).take 64) 64) 64).map u32), It.blk b14 59 ((Sha.sched (((Sha.pad s).drop (64 * n)).take 64) 64).map u32 ++ List.replicate (64 - 64) (.int .u32 0)), It.blk b5 59 ((Sha.mix (Sha.blocks Sha.H0 (Sha.pad s) n) (Sha.rounds (Sha.blocks Sha.H0 (Sha.pad s) n) (Sha.sched (((Sha.pad s).drop (64 * n)).take 64) 64) 64) i).map u32), It.row 5 1 (.slice Ap (Sha.pad s).length cp) (Sha.pad s).length ((Sha.pad s).map u8), It.blk b1 23 (List.replicate 32 (.int .u8 0))]) (fun i => i ≤ 8) (fun i => 8 - i) (0) (Nat.zero_le _) (H243.weak ⟨rfl, rfl, rfl, rfl, rfl, rfl, trivial⟩ (by rw [Sha.mix_zero])) ?_
        clear H243; intro i a244 w244 hok244 H244
        have hok4 := hok244
        have hml := Sha.mix_length hvl hrl i
        refine wp_seq ?_
        refine wp_seq ?_
        refine reg ?_
        refine plain (y_move rfl rfl) rfl rfl rfl H244 ?_
        clear H244; intro a245 H245
        refine plain (y_lss rfl rfl rfl) rfl rfl rfl H245 ?_
        clear H245; intro a246 H246
        refine fin ?_
        refine then_n ?_
        refine cnd_d H246 rfl (fun hc247 => ?_) (fun hc247 => ?_) -- cond 5
        · skip
          refine wp_skip ?_
          refine then_n ?_
          refine wp_seq ?_
          refine wp_block ?_
          refine treg 12 (by kernel_rfl) (by kernel_rfl) H246 ?_
          clear H246; intro w248 H248
          refine tplain (y_move rfl rfl) rfl rfl rfl H248 ?_
          clear H248; intro a249 H249
          refine tplain (y_move rfl rfl) rfl rfl rfl H249 ?_
          clear H249; intro a250 H250
          refine tplain (y_move rfl rfl) rfl rfl rfl H250 ?_
          clear H250; intro a251 H251
          refine tplain (y_move rfl rfl) rfl rfl rfl H251 ?_
          clear H251; intro a252 H252
          refine tplain (y_ixL rfl Tryd.underlying66 z_size59 rfl rfl (by omega) (by omega) rfl) rfl rfl rfl H252 ?_
          clear H252; intro a253 H253
          refine tplain (y_loadB rfl z_agg59 rfl (by repeat (first | exact List.Mem.head _ | apply List.Mem.tail)) (by rw [show 0 + (i : Int).toNat * 1 = i by omega]; exact u32_get _ _ (by omega))) rfl rfl rfl H253 ?_
          clear H253; intro a254 H254
          refine tplain (y_move rfl rfl) rfl rfl rfl H254 ?_
          clear H254; intro a255 H255
          refine tplain (y_move rfl rfl) rfl rfl rfl H255 ?_
          clear H255; intro a256 H256
          refine tplain (y_ixR rfl Tryd.underlying66 z_size59 rfl rfl (by omega) (by omega) (rd_row (by repeat (first | exact List.Mem.head _ | apply List.Mem.tail))) (by first | (rw [List.length_map]; omega) | (simp; omega))) rfl rfl rfl H256 ?_
          clear H256; intro a257 H257
          refine tplain (y_loadR rfl z_agg59 rfl (rd_row (by repeat (first | exact List.Mem.head _ | apply List.Mem.tail))) (by rw [show (i : Int).toNat * 1 = i by omega]; exact u32_get _ _ (by omega))) rfl rfl rfl H257 ?_
          clear H257; intro a258 H258
          refine tplain (y_add32 rfl rfl rfl) rfl rfl rfl H258 ?_
          clear H258; intro a259 H259
          refine tplain (y_ixL rfl Tryd.underlying66 z_size59 rfl rfl (by omega) (by omega) rfl) rfl rfl rfl H259 ?_
          clear H259; intro a260 H260
          refine tfin ?_
          refine st_store1 rfl z_size59 rfl rfl rfl (by repeat (first | exact Upd.head _ _ _ | apply Upd.tail)) (by first | decide | (simp; omega)) rfl rfl H260 ?_
          clear H260; intro w261 H261
          refine fin ?_
          refine inb_n ?_
          refine then_n ?_
          refine reg ?_
          refine plain (y_move rfl rfl) rfl rfl rfl H261 ?_
          clear H261; intro a262 H262
          refine plain (y_add rfl rfl rfl (by first | exact w64 (by omega) (by omega) | rfl)) rfl rfl rfl H262 ?_
          clear H262; intro a263 H263
          refine plain (y_assign rfl rfl) rfl rfl rfl H263 ?_
          clear H263; intro a264 H264
          refine fin ?_
          refine then_n ?_
          refine ⟨i + 1, by omega, by omega, H264.weak ⟨rfl, rfl, rfl, rfl, rfl, fi rfl (by omega), trivial⟩ (ir2 rfl rfl (ib2 rfl (ib2 ?_ rfl)))⟩
          rw [u32_set, Sha.mix_get hvl hrl (by omega), Sha.mix_succ hvl hrl (by omega)]
        · skip
          refine wp_exit ?_
          refine then_x ?_
          refine then_x ?_
          refine inb_hit ?_
          refine inb_n ?_
          refine then_n ?_
          refine reg ?_
          refine plain (y_move rfl rfl) rfl rfl rfl H246 ?_
          clear H246; intro a265 H265
          refine plain (y_add rfl rfl rfl (by first | exact w64 (by omega) (by omega) | rfl)) rfl rfl rfl H265 ?_
          clear H265; intro a266 H266
          refine plain (y_assign rfl rfl) rfl rfl rfl H266 ?_
          clear H266; intro a267 H267
          refine fin ?_
          refine then_n ?_
          refine ⟨n + 1, by omega, by omega, (H267.drop (List.Sublist.cons _ (List.Sublist.cons _ (List.Sublist.refl _)))).weak ⟨rfl, rfl, rfl, fi rfl (by omega), trivial⟩ ?_⟩
          exact (ib2 (by rw [show i = 8 by omega, Sha.mix_all hvl (Sha.rounds_length hvl 64)]; rfl) rfl)
  · skip
    refine wp_exit ?_
    refine then_x ?_
    refine then_x ?_
    refine inb_hit ?_
    refine then_n ?_
    refine wp_seq ?_
    refine reg ?_
    refine plain (y_buildA rfl z_zero23 Tryd.underlying23 z_size5 rfl rfl) rfl rfl rfl H12 ?_
    clear H12; intro a268 H268
    refine st_alloc rfl z_zero23 rfl rfl rfl H268 ?_
    clear H268; intro b269 a269 w269 H269
    refine st_store (vs := _) rfl z_size23 rfl rfl rfl rfl rfl (by repeat (first | exact Upd.head _ _ _ | apply Upd.tail)) (by decide) rfl rfl H269 ?_
    clear H269; intro w270 H270
    refine fin ?_
    refine then_n ?_
    refine wp_seq ?_
    refine wp_seq ?_
    refine reg ?_
    refine plain (y_assign rfl rfl) rfl rfl rfl H270 ?_
    clear H270; intro a271 H271
    refine fin ?_
    refine then_n ?_
    refine wp_block ?_
    refine loop (ι := Nat) (fun i => [(2, .pointer (some ⟨b1, 0, none⟩)), (4, .slice (some ⟨b5, 0, none⟩) 8 8), (16, .pointer (some ⟨b269, 0, none⟩)), (17, .int .i64 (i : Int))]) (fun i => [It.blk b269 23 (((Sha.out (Sha.blocks Sha.H0 (Sha.pad s) n)).take i).map u8 ++ List.replicate (32 - i) (.int .u8 0)), It.blk b5 59 ((Sha.blocks Sha.H0 (Sha.pad s) n).map u32), It.row 5 1 (.slice Ap (Sha.pad s).length cp) (Sha.pad s).length ((Sha.pad s).map u8), It.blk b1 23 (List.replicate 32 (.int .u8 0))]) (fun i => i ≤ 32) (fun i => 32 - i) (0) (Nat.zero_le _) (H271.weak ⟨rfl, rfl, rfl, rfl, trivial⟩ (ib2 (spl_all rfl) rfl)) ?_
    clear H271; intro i a272 w272 hok272 H272
    have hok5 := hok272
    have hou : (Sha.out (Sha.blocks Sha.H0 (Sha.pad s) n)).length = 32 := by rw [Sha.out_length, hvl]
    have hol : ((Sha.out (Sha.blocks Sha.H0 (Sha.pad s) n)).take i).length = i := by rw [List.length_take, hou]; omega
    refine wp_seq ?_
    refine wp_seq ?_
    refine reg ?_
    refine plain (y_move rfl rfl) rfl rfl rfl H272 ?_
    clear H272; intro a273 H273
    refine plain (y_lss rfl rfl rfl) rfl rfl rfl H273 ?_
    clear H273; intro a274 H274
    refine fin ?_
    refine then_n ?_
    refine cnd_d H274 rfl (fun hc275 => ?_) (fun hc275 => ?_) -- cond 6
    · skip
      refine wp_skip ?_
      refine then_n ?_
      refine wp_seq ?_
      refine wp_block ?_
      refine reg ?_
      refine plain (y_move rfl rfl) rfl rfl rfl H274 ?_
      clear H274; intro a276 H276
      refine plain (y_move rfl rfl) rfl rfl rfl H276 ?_
      clear H276; intro a277 H277
      refine plain (y_move rfl rfl) rfl rfl rfl H277 ?_
      clear H277; intro a278 H278
      refine plain (y_quo rfl rfl rfl (by decide) (show IntKind.i64.wrap (Int.tdiv (i : Int) 4) = ((i / 4 : Nat) : Int) by rw [Int.tdiv_eq_ediv_of_nonneg (by omega), w64 (by omega) (by omega)]; omega)) rfl rfl rfl H278 ?_
      clear H278; intro a279 H279
      refine plain (y_ixL rfl Tryd.underlying66 z_size59 rfl rfl (by omega) (by omega) rfl) rfl rfl rfl H279 ?_
      clear H279; intro a280 H280
      refine plain (y_loadB rfl z_agg59 rfl (by repeat (first | exact List.Mem.head _ | apply List.Mem.tail)) (by rw [show 0 + ((i / 4 : Nat) : Int).toNat * 1 = i / 4 by omega]; exact u32_get _ _ (by omega))) rfl rfl rfl H280 ?_
      clear H280; intro a281 H281
      refine plain (y_move rfl rfl) rfl rfl rfl H281 ?_
      clear H281; intro a282 H282
      refine plain (y_rem rfl rfl rfl (by decide) (Int.tmod_eq_emod_of_nonneg (by omega))) rfl rfl rfl H282 ?_
      clear H282; intro a283 H283
      refine plain (y_mul rfl rfl rfl (by first | exact w64 (by omega) (by omega) | rfl)) rfl rfl rfl H283 ?_
      clear H283; intro a284 H284
      refine plain (y_sub rfl rfl rfl (by first | exact w64 (by omega) (by omega) | rfl)) rfl rfl rfl H284 ?_
      clear H284; intro a285 H285
      refine plain (y_shr rfl rfl rfl (by omega) (show Int.fdiv (((Sha.blocks Sha.H0 (Sha.pad s) n).getD (i / 4) 0).toNat : Int) (2 ^ (min ((24 - 8 * ((i : Int) % 4)).toNat) IntKind.u32.bits)) = ((((Sha.blocks Sha.H0 (Sha.pad s) n).getD (i / 4) 0 >>> (24 - 8 * (i % 4))).toNat) : Int) by rw [show (24 - 8 * ((i : Int) % 4)) = ((24 - 8 * (i % 4) : Nat) : Int) by omega]; exact shr32 _ _ (by omega))) rfl rfl rfl H285 ?_
      clear H285; intro a286 H286
      refine plain (y_low rfl Tryd.underlying59 Tryd.underlying5 rfl) rfl rfl rfl H286 ?_
      clear H286; intro a287 H287
      refine plain (y_ixA rfl Tryd.underlying23 z_size5 rfl rfl (by omega) (by omega) rfl) rfl rfl rfl H287 ?_
      clear H287; intro a288 H288
      refine st_store1 rfl z_size5 rfl rfl rfl (by repeat (first | exact Upd.head _ _ _ | apply Upd.tail)) (by simp [hol]; omega) rfl rfl H288 ?_
      clear H288; intro w289 H289
      refine fin ?_
      refine inb_n ?_
      refine then_n ?_
      refine reg ?_
      refine plain (y_move rfl rfl) rfl rfl rfl H289 ?_
      clear H289; intro a290 H290
      refine plain (y_add rfl rfl rfl (by first | exact w64 (by omega) (by omega) | rfl)) rfl rfl rfl H290 ?_
      clear H290; intro a291 H291
      refine plain (y_assign rfl rfl) rfl rfl rfl H291 ?_
      clear H291; intro a292 H292
      refine fin ?_
      refine then_n ?_
      refine ⟨i + 1, by omega, by omega, H292.weak ⟨rfl, rfl, rfl, fi rfl (by omega), trivial⟩ (ib2 ?_ rfl)⟩
      rw [Sha.out_take1 _ (by omega)]
      exact set1 _ 32 i _ hol (by omega)
    · skip
      refine wp_exit ?_
      refine then_x ?_
      refine then_x ?_
      refine inb_hit ?_
      refine then_n ?_
      refine wp_seq ?_
      refine reg ?_
      refine plain (y_loadAB rfl z_agg23 z_size23 rfl (by repeat (first | exact List.Mem.head _ | apply List.Mem.tail)) (take_all (by simp [hol]; omega)) (by simp [hol]; omega)) rfl rfl rfl H274 ?_
      clear H274; intro a293 H293
      refine st_store (vs := _) rfl z_size23 rfl rfl (show _ = List.map u8 _ ++ List.replicate _ _ from rfl) (one_u8z _ _) (by simp [hol]; omega) (by repeat (first | exact Upd.head _ _ _ | apply Upd.tail)) (by decide) rfl rfl H293 ?_
      clear H293; intro w294 H294
      refine fin ?_
      refine then_n ?_
      refine wp_ret ?_
      -- return 1
      refine retc rfl H294 rfl z_agg23 z_size23 (by repeat (first | exact List.Mem.head _ | apply List.Mem.tail)) (by simp [spl, hol]; omega) ?_
      have hi8 : i = 32 := by omega
      subst hi8
      refine ⟨_, [], rfl, ⟨?_, rfl⟩, H294.sep.sub (List.nil_sublist _)⟩
      rw [spl_all (by rw [List.length_append, List.length_map, hol]; rfl), List.take_of_length_le (by omega)]
      have hn : (Sha.pad s).length / 64 = n := by omega
      simp [Sha.sum, hn]

end Go.Proofs.YtbadncpjbdfinaaDoor.D_RSum
