/- Part of a proof about given Go functions: contracts of functions, or plain laws. -/
import Derived.Test.YtbadncpjbdfinaaDoorSxV
import Derived.Test.YtbadncpjbdfinaaDoorSxI
import Derived.Test.YtbadncpjbdfinaaDoorSha
import Derived.Test.YtbadncpjbdfinaaDoorProg
import Derived.Test.YtbadncpjbdfinaaDoorDBlock
set_option linter.unusedVariables false
set_option linter.unusedSimpArgs false
namespace Go.Proofs.YtbadncpjbdfinaaDoor.D_Sum
open Go.Sx Go.RowKit Go.Proofs.YtbadncpjbdfinaaDoor.D_Block

theorem z_zero23 : zeroL Tryd.prog 23 = some (List.replicate 32 (.int .u8 0)) := by kernel_rfl
theorem z_zero61 : zeroL Tryd.prog 61 = some ([.int .u32 0, .int .u32 0, .int .u32 0, .int .u32 0, .int .u32 0, .int .u32 0, .int .u32 0, .int .u32 0]) := by kernel_rfl
theorem z_size59 : sizeB Tryd.prog 59 = some 1 := by kernel_rfl
theorem z_size61 : sizeB Tryd.prog 61 = some 8 := by kernel_rfl
theorem z_agg61 : aggB Tryd.prog 61 = some true := by kernel_rfl
theorem z_call35 : callB Tryd.prog 35 = true := by kernel_rfl
theorem z_zero63 : zeroL Tryd.prog 63 = some (List.replicate 128 (.int .u8 0)) := by kernel_rfl
theorem z_size5 : sizeB Tryd.prog 5 = some 1 := by kernel_rfl
theorem z_agg59 : aggB Tryd.prog 59 = some false := by kernel_rfl
theorem z_agg23 : aggB Tryd.prog 23 = some true := by kernel_rfl
theorem z_size23 : sizeB Tryd.prog 23 = some 32 := by kernel_rfl

set_option maxRecDepth 100000 in
set_option maxHeartbeats 4000000 in
theorem dsum (s : List UInt8) (hs : s.length ≤ 1000000000000000000) {w : World} (hG : Glob 0 Sha.K w) : Calls Tryd.prog 21 #[str s] w (Gives (.agg ((Sha.sum s).map u8).toArray) [] w) := by
  refine enterL (args := [str s]) Tryd.func21 rfl rfl (l := []) (Sep.refl _) ?_
  intro a0 H0
  refine wp_seq ?_
  refine reg ?_
  refine st_alloc rfl z_zero23 rfl rfl rfl H0 ?_
  clear H0; intro b1 a1 w1 H1
  refine fin ?_
  refine then_n ?_
  refine wp_seq ?_
  refine reg ?_
  refine plain (y_buildA rfl z_zero61 Tryd.underlying61 z_size59 rfl rfl) rfl rfl rfl H1 ?_
  clear H1; intro a2 H2
  refine st_alloc rfl z_zero61 rfl rfl rfl H2 ?_
  clear H2; intro b3 a3 w3 H3
  refine st_store (vs := _) rfl z_size61 rfl rfl rfl rfl rfl (by repeat (first | exact Upd.head _ _ _ | apply Upd.tail)) (by decide) rfl rfl H3 ?_
  clear H3; intro w4 H4
  refine fin ?_
  refine then_n ?_
  refine wp_seq ?_
  refine reg ?_
  refine plain (y_assign rfl rfl) rfl rfl rfl H4 ?_
  clear H4; intro a5 H5
  refine fin ?_
  refine then_n ?_
  refine wp_seq ?_
  refine wp_block ?_
  refine loop (ι := Nat) (fun q => [(0, str s), (2, .pointer (some ⟨b1, 0, none⟩)), (3, .pointer (some ⟨b3, 0, none⟩)), (4, .int .i64 ((64 * q : Nat) : Int))]) (fun q => [It.blk b3 61 ((Sha.blocks Sha.H0 s q).map u32), It.blk b1 23 (List.replicate 32 (.int .u8 0))]) (fun q => 64 * q ≤ s.length) (fun q => s.length - 64 * q) (0) (by omega) (H5.weak ⟨rfl, rfl, rfl, rfl, trivial⟩ (ib2 (spl_all rfl) rfl)) ?_
  clear H5; intro q a6 w6 hok6 H6
  have hok := hok6
  have hvl := Sha.blocks_length (s := Sha.H0) rfl s q
  refine wp_seq ?_
  refine wp_seq ?_
  refine reg ?_
  refine plain (y_move rfl rfl) rfl rfl rfl H6 ?_
  clear H6; intro a7 H7
  refine plain (y_slen rfl Tryd.underlying9 rfl) rfl rfl rfl H7 ?_
  clear H7; intro a8 H8
  refine plain (y_move rfl rfl) rfl rfl rfl H8 ?_
  clear H8; intro a9 H9
  refine plain (y_sub rfl rfl rfl (by first | exact w64 (by omega) (by omega) | rfl)) rfl rfl rfl H9 ?_
  clear H9; intro a10 H10
  refine plain (y_geq rfl rfl rfl) rfl rfl rfl H10 ?_
  clear H10; intro a11 H11
  refine fin ?_
  refine then_n ?_
  refine cnd_d H11 rfl (fun hc12 => ?_) (fun hc12 => ?_) -- cond 1
  · skip
    refine wp_skip ?_
    refine then_n ?_
    refine wp_seq ?_
    refine wp_block ?_
    refine treg 6 (by kernel_rfl) (by kernel_rfl) H11 ?_
    clear H11; intro w13 H13
    refine tplain (y_loadAB rfl z_agg61 z_size61 rfl (by repeat (first | exact List.Mem.head _ | apply List.Mem.tail)) (take_all (by simp [hvl])) (by simp [hvl])) rfl rfl rfl H13 ?_
    clear H13; intro a14 H14
    refine tplain (y_move rfl rfl) rfl rfl rfl H14 ?_
    clear H14; intro a15 H15
    refine tplain (y_move rfl rfl) rfl rfl rfl H15 ?_
    clear H15; intro a16 H16
    refine tplain (y_move rfl rfl) rfl rfl rfl H16 ?_
    clear H16; intro a17 H17
    refine tplain (y_add rfl rfl rfl (by first | exact w64 (by omega) (by omega) | rfl)) rfl rfl rfl H17 ?_
    clear H17; intro a18 H18
    refine tplain (y_sslice rfl Tryd.underlying9 rfl rfl rfl (by omega) (by omega) (by omega)) rfl rfl rfl H18 ?_
    clear H18; intro a19 H19
    refine tfin ?_
    refine st_callg rfl z_call35 rfl rfl rfl rfl H19 (dblock (Sha.blocks Sha.H0 s q) (Sha.blocks_length rfl _ _) _ (by simp only [List.length_take, List.length_drop]; omega) (hG.frm H19.sep.frm (by simp))) ?_
    clear H19; intro a20 w20 H20
    refine st_store (vs := _) rfl z_size61 rfl rfl (show _ = List.map u32 _ from rfl) (one_u32 _) (by simp [Sha.block_length hvl]) (by repeat (first | exact Upd.head _ _ _ | apply Upd.tail)) (by simp [hvl]) rfl rfl H20 ?_
    clear H20; intro w21 H21
    refine fin ?_
    refine inb_n ?_
    refine then_n ?_
    refine reg ?_
    refine plain (y_move rfl rfl) rfl rfl rfl H21 ?_
    clear H21; intro a22 H22
    refine plain (y_add rfl rfl rfl (by first | exact w64 (by omega) (by omega) | rfl)) rfl rfl rfl H22 ?_
    clear H22; intro a23 H23
    refine plain (y_assign rfl rfl) rfl rfl rfl H23 ?_
    clear H23; intro a24 H24
    refine fin ?_
    refine then_n ?_
    refine ⟨q + 1, by omega, by omega, H24.weak ⟨rfl, rfl, rfl, fi rfl (by omega), trivial⟩ (ib2 ((spl_all (by simp [Sha.block_length hvl, hvl])).trans ?_) rfl)⟩
    have e1 : (((64 * q : Nat) : Int)).toNat = 64 * q := by omega
    have e2 : (((64 * q : Nat) : Int) + 64).toNat - (((64 * q : Nat) : Int)).toNat = 64 := by omega
    rw [e2, e1]
    rfl
  · skip
    refine wp_exit ?_
    refine then_x ?_
    refine then_x ?_
    refine inb_hit ?_
    refine then_n ?_
    refine wp_seq ?_
    refine reg ?_
    refine st_alloc rfl z_zero63 rfl rfl rfl H11 ?_
    clear H11; intro b25 a25 w25 H25
    refine fin ?_
    refine then_n ?_
    refine wp_seq ?_
    refine treg 4 (by kernel_rfl) (by kernel_rfl) H25 ?_
    clear H25; intro w26 H26
    refine tplain (y_slA_all rfl Tryd.underlying63 z_size5 (by decide) rfl) rfl rfl rfl H26 ?_
    clear H26; intro a27 H27
    refine tplain (y_move rfl rfl) rfl rfl rfl H27 ?_
    clear H27; intro a28 H28
    refine tplain (y_move rfl rfl) rfl rfl rfl H28 ?_
    clear H28; intro a29 H29
    refine tplain (y_sslice_lo rfl Tryd.underlying9 rfl rfl (by omega) (by omega)) rfl rfl rfl H29 ?_
    clear H29; intro a30 H30
    refine tfin ?_
    refine st_copyT0 rfl Tryd.underlying44 z_size5 rfl rfl (by repeat (first | exact Upd.head _ _ _ | apply Upd.tail)) (by simp only [List.length_drop, List.length_replicate]; omega) (by decide) rfl rfl rfl rfl H30 ?_
    clear H30; intro a31 w31 H31
    refine plain (y_assign rfl rfl) rfl rfl rfl H31 ?_
    clear H31; intro a32 H32
    refine fin ?_
    refine then_n ?_
    refine wp_seq ?_
    refine reg ?_
    have e64 : (((64 * q : Nat) : Int)).toNat = 64 * q := by omega
    rw [e64] at H32
    have htd : (s.drop (64 * q)).length = s.length - 64 * q := List.length_drop
    refine plain (y_move rfl rfl) rfl rfl rfl H32 ?_
    clear H32; intro a33 H33
    refine plain (y_ixA rfl Tryd.underlying63 z_size5 rfl rfl (by omega) (by omega) rfl) rfl rfl rfl H33 ?_
    clear H33; intro a34 H34
    refine st_store1 rfl z_size5 rfl rfl rfl (by repeat (first | exact Upd.head _ _ _ | apply Upd.tail)) (by simp [spl]; omega) rfl rfl H34 ?_
    clear H34; intro w35 H35
    refine fin ?_
    refine then_n ?_
    refine wp_seq ?_
    refine reg ?_
    refine plain (y_assign rfl rfl) rfl rfl rfl H35 ?_
    clear H35; intro a36 H36
    refine fin ?_
    refine then_n ?_
    refine wp_seq ?_
    refine wp_seq ?_
    refine reg ?_
    refine plain (y_move rfl rfl) rfl rfl rfl H36 ?_
    clear H36; intro a37 H37
    refine plain (y_geq rfl rfl rfl) rfl rfl rfl H37 ?_
    clear H37; intro a38 H38
    refine fin ?_
    refine then_n ?_
    refine cnd_d H38 rfl (fun hc39 => ?_) (fun hc39 => ?_) -- cond 2
    · skip
      refine reg ?_
      refine plain (y_assign rfl rfl) rfl rfl rfl H38 ?_
      clear H38; intro a40 H40
      refine fin ?_
      refine then_n ?_
      refine wp_seq ?_
      refine reg ?_
      refine plain (y_move rfl rfl) rfl rfl rfl H40 ?_
      clear H40; intro a41 H41
      refine plain (y_slen rfl Tryd.underlying9 rfl) rfl rfl rfl H41 ?_
      clear H41; intro a42 H42
      refine plain (y_conv rfl Tryd.underlying3 Tryd.underlying64 rfl (by first | exact wu64 (by omega) (by omega) | rfl)) rfl rfl rfl H42 ?_
      clear H42; intro a43 H43
      refine plain (y_mul rfl rfl rfl (by first | exact wu64 (by omega) (by omega) | rfl)) rfl rfl rfl H43 ?_
      clear H43; intro a44 H44
      refine plain (y_assign rfl rfl) rfl rfl rfl H44 ?_
      clear H44; intro a45 H45
      refine fin ?_
      refine then_n ?_
      refine wp_seq ?_
      refine wp_seq ?_
      refine reg ?_
      refine plain (y_move rfl rfl) rfl rfl rfl H45 ?_
      clear H45; intro a46 H46
      refine fin ?_
      refine then_n ?_
      refine wp_block ?_
      obtain ⟨m, hmd⟩ : ∃ m : Nat, m = (if 56 ≤ s.length - 64 * q then 128 else 64) := ⟨_, rfl⟩
      have hmz : m = 64 ∨ m = 128 := by rw [hmd]; split <;> omega
      have hmt : (s.drop (64 * q)).length + 9 ≤ m := by rw [hmd, htd]; split <;> omega
      have htl := Sha.tail_length (s.drop (64 * q)) m (8 * s.length)
      replace htl := fun i hi => htl i hmt (by omega) hi
      refine loop (ι := Nat) (fun i => [(2, .pointer (some ⟨b1, 0, none⟩)), (3, .pointer (some ⟨b3, 0, none⟩)), (5, .pointer (some ⟨b25, 0, none⟩)), (7, .int .i64 (m : Int)), (8, .int .u64 ((8 * s.length : Nat) : Int)), (42, .int .i64 (i : Int))]) (fun i => [It.blk b25 63 ((Sha.tail (s.drop (64 * q)) m (8 * s.length) i).map u8), It.blk b3 61 ((Sha.blocks Sha.H0 s q).map u32), It.blk b1 23 (List.replicate 32 (.int .u8 0))]) (fun i => i ≤ 8) (fun i => 8 - i) (0) (Nat.zero_le _) (H46.weak ⟨rfl, rfl, rfl, fi rfl (by rw [hmd]; first | (rw [if_pos (by omega)]; rfl) | (rw [if_neg (by omega)]; rfl)), fi rfl (by omega), rfl, trivial⟩ (ib2 (by rw [Sha.tail_zero _ _ _ hmt (by omega)]; exact end_zero _ (by omega)) rfl)) ?_
      clear H46; intro i a47 w47 hok47 H47
      have hok2 := hok47
      have htli := htl i hok2
      refine wp_seq ?_
      refine reg ?_
      refine plain (y_lss rfl rfl rfl) rfl rfl rfl H47 ?_
      clear H47; intro a48 H48
      refine fin ?_
      refine then_n ?_
      refine wp_seq ?_
      refine cnd_d H48 rfl (fun hc49 => ?_) (fun hc49 => ?_) -- cond 3
      · skip
        refine wp_skip ?_
        refine then_n ?_
        refine wp_seq ?_
        refine wp_block ?_
        refine wp_seq ?_
        refine reg ?_
        refine plain (y_move rfl rfl) rfl rfl rfl H48 ?_
        clear H48; intro a50 H50
        refine plain (y_assign rfl rfl) rfl rfl rfl H50 ?_
        clear H50; intro a51 H51
        refine fin ?_
        refine then_n ?_
        refine reg ?_
        refine plain (y_move rfl rfl) rfl rfl rfl H51 ?_
        clear H51; intro a52 H52
        refine plain (y_sub rfl rfl rfl (by first | exact w64 (by omega) (by omega) | rfl)) rfl rfl rfl H52 ?_
        clear H52; intro a53 H53
        refine plain (y_move rfl rfl) rfl rfl rfl H53 ?_
        clear H53; intro a54 H54
        refine plain (y_sub rfl rfl rfl (by first | exact w64 (by omega) (by omega) | rfl)) rfl rfl rfl H54 ?_
        clear H54; intro a55 H55
        refine plain (y_move rfl rfl) rfl rfl rfl H55 ?_
        clear H55; intro a56 H56
        refine plain (y_move rfl rfl) rfl rfl rfl H56 ?_
        clear H56; intro a57 H57
        refine plain (y_mul rfl rfl rfl (by first | exact w64 (by omega) (by omega) | rfl)) rfl rfl rfl H57 ?_
        clear H57; intro a58 H58
        refine plain (y_shr rfl rfl rfl (by omega) (shrU (8 * s.length) i (by omega))) rfl rfl rfl H58 ?_
        clear H58; intro a59 H59
        refine plain (y_conv rfl Tryd.underlying64 Tryd.underlying5 rfl (wu8_nat _)) rfl rfl rfl H59 ?_
        clear H59; intro a60 H60
        refine plain (y_ixA rfl Tryd.underlying63 z_size5 rfl rfl (by omega) (by omega) rfl) rfl rfl rfl H60 ?_
        clear H60; intro a61 H61
        refine st_store1 rfl z_size5 rfl rfl rfl (by repeat (first | exact Upd.head _ _ _ | apply Upd.tail)) (by rw [List.length_map, htli]; omega) rfl rfl H61 ?_
        clear H61; intro w62 H62
        refine fin ?_
        refine inb_n ?_
        refine then_n ?_
        refine reg ?_
        refine plain (y_add rfl rfl rfl (by first | exact w64 (by omega) (by omega) | rfl)) rfl rfl rfl H62 ?_
        clear H62; intro a63 H63
        refine plain (y_move rfl rfl) rfl rfl rfl H63 ?_
        clear H63; intro a64 H64
        refine fin ?_
        refine then_n ?_
        refine ⟨i + 1, by omega, by omega, H64.weak ⟨rfl, rfl, rfl, rfl, rfl, fi rfl (by omega), trivial⟩ (ib2 ?_ rfl)⟩
        rw [show 0 + ((m : Int) - 1 - (i : Int)).toNat * 1 = m - 1 - i by omega]
        exact (u8_set _ _ _).trans (by rw [Sha.tail_succ _ _ _ _ hmt (by omega)])
      · skip
        refine wp_exit ?_
        refine then_x ?_
        refine then_x ?_
        refine inb_hit ?_
        refine then_n ?_
        refine wp_seq ?_
        refine wp_seq ?_
        refine reg ?_
        refine plain (y_assign rfl rfl) rfl rfl rfl H48 ?_
        clear H48; intro a65 H65
        refine fin ?_
        refine then_n ?_
        refine wp_block ?_
        have hi8 : i = 8 := by omega
        subst hi8
        refine loop (ι := Nat) (fun j => [(2, .pointer (some ⟨b1, 0, none⟩)), (3, .pointer (some ⟨b3, 0, none⟩)), (5, .pointer (some ⟨b25, 0, none⟩)), (7, .int .i64 (m : Int)), (10, .int .i64 ((64 * j : Nat) : Int))]) (fun j => [It.blk b25 63 ((Sha.tail (s.drop (64 * q)) m (8 * s.length) 8).map u8), It.blk b3 61 ((Sha.blocks (Sha.blocks Sha.H0 s q) ((Sha.pad s).drop (64 * q)) j).map u32), It.blk b1 23 (List.replicate 32 (.int .u8 0))]) (fun j => 64 * j ≤ m) (fun j => m - 64 * j) (0) (Nat.zero_le _) (H65.weak ⟨rfl, rfl, rfl, rfl, rfl, trivial⟩ rfl) ?_
        clear H65; intro j a66 w66 hok66 H66
        have hok3 := hok66
        have hv2 := Sha.blocks_length (s := Sha.blocks Sha.H0 s q) hvl ((Sha.pad s).drop (64 * q)) j
        refine wp_seq ?_
        refine wp_seq ?_
        refine reg ?_
        refine plain (y_move rfl rfl) rfl rfl rfl H66 ?_
        clear H66; intro a67 H67
        refine plain (y_move rfl rfl) rfl rfl rfl H67 ?_
        clear H67; intro a68 H68
        refine plain (y_lss rfl rfl rfl) rfl rfl rfl H68 ?_
        clear H68; intro a69 H69
        refine fin ?_
        refine then_n ?_
        refine cnd_d H69 rfl (fun hc70 => ?_) (fun hc70 => ?_) -- cond 4
        · skip
          refine wp_skip ?_
          refine then_n ?_
          refine wp_seq ?_
          refine wp_block ?_
          refine treg 6 (by kernel_rfl) (by kernel_rfl) H69 ?_
          clear H69; intro w71 H71
          refine tplain (y_loadAB rfl z_agg61 z_size61 rfl (by repeat (first | exact List.Mem.head _ | apply List.Mem.tail)) (take_all (by simp [hv2])) (by simp [hv2])) rfl rfl rfl H71 ?_
          clear H71; intro a72 H72
          refine tplain (y_move rfl rfl) rfl rfl rfl H72 ?_
          clear H72; intro a73 H73
          refine tplain (y_move rfl rfl) rfl rfl rfl H73 ?_
          clear H73; intro a74 H74
          refine tplain (y_add rfl rfl rfl (by first | exact w64 (by omega) (by omega) | rfl)) rfl rfl rfl H74 ?_
          clear H74; intro a75 H75
          refine tplain (y_slA_lh rfl Tryd.underlying63 z_size5 rfl rfl rfl (by omega) (by omega) (by omega)) rfl rfl rfl H75 ?_
          clear H75; intro a76 H76
          refine tplain (y_bstr (p := ((Sha.tail (s.drop (64 * q)) m (8 * s.length) 8).drop (64 * j)).take 64) rfl Tryd.underlying44 Tryd.underlying5 Tryd.underlying9 rfl (by simp only [List.length_take, List.length_drop, htl 8 (by omega)]; omega) (rd_slLH (64 * j) 64 (by repeat (first | exact List.Mem.head _ | apply List.Mem.tail)) (htl 8 (by omega)))) rfl rfl rfl H76 ?_
          clear H76; intro a77 H77
          refine tfin ?_
          refine st_callg rfl z_call35 rfl rfl rfl rfl H77 (dblock (Sha.blocks (Sha.blocks Sha.H0 s q) ((Sha.pad s).drop (64 * q)) j) (Sha.blocks_length (Sha.blocks_length rfl _ _) _ _) _ (by simp only [List.length_take, List.length_drop, htl]; omega) (hG.frm H77.sep.frm (by simp))) ?_
          clear H77; intro a78 w78 H78
          refine st_store (vs := _) rfl z_size61 rfl rfl (show _ = List.map u32 _ from rfl) (one_u32 _) (by simp [Sha.block_length hv2]) (by repeat (first | exact Upd.head _ _ _ | apply Upd.tail)) (by simp [hv2]) rfl rfl H78 ?_
          clear H78; intro w79 H79
          refine fin ?_
          refine inb_n ?_
          refine then_n ?_
          refine reg ?_
          refine plain (y_move rfl rfl) rfl rfl rfl H79 ?_
          clear H79; intro a80 H80
          refine plain (y_add rfl rfl rfl (by first | exact w64 (by omega) (by omega) | rfl)) rfl rfl rfl H80 ?_
          clear H80; intro a81 H81
          refine plain (y_assign rfl rfl) rfl rfl rfl H81 ?_
          clear H81; intro a82 H82
          refine fin ?_
          refine then_n ?_
          refine ⟨j + 1, by omega, by omega, H82.weak ⟨rfl, rfl, rfl, rfl, fi rfl (by omega), trivial⟩ (ib2 rfl (ib2 ((spl_all (by simp [Sha.block_length hv2, hv2])).trans ?_) rfl))⟩
          have e1 : (((64 * j : Nat) : Int)).toNat = 64 * j := by omega
          have e2 : (((64 * j : Nat) : Int) + 64).toNat - (((64 * j : Nat) : Int)).toNat = 64 := by omega
          rw [Sha.tail_block s q m j hok (by omega) hmd (by omega)]
          rfl
        · skip
          refine wp_exit ?_
          refine then_x ?_
          refine then_x ?_
          refine inb_hit ?_
          refine then_n ?_
          refine wp_seq ?_
          refine reg ?_
          refine st_alloc rfl z_zero23 rfl rfl rfl H69 ?_
          clear H69; intro b83 a83 w83 H83
          refine fin ?_
          refine then_n ?_
          refine wp_seq ?_
          refine wp_seq ?_
          refine reg ?_
          refine plain (y_loadAB rfl z_agg61 z_size61 rfl (by repeat (first | exact List.Mem.head _ | apply List.Mem.tail)) (take_all (by simp [hv2])) (by simp [hv2])) rfl rfl rfl H83 ?_
          clear H83; intro a84 H84
          refine plain (y_move rfl rfl) rfl rfl rfl H84 ?_
          clear H84; intro a85 H85
          refine fin ?_
          refine then_n ?_
          refine wp_block ?_
          refine loop (ι := Nat) (fun i => [(2, .pointer (some ⟨b1, 0, none⟩)), (11, .pointer (some ⟨b83, 0, none⟩)), (68, .agg ((Sha.blocks (Sha.blocks Sha.H0 s q) ((Sha.pad s).drop (64 * q)) j).map u32).toArray), (69, .int .i64 (i : Int))]) (fun i => [It.blk b83 23 ((Sha.out ((Sha.blocks (Sha.blocks Sha.H0 s q) ((Sha.pad s).drop (64 * q)) j).take i)).map u8 ++ List.replicate (32 - 4 * i) (.int .u8 0)), It.blk b25 63 ((Sha.tail (s.drop (64 * q)) m (8 * s.length) 8).map u8), It.blk b3 61 ((Sha.blocks (Sha.blocks Sha.H0 s q) ((Sha.pad s).drop (64 * q)) j).map u32), It.blk b1 23 (List.replicate 32 (.int .u8 0))]) (fun i => i ≤ 8) (fun i => 8 - i) (0) (Nat.zero_le _) (H85.weak ⟨rfl, rfl, rfl, rfl, trivial⟩ rfl) ?_
          clear H85; intro i a86 w86 hok86 H86
          have hok4 := hok86
          have hol := Sha.out_length ((Sha.blocks (Sha.blocks Sha.H0 s q) ((Sha.pad s).drop (64 * q)) j).take i)
          rw [List.length_take, hv2] at hol
          refine wp_seq ?_
          refine reg ?_
          refine plain (y_lss rfl rfl rfl) rfl rfl rfl H86 ?_
          clear H86; intro a87 H87
          refine fin ?_
          refine then_n ?_
          refine wp_seq ?_
          refine cnd_d H87 rfl (fun hc88 => ?_) (fun hc88 => ?_) -- cond 5
          · skip
            refine wp_skip ?_
            refine then_n ?_
            refine wp_seq ?_
            refine wp_block ?_
            refine wp_seq ?_
            refine reg ?_
            refine plain (y_move rfl rfl) rfl rfl rfl H87 ?_
            clear H87; intro a89 H89
            refine plain (y_aidx rfl Tryd.underlying61 z_agg59 z_size59 rfl rfl (by omega) (by omega) (u32_get _ _ (by omega))) rfl rfl rfl H89 ?_
            clear H89; intro a90 H90
            refine plain (y_assign rfl rfl) rfl rfl rfl H90 ?_
            clear H90; intro a91 H91
            refine plain (y_assign rfl rfl) rfl rfl rfl H91 ?_
            clear H91; intro a92 H92
            refine fin ?_
            refine then_n ?_
            refine reg ?_
            refine plain (y_move rfl rfl) rfl rfl rfl H92 ?_
            clear H92; intro a93 H93
            refine plain (y_mul rfl rfl rfl (by first | exact w64 (by omega) (by omega) | rfl)) rfl rfl rfl H93 ?_
            clear H93; intro a94 H94
            refine plain (y_move rfl rfl) rfl rfl rfl H94 ?_
            clear H94; intro a95 H95
            refine plain (y_mul rfl rfl rfl (by first | exact w64 (by omega) (by omega) | rfl)) rfl rfl rfl H95 ?_
            clear H95; intro a96 H96
            refine plain (y_add rfl rfl rfl (by first | exact w64 (by omega) (by omega) | rfl)) rfl rfl rfl H96 ?_
            clear H96; intro a97 H97
            refine plain (y_move rfl rfl) rfl rfl rfl H97 ?_
            clear H97; intro a98 H98
            refine plain (y_mul rfl rfl rfl (by first | exact w64 (by omega) (by omega) | rfl)) rfl rfl rfl H98 ?_
            clear H98; intro a99 H99
            refine plain (y_add rfl rfl rfl (by first | exact w64 (by omega) (by omega) | rfl)) rfl rfl rfl H99 ?_
            clear H99; intro a100 H100
            refine plain (y_move rfl rfl) rfl rfl rfl H100 ?_
            clear H100; intro a101 H101
            refine plain (y_mul rfl rfl rfl (by first | exact w64 (by omega) (by omega) | rfl)) rfl rfl rfl H101 ?_
            clear H101; intro a102 H102
            refine plain (y_add rfl rfl rfl (by first | exact w64 (by omega) (by omega) | rfl)) rfl rfl rfl H102 ?_
            clear H102; intro a103 H103
            refine plain (y_move rfl rfl) rfl rfl rfl H103 ?_
            clear H103; intro a104 H104
            refine plain (y_shr32 (k := 24) rfl rfl rfl (by omega)) rfl rfl rfl H104 ?_
            clear H104; intro a105 H105
            refine plain (y_low rfl Tryd.underlying59 Tryd.underlying5 rfl) rfl rfl rfl H105 ?_
            clear H105; intro a106 H106
            refine plain (y_move rfl rfl) rfl rfl rfl H106 ?_
            clear H106; intro a107 H107
            refine plain (y_shr32 (k := 16) rfl rfl rfl (by omega)) rfl rfl rfl H107 ?_
            clear H107; intro a108 H108
            refine plain (y_low rfl Tryd.underlying59 Tryd.underlying5 rfl) rfl rfl rfl H108 ?_
            clear H108; intro a109 H109
            refine plain (y_move rfl rfl) rfl rfl rfl H109 ?_
            clear H109; intro a110 H110
            refine plain (y_shr32 (k := 8) rfl rfl rfl (by omega)) rfl rfl rfl H110 ?_
            clear H110; intro a111 H111
            refine plain (y_low rfl Tryd.underlying59 Tryd.underlying5 rfl) rfl rfl rfl H111 ?_
            clear H111; intro a112 H112
            refine plain (y_move rfl rfl) rfl rfl rfl H112 ?_
            clear H112; intro a113 H113
            refine plain (y_low rfl Tryd.underlying59 Tryd.underlying5 rfl) rfl rfl rfl H113 ?_
            clear H113; intro a114 H114
            refine plain (y_ixA rfl Tryd.underlying23 z_size5 rfl rfl (by omega) (by omega) rfl) rfl rfl rfl H114 ?_
            clear H114; intro a115 H115
            refine st_store1 rfl z_size5 rfl rfl rfl (by repeat (first | exact Upd.head _ _ _ | apply Upd.tail)) (by simp [hol]; omega) rfl rfl H115 ?_
            clear H115; intro w116 H116
            refine plain (y_ixA rfl Tryd.underlying23 z_size5 rfl rfl (by omega) (by omega) rfl) rfl rfl rfl H116 ?_
            clear H116; intro a117 H117
            refine st_store1 rfl z_size5 rfl rfl rfl (by repeat (first | exact Upd.head _ _ _ | apply Upd.tail)) (by simp [hol]; omega) rfl rfl H117 ?_
            clear H117; intro w118 H118
            refine plain (y_ixA rfl Tryd.underlying23 z_size5 rfl rfl (by omega) (by omega) rfl) rfl rfl rfl H118 ?_
            clear H118; intro a119 H119
            refine st_store1 rfl z_size5 rfl rfl rfl (by repeat (first | exact Upd.head _ _ _ | apply Upd.tail)) (by simp [hol]; omega) rfl rfl H119 ?_
            clear H119; intro w120 H120
            refine plain (y_ixA rfl Tryd.underlying23 z_size5 rfl rfl (by omega) (by omega) rfl) rfl rfl rfl H120 ?_
            clear H120; intro a121 H121
            refine st_store1 rfl z_size5 rfl rfl rfl (by repeat (first | exact Upd.head _ _ _ | apply Upd.tail)) (by simp [hol]; omega) rfl rfl H121 ?_
            clear H121; intro w122 H122
            refine fin ?_
            refine inb_n ?_
            refine then_n ?_
            refine reg ?_
            refine plain (y_add rfl rfl rfl (by first | exact w64 (by omega) (by omega) | rfl)) rfl rfl rfl H122 ?_
            clear H122; intro a123 H123
            refine plain (y_move rfl rfl) rfl rfl rfl H123 ?_
            clear H123; intro a124 H124
            refine fin ?_
            refine then_n ?_
            refine ⟨i + 1, by omega, by omega, H124.weak ⟨rfl, rfl, rfl, fi rfl (by omega), trivial⟩ (ib2 ?_ rfl)⟩
            rw [Sha.out_take (by omega)]
            exact set4 _ 32 _ _ _ _ i (by omega) (by omega) _ _ _ _ (by omega) (by omega) (by omega) (by omega)
          · skip
            refine wp_exit ?_
            refine then_x ?_
            refine then_x ?_
            refine inb_hit ?_
            refine then_n ?_
            refine wp_seq ?_
            refine reg ?_
            refine plain (y_loadAB rfl z_agg23 z_size23 rfl (by repeat (first | exact List.Mem.head _ | apply List.Mem.tail)) (take_all (by simp [hol]; omega)) (by simp [hol]; omega)) rfl rfl rfl H87 ?_
            clear H87; intro a125 H125
            refine st_store (vs := _) rfl z_size23 rfl rfl (show _ = List.map u8 _ ++ List.replicate _ _ from rfl) (by simp [Value.oneCell']) (by simp [hol]; omega) (by repeat (first | exact Upd.head _ _ _ | apply Upd.tail)) (by decide) rfl rfl H125 ?_
            clear H125; intro w126 H126
            refine fin ?_
            refine then_n ?_
            refine wp_ret ?_
            -- return 1
            refine retc rfl H126 rfl z_agg23 z_size23 (by repeat (first | exact List.Mem.head _ | apply List.Mem.tail)) (by simp [spl, hol]; omega) ?_
            have hi8 : i = 8 := by omega
            subst hi8
            have hj : 64 * j = m := by omega
            refine ⟨_, [], rfl, ⟨?_, rfl⟩, H126.sep.sub (List.nil_sublist _)⟩
            rw [spl_all (by simp [hol]), List.take_of_length_le (by omega), ← Sha.sum_is s q m hok (by omega) hmd j hj]
            simp
    · skip
      refine wp_skip ?_
      refine then_n ?_
      refine wp_seq ?_
      refine reg ?_
      refine plain (y_move rfl rfl) rfl rfl rfl H38 ?_
      clear H38; intro a127 H127
      refine plain (y_slen rfl Tryd.underlying9 rfl) rfl rfl rfl H127 ?_
      clear H127; intro a128 H128
      refine plain (y_conv rfl Tryd.underlying3 Tryd.underlying64 rfl (by first | exact wu64 (by omega) (by omega) | rfl)) rfl rfl rfl H128 ?_
      clear H128; intro a129 H129
      refine plain (y_mul rfl rfl rfl (by first | exact wu64 (by omega) (by omega) | rfl)) rfl rfl rfl H129 ?_
      clear H129; intro a130 H130
      refine plain (y_assign rfl rfl) rfl rfl rfl H130 ?_
      clear H130; intro a131 H131
      refine fin ?_
      refine then_n ?_
      refine wp_seq ?_
      refine wp_seq ?_
      refine reg ?_
      refine plain (y_move rfl rfl) rfl rfl rfl H131 ?_
      clear H131; intro a132 H132
      refine fin ?_
      refine then_n ?_
      refine wp_block ?_
      obtain ⟨m, hmd⟩ : ∃ m : Nat, m = (if 56 ≤ s.length - 64 * q then 128 else 64) := ⟨_, rfl⟩
      have hmz : m = 64 ∨ m = 128 := by rw [hmd]; split <;> omega
      have hmt : (s.drop (64 * q)).length + 9 ≤ m := by rw [hmd, htd]; split <;> omega
      have htl := Sha.tail_length (s.drop (64 * q)) m (8 * s.length)
      replace htl := fun i hi => htl i hmt (by omega) hi
      refine loop (ι := Nat) (fun i => [(2, .pointer (some ⟨b1, 0, none⟩)), (3, .pointer (some ⟨b3, 0, none⟩)), (5, .pointer (some ⟨b25, 0, none⟩)), (7, .int .i64 (m : Int)), (8, .int .u64 ((8 * s.length : Nat) : Int)), (42, .int .i64 (i : Int))]) (fun i => [It.blk b25 63 ((Sha.tail (s.drop (64 * q)) m (8 * s.length) i).map u8), It.blk b3 61 ((Sha.blocks Sha.H0 s q).map u32), It.blk b1 23 (List.replicate 32 (.int .u8 0))]) (fun i => i ≤ 8) (fun i => 8 - i) (0) (Nat.zero_le _) (H132.weak ⟨rfl, rfl, rfl, fi rfl (by rw [hmd]; first | (rw [if_pos (by omega)]; rfl) | (rw [if_neg (by omega)]; rfl)), fi rfl (by omega), rfl, trivial⟩ (ib2 (by rw [Sha.tail_zero _ _ _ hmt (by omega)]; exact end_zero _ (by omega)) rfl)) ?_
      clear H132; intro i a133 w133 hok133 H133
      have hok2 := hok133
      have htli := htl i hok2
      refine wp_seq ?_
      refine reg ?_
      refine plain (y_lss rfl rfl rfl) rfl rfl rfl H133 ?_
      clear H133; intro a134 H134
      refine fin ?_
      refine then_n ?_
      refine wp_seq ?_
      refine cnd_d H134 rfl (fun hc135 => ?_) (fun hc135 => ?_) -- cond 6
      · skip
        refine wp_skip ?_
        refine then_n ?_
        refine wp_seq ?_
        refine wp_block ?_
        refine wp_seq ?_
        refine reg ?_
        refine plain (y_move rfl rfl) rfl rfl rfl H134 ?_
        clear H134; intro a136 H136
        refine plain (y_assign rfl rfl) rfl rfl rfl H136 ?_
        clear H136; intro a137 H137
        refine fin ?_
        refine then_n ?_
        refine reg ?_
        refine plain (y_move rfl rfl) rfl rfl rfl H137 ?_
        clear H137; intro a138 H138
        refine plain (y_sub rfl rfl rfl (by first | exact w64 (by omega) (by omega) | rfl)) rfl rfl rfl H138 ?_
        clear H138; intro a139 H139
        refine plain (y_move rfl rfl) rfl rfl rfl H139 ?_
        clear H139; intro a140 H140
        refine plain (y_sub rfl rfl rfl (by first | exact w64 (by omega) (by omega) | rfl)) rfl rfl rfl H140 ?_
        clear H140; intro a141 H141
        refine plain (y_move rfl rfl) rfl rfl rfl H141 ?_
        clear H141; intro a142 H142
        refine plain (y_move rfl rfl) rfl rfl rfl H142 ?_
        clear H142; intro a143 H143
        refine plain (y_mul rfl rfl rfl (by first | exact w64 (by omega) (by omega) | rfl)) rfl rfl rfl H143 ?_
        clear H143; intro a144 H144
        refine plain (y_shr rfl rfl rfl (by omega) (shrU (8 * s.length) i (by omega))) rfl rfl rfl H144 ?_
        clear H144; intro a145 H145
        refine plain (y_conv rfl Tryd.underlying64 Tryd.underlying5 rfl (wu8_nat _)) rfl rfl rfl H145 ?_
        clear H145; intro a146 H146
        refine plain (y_ixA rfl Tryd.underlying63 z_size5 rfl rfl (by omega) (by omega) rfl) rfl rfl rfl H146 ?_
        clear H146; intro a147 H147
        refine st_store1 rfl z_size5 rfl rfl rfl (by repeat (first | exact Upd.head _ _ _ | apply Upd.tail)) (by rw [List.length_map, htli]; omega) rfl rfl H147 ?_
        clear H147; intro w148 H148
        refine fin ?_
        refine inb_n ?_
        refine then_n ?_
        refine reg ?_
        refine plain (y_add rfl rfl rfl (by first | exact w64 (by omega) (by omega) | rfl)) rfl rfl rfl H148 ?_
        clear H148; intro a149 H149
        refine plain (y_move rfl rfl) rfl rfl rfl H149 ?_
        clear H149; intro a150 H150
        refine fin ?_
        refine then_n ?_
        refine ⟨i + 1, by omega, by omega, H150.weak ⟨rfl, rfl, rfl, rfl, rfl, fi rfl (by omega), trivial⟩ (ib2 ?_ rfl)⟩
        rw [show 0 + ((m : Int) - 1 - (i : Int)).toNat * 1 = m - 1 - i by omega]
        exact (u8_set _ _ _).trans (by rw [Sha.tail_succ _ _ _ _ hmt (by omega)])
      · skip
        refine wp_exit ?_
        refine then_x ?_
        refine then_x ?_
        refine inb_hit ?_
        refine then_n ?_
        refine wp_seq ?_
        refine wp_seq ?_
        refine reg ?_
        refine plain (y_assign rfl rfl) rfl rfl rfl H134 ?_
        clear H134; intro a151 H151
        refine fin ?_
        refine then_n ?_
        refine wp_block ?_
        have hi8 : i = 8 := by omega
        subst hi8
        refine loop (ι := Nat) (fun j => [(2, .pointer (some ⟨b1, 0, none⟩)), (3, .pointer (some ⟨b3, 0, none⟩)), (5, .pointer (some ⟨b25, 0, none⟩)), (7, .int .i64 (m : Int)), (10, .int .i64 ((64 * j : Nat) : Int))]) (fun j => [It.blk b25 63 ((Sha.tail (s.drop (64 * q)) m (8 * s.length) 8).map u8), It.blk b3 61 ((Sha.blocks (Sha.blocks Sha.H0 s q) ((Sha.pad s).drop (64 * q)) j).map u32), It.blk b1 23 (List.replicate 32 (.int .u8 0))]) (fun j => 64 * j ≤ m) (fun j => m - 64 * j) (0) (Nat.zero_le _) (H151.weak ⟨rfl, rfl, rfl, rfl, rfl, trivial⟩ rfl) ?_
        clear H151; intro j a152 w152 hok152 H152
        have hok3 := hok152
        have hv2 := Sha.blocks_length (s := Sha.blocks Sha.H0 s q) hvl ((Sha.pad s).drop (64 * q)) j
        refine wp_seq ?_
        refine wp_seq ?_
        refine reg ?_
        refine plain (y_move rfl rfl) rfl rfl rfl H152 ?_
        clear H152; intro a153 H153
        refine plain (y_move rfl rfl) rfl rfl rfl H153 ?_
        clear H153; intro a154 H154
        refine plain (y_lss rfl rfl rfl) rfl rfl rfl H154 ?_
        clear H154; intro a155 H155
        refine fin ?_
        refine then_n ?_
        refine cnd_d H155 rfl (fun hc156 => ?_) (fun hc156 => ?_) -- cond 7
        · skip
          refine wp_skip ?_
          refine then_n ?_
          refine wp_seq ?_
          refine wp_block ?_
          refine treg 6 (by kernel_rfl) (by kernel_rfl) H155 ?_
          clear H155; intro w157 H157
          refine tplain (y_loadAB rfl z_agg61 z_size61 rfl (by repeat (first | exact List.Mem.head _ | apply List.Mem.tail)) (take_all (by simp [hv2])) (by simp [hv2])) rfl rfl rfl H157 ?_
          clear H157; intro a158 H158
          refine tplain (y_move rfl rfl) rfl rfl rfl H158 ?_
          clear H158; intro a159 H159
          refine tplain (y_move rfl rfl) rfl rfl rfl H159 ?_
          clear H159; intro a160 H160
          refine tplain (y_add rfl rfl rfl (by first | exact w64 (by omega) (by omega) | rfl)) rfl rfl rfl H160 ?_
          clear H160; intro a161 H161
          refine tplain (y_slA_lh rfl Tryd.underlying63 z_size5 rfl rfl rfl (by omega) (by omega) (by omega)) rfl rfl rfl H161 ?_
          clear H161; intro a162 H162
          refine tplain (y_bstr (p := ((Sha.tail (s.drop (64 * q)) m (8 * s.length) 8).drop (64 * j)).take 64) rfl Tryd.underlying44 Tryd.underlying5 Tryd.underlying9 rfl (by simp only [List.length_take, List.length_drop, htl 8 (by omega)]; omega) (rd_slLH (64 * j) 64 (by repeat (first | exact List.Mem.head _ | apply List.Mem.tail)) (htl 8 (by omega)))) rfl rfl rfl H162 ?_
          clear H162; intro a163 H163
          refine tfin ?_
          refine st_callg rfl z_call35 rfl rfl rfl rfl H163 (dblock (Sha.blocks (Sha.blocks Sha.H0 s q) ((Sha.pad s).drop (64 * q)) j) (Sha.blocks_length (Sha.blocks_length rfl _ _) _ _) _ (by simp only [List.length_take, List.length_drop, htl]; omega) (hG.frm H163.sep.frm (by simp))) ?_
          clear H163; intro a164 w164 H164
          refine st_store (vs := _) rfl z_size61 rfl rfl (show _ = List.map u32 _ from rfl) (one_u32 _) (by simp [Sha.block_length hv2]) (by repeat (first | exact Upd.head _ _ _ | apply Upd.tail)) (by simp [hv2]) rfl rfl H164 ?_
          clear H164; intro w165 H165
          refine fin ?_
          refine inb_n ?_
          refine then_n ?_
          refine reg ?_
          refine plain (y_move rfl rfl) rfl rfl rfl H165 ?_
          clear H165; intro a166 H166
          refine plain (y_add rfl rfl rfl (by first | exact w64 (by omega) (by omega) | rfl)) rfl rfl rfl H166 ?_
          clear H166; intro a167 H167
          refine plain (y_assign rfl rfl) rfl rfl rfl H167 ?_
          clear H167; intro a168 H168
          refine fin ?_
          refine then_n ?_
          refine ⟨j + 1, by omega, by omega, H168.weak ⟨rfl, rfl, rfl, rfl, fi rfl (by omega), trivial⟩ (ib2 rfl (ib2 ((spl_all (by simp [Sha.block_length hv2, hv2])).trans ?_) rfl))⟩
          have e1 : (((64 * j : Nat) : Int)).toNat = 64 * j := by omega
          have e2 : (((64 * j : Nat) : Int) + 64).toNat - (((64 * j : Nat) : Int)).toNat = 64 := by omega
          rw [Sha.tail_block s q m j hok (by omega) hmd (by omega)]
          rfl
        · skip
          refine wp_exit ?_
          refine then_x ?_
          refine then_x ?_
          refine inb_hit ?_
          refine then_n ?_
          refine wp_seq ?_
          refine reg ?_
          refine st_alloc rfl z_zero23 rfl rfl rfl H155 ?_
          clear H155; intro b169 a169 w169 H169
          refine fin ?_
          refine then_n ?_
          refine wp_seq ?_
          refine wp_seq ?_
          refine reg ?_
          refine plain (y_loadAB rfl z_agg61 z_size61 rfl (by repeat (first | exact List.Mem.head _ | apply List.Mem.tail)) (take_all (by simp [hv2])) (by simp [hv2])) rfl rfl rfl H169 ?_
          clear H169; intro a170 H170
          refine plain (y_move rfl rfl) rfl rfl rfl H170 ?_
          clear H170; intro a171 H171
          refine fin ?_
          refine then_n ?_
          refine wp_block ?_
          refine loop (ι := Nat) (fun i => [(2, .pointer (some ⟨b1, 0, none⟩)), (11, .pointer (some ⟨b169, 0, none⟩)), (68, .agg ((Sha.blocks (Sha.blocks Sha.H0 s q) ((Sha.pad s).drop (64 * q)) j).map u32).toArray), (69, .int .i64 (i : Int))]) (fun i => [It.blk b169 23 ((Sha.out ((Sha.blocks (Sha.blocks Sha.H0 s q) ((Sha.pad s).drop (64 * q)) j).take i)).map u8 ++ List.replicate (32 - 4 * i) (.int .u8 0)), It.blk b25 63 ((Sha.tail (s.drop (64 * q)) m (8 * s.length) 8).map u8), It.blk b3 61 ((Sha.blocks (Sha.blocks Sha.H0 s q) ((Sha.pad s).drop (64 * q)) j).map u32), It.blk b1 23 (List.replicate 32 (.int .u8 0))]) (fun i => i ≤ 8) (fun i => 8 - i) (0) (Nat.zero_le _) (H171.weak ⟨rfl, rfl, rfl, rfl, trivial⟩ rfl) ?_
          clear H171; intro i a172 w172 hok172 H172
          have hok4 := hok172
          have hol := Sha.out_length ((Sha.blocks (Sha.blocks Sha.H0 s q) ((Sha.pad s).drop (64 * q)) j).take i)
          rw [List.length_take, hv2] at hol
          refine wp_seq ?_
          refine reg ?_
          refine plain (y_lss rfl rfl rfl) rfl rfl rfl H172 ?_
          clear H172; intro a173 H173
          refine fin ?_
          refine then_n ?_
          refine wp_seq ?_
          refine cnd_d H173 rfl (fun hc174 => ?_) (fun hc174 => ?_) -- cond 8
          · skip
            refine wp_skip ?_
            refine then_n ?_
            refine wp_seq ?_
            refine wp_block ?_
            refine wp_seq ?_
            refine reg ?_
            refine plain (y_move rfl rfl) rfl rfl rfl H173 ?_
            clear H173; intro a175 H175
            refine plain (y_aidx rfl Tryd.underlying61 z_agg59 z_size59 rfl rfl (by omega) (by omega) (u32_get _ _ (by omega))) rfl rfl rfl H175 ?_
            clear H175; intro a176 H176
            refine plain (y_assign rfl rfl) rfl rfl rfl H176 ?_
            clear H176; intro a177 H177
            refine plain (y_assign rfl rfl) rfl rfl rfl H177 ?_
            clear H177; intro a178 H178
            refine fin ?_
            refine then_n ?_
            refine reg ?_
            refine plain (y_move rfl rfl) rfl rfl rfl H178 ?_
            clear H178; intro a179 H179
            refine plain (y_mul rfl rfl rfl (by first | exact w64 (by omega) (by omega) | rfl)) rfl rfl rfl H179 ?_
            clear H179; intro a180 H180
            refine plain (y_move rfl rfl) rfl rfl rfl H180 ?_
            clear H180; intro a181 H181
            refine plain (y_mul rfl rfl rfl (by first | exact w64 (by omega) (by omega) | rfl)) rfl rfl rfl H181 ?_
            clear H181; intro a182 H182
            refine plain (y_add rfl rfl rfl (by first | exact w64 (by omega) (by omega) | rfl)) rfl rfl rfl H182 ?_
            clear H182; intro a183 H183
            refine plain (y_move rfl rfl) rfl rfl rfl H183 ?_
            clear H183; intro a184 H184
            refine plain (y_mul rfl rfl rfl (by first | exact w64 (by omega) (by omega) | rfl)) rfl rfl rfl H184 ?_
            clear H184; intro a185 H185
            refine plain (y_add rfl rfl rfl (by first | exact w64 (by omega) (by omega) | rfl)) rfl rfl rfl H185 ?_
            clear H185; intro a186 H186
            refine plain (y_move rfl rfl) rfl rfl rfl H186 ?_
            clear H186; intro a187 H187
            refine plain (y_mul rfl rfl rfl (by first | exact w64 (by omega) (by omega) | rfl)) rfl rfl rfl H187 ?_
            clear H187; intro a188 H188
            refine plain (y_add rfl rfl rfl (by first | exact w64 (by omega) (by omega) | rfl)) rfl rfl rfl H188 ?_
            clear H188; intro a189 H189
            refine plain (y_move rfl rfl) rfl rfl rfl H189 ?_
            clear H189; intro a190 H190
            refine plain (y_shr32 (k := 24) rfl rfl rfl (by omega)) rfl rfl rfl H190 ?_
            clear H190; intro a191 H191
            refine plain (y_low rfl Tryd.underlying59 Tryd.underlying5 rfl) rfl rfl rfl H191 ?_
            clear H191; intro a192 H192
            refine plain (y_move rfl rfl) rfl rfl rfl H192 ?_
            clear H192; intro a193 H193
            refine plain (y_shr32 (k := 16) rfl rfl rfl (by omega)) rfl rfl rfl H193 ?_
            clear H193; intro a194 H194
            refine plain (y_low rfl Tryd.underlying59 Tryd.underlying5 rfl) rfl rfl rfl H194 ?_
            clear H194; intro a195 H195
            refine plain (y_move rfl rfl) rfl rfl rfl H195 ?_
            clear H195; intro a196 H196
            refine plain (y_shr32 (k := 8) rfl rfl rfl (by omega)) rfl rfl rfl H196 ?_
            clear H196; intro a197 H197
            refine plain (y_low rfl Tryd.underlying59 Tryd.underlying5 rfl) rfl rfl rfl H197 ?_
            clear H197; intro a198 H198
            refine plain (y_move rfl rfl) rfl rfl rfl H198 ?_
            clear H198; intro a199 H199
            refine plain (y_low rfl Tryd.underlying59 Tryd.underlying5 rfl) rfl rfl rfl H199 ?_
            clear H199; intro a200 H200
            refine plain (y_ixA rfl Tryd.underlying23 z_size5 rfl rfl (by omega) (by omega) rfl) rfl rfl rfl H200 ?_
            clear H200; intro a201 H201
            refine st_store1 rfl z_size5 rfl rfl rfl (by repeat (first | exact Upd.head _ _ _ | apply Upd.tail)) (by simp [hol]; omega) rfl rfl H201 ?_
            clear H201; intro w202 H202
            refine plain (y_ixA rfl Tryd.underlying23 z_size5 rfl rfl (by omega) (by omega) rfl) rfl rfl rfl H202 ?_
            clear H202; intro a203 H203
            refine st_store1 rfl z_size5 rfl rfl rfl (by repeat (first | exact Upd.head _ _ _ | apply Upd.tail)) (by simp [hol]; omega) rfl rfl H203 ?_
            clear H203; intro w204 H204
            refine plain (y_ixA rfl Tryd.underlying23 z_size5 rfl rfl (by omega) (by omega) rfl) rfl rfl rfl H204 ?_
            clear H204; intro a205 H205
            refine st_store1 rfl z_size5 rfl rfl rfl (by repeat (first | exact Upd.head _ _ _ | apply Upd.tail)) (by simp [hol]; omega) rfl rfl H205 ?_
            clear H205; intro w206 H206
            refine plain (y_ixA rfl Tryd.underlying23 z_size5 rfl rfl (by omega) (by omega) rfl) rfl rfl rfl H206 ?_
            clear H206; intro a207 H207
            refine st_store1 rfl z_size5 rfl rfl rfl (by repeat (first | exact Upd.head _ _ _ | apply Upd.tail)) (by simp [hol]; omega) rfl rfl H207 ?_
            clear H207; intro w208 H208
            refine fin ?_
            refine inb_n ?_
            refine then_n ?_
            refine reg ?_
            refine plain (y_add rfl rfl rfl (by first | exact w64 (by omega) (by omega) | rfl)) rfl rfl rfl H208 ?_
            clear H208; intro a209 H209
            refine plain (y_move rfl rfl) rfl rfl rfl H209 ?_
            clear H209; intro a210 H210
            refine fin ?_
            refine then_n ?_
            refine ⟨i + 1, by omega, by omega, H210.weak ⟨rfl, rfl, rfl, fi rfl (by omega), trivial⟩ (ib2 ?_ rfl)⟩
            rw [Sha.out_take (by omega)]
            exact set4 _ 32 _ _ _ _ i (by omega) (by omega) _ _ _ _ (by omega) (by omega) (by omega) (by omega)
          · skip
            refine wp_exit ?_
            refine then_x ?_
            refine then_x ?_
            refine inb_hit ?_
            refine then_n ?_
            refine wp_seq ?_
            refine reg ?_
            refine plain (y_loadAB rfl z_agg23 z_size23 rfl (by repeat (first | exact List.Mem.head _ | apply List.Mem.tail)) (take_all (by simp [hol]; omega)) (by simp [hol]; omega)) rfl rfl rfl H173 ?_
            clear H173; intro a211 H211
            refine st_store (vs := _) rfl z_size23 rfl rfl (show _ = List.map u8 _ ++ List.replicate _ _ from rfl) (by simp [Value.oneCell']) (by simp [hol]; omega) (by repeat (first | exact Upd.head _ _ _ | apply Upd.tail)) (by decide) rfl rfl H211 ?_
            clear H211; intro w212 H212
            refine fin ?_
            refine then_n ?_
            refine wp_ret ?_
            -- return 2
            refine retc rfl H212 rfl z_agg23 z_size23 (by repeat (first | exact List.Mem.head _ | apply List.Mem.tail)) (by simp [spl, hol]; omega) ?_
            have hi8 : i = 8 := by omega
            subst hi8
            have hj : 64 * j = m := by omega
            refine ⟨_, [], rfl, ⟨?_, rfl⟩, H212.sep.sub (List.nil_sublist _)⟩
            rw [spl_all (by simp [hol]), List.take_of_length_le (by omega), ← Sha.sum_is s q m hok (by omega) hmd j hj]
            simp

end Go.Proofs.YtbadncpjbdfinaaDoor.D_Sum
