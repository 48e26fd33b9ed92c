/- Part of a proof about given Go functions: contracts of functions, or plain laws. -/
import Derived.Test.YtbadncpjbdfinaaDoorSxW
import Derived.Test.YtbadncpjbdfinaaDoorSxI
import Derived.Test.YtbadncpjbdfinaaDoorSha
import Derived.Test.YtbadncpjbdfinaaDoorShaAbc
import Derived.Test.YtbadncpjbdfinaaDoorSxX
import Derived.Test.YtbadncpjbdfinaaDoorSxY
import Derived.Test.YtbadncpjbdfinaaDoorMerk
import Derived.Test.YtbadncpjbdfinaaDoorOct2
import Derived.Test.YtbadncpjbdfinaaDoorSxZ
import Derived.Test.YtbadncpjbdfinaaDoorMerk2
import Derived.Test.YtbadncpjbdfinaaDoorProg
import Derived.Test.YtbadncpjbdfinaaDoorDBlock
import Derived.Test.YtbadncpjbdfinaaDoorDSum
import Derived.Test.YtbadncpjbdfinaaDoorDRef
import Derived.Test.YtbadncpjbdfinaaDoorDRSum
import Derived.Test.YtbadncpjbdfinaaDoorDLeaf
import Derived.Test.YtbadncpjbdfinaaDoorDRoot
import Derived.Test.YtbadncpjbdfinaaDoorDRoot2
set_option linter.unusedVariables false
set_option linter.unusedSimpArgs false
namespace Go.Proofs.YtbadncpjbdfinaaDoor.D_Proves
open Go.Sx Go.RowKit Go.Proofs.YtbadncpjbdfinaaDoor.D_Block Go.Proofs.YtbadncpjbdfinaaDoor.D_Sum Go.Proofs.YtbadncpjbdfinaaDoor.D_Ref Go.Proofs.YtbadncpjbdfinaaDoor.D_RSum Go.Proofs.YtbadncpjbdfinaaDoor.D_Leaf Go.Proofs.YtbadncpjbdfinaaDoor.D_Root Go.Proofs.YtbadncpjbdfinaaDoor.D_Root2

theorem z_call40 : callB Tryd.prog 40 = true := by kernel_rfl
theorem z_size4 : sizeB Tryd.prog 4 = some 1 := by kernel_rfl
theorem z_zero4 : zeroL Tryd.prog 4 = some ([.bool false]) := by kernel_rfl
theorem z_slice70 : sliceB Tryd.prog 70 = some (4, 1, 1) := by kernel_rfl
theorem z_notint70 : notIntB Tryd.prog 70 = true := by kernel_rfl
theorem z_call41 : callB Tryd.prog 41 = true := by kernel_rfl
theorem z_zero23 : zeroL Tryd.prog 23 = some (List.replicate 32 (.int .u8 0)) := by kernel_rfl
theorem z_size23 : sizeB Tryd.prog 23 = some 32 := by kernel_rfl
theorem z_agg23 : aggB Tryd.prog 23 = some true := by kernel_rfl
theorem z_agg4 : aggB Tryd.prog 4 = some false := by kernel_rfl
theorem z_call42 : callB Tryd.prog 42 = true := by kernel_rfl
theorem z_size5 : sizeB Tryd.prog 5 = some 1 := by kernel_rfl

set_option maxRecDepth 100000 in
set_option maxHeartbeats 4000000 in
theorem dproves (r : List UInt8) (hr : r.length = 32) (n i : Int) (hn : n ≤ 9223372036854775807) (hi0 : -9223372036854775808 ≤ i) (s : List UInt8) (hs : s.length ≤ 100000000000000000) (p : List (List UInt8)) (hp : H32 p) (hpl : p.length ≤ 9223372036854775807) (A : Option Addr) (c : Nat) {w : World} (hR : Rd w A (hc p)) (hG : Glob 0 Sha.K w) : Calls Tryd.prog 23 #[.agg (r.map u8).toArray, .int .i64 n, .int .i64 i, str s, .slice A p.length c] w (Gives (.bool (Merk.proves r n i s p)) [] w) := by
  refine enterL (args := [.agg (r.map u8).toArray, .int .i64 n, .int .i64 i, str s, .slice A p.length c]) Tryd.func23 rfl rfl (l := []) (Sep.refl _) ?_
  intro a0 H0
  refine wp_seq ?_
  refine reg ?_
  refine st_box rfl rfl rfl rfl rfl rfl H0 ?_
  clear H0; intro b1 a1 wx1 H1
  refine plain (y_assign rfl rfl) rfl rfl rfl H1 ?_
  clear H1; intro a2 H2
  refine fin ?_
  refine then_n ?_
  refine wp_seq ?_
  refine wp_seq ?_
  refine reg ?_
  refine plain (y_move rfl rfl) rfl rfl rfl H2 ?_
  clear H2; intro a3 H3
  refine plain (y_lss rfl rfl rfl) rfl rfl rfl H3 ?_
  clear H3; intro a4 H4
  refine plain (y_move rfl rfl) rfl rfl rfl H4 ?_
  clear H4; intro a5 H5
  refine part_d (d := 18) H5 rfl (fun hg6 => ?_) (fun hg6 => ?_)
  · first
    | fail
    | skip
      clear H5; intro H7
      refine skip rfl rfl rfl H7 ?_
      clear H7; intro a8 H8
      refine skip rfl rfl rfl H8 ?_
      clear H8; intro a9 H9
      refine skip rfl rfl rfl H9 ?_
      clear H9; intro a10 H10
      refine plain (y_pick_t rfl rfl rfl) rfl rfl rfl H10 ?_
      clear H10; intro a11 H11
      refine fin ?_
      refine then_n ?_
      refine cnd_t H11 rfl ?_
      refine wp_seq ?_
      refine reg ?_
      refine plain (y_assign rfl rfl) rfl rfl rfl H11 ?_
      clear H11; intro a13 H13
      refine fin ?_
      refine then_n ?_
      refine wp_ret ?_
      refine then_r ?_
      -- return 1
      refine ret1 rfl H13 rfl ?_
      exact ⟨_, [], rfl, ⟨by rw [Merk.proves_out _ _ _ _ _ (by omega)], rfl⟩, H13.sep.sub (List.nil_sublist _)⟩
  · first
    | fail
    | skip
      clear H5; intro H14
      refine plain (y_move rfl rfl) rfl rfl rfl H14 ?_
      clear H14; intro a15 H15
      refine plain (y_move rfl rfl) rfl rfl rfl H15 ?_
      clear H15; intro a16 H16
      refine plain (y_geq rfl rfl rfl) rfl rfl rfl H16 ?_
      clear H16; intro a17 H17
      refine plain (y_pick_f rfl rfl rfl) rfl rfl rfl H17 ?_
      clear H17; intro a18 H18
      refine fin ?_
      refine then_n ?_
      refine cnd_d H18 rfl (fun hc19 => ?_) (fun hc19 => ?_) -- cond 2
      · skip
        refine wp_seq ?_
        refine reg ?_
        refine plain (y_assign rfl rfl) rfl rfl rfl H18 ?_
        clear H18; intro a20 H20
        refine fin ?_
        refine then_n ?_
        refine wp_ret ?_
        refine then_r ?_
        -- return 2
        refine ret1 rfl H20 rfl ?_
        exact ⟨_, [], rfl, ⟨by rw [Merk.proves_out _ _ _ _ _ (by omega)], rfl⟩, H20.sep.sub (List.nil_sublist _)⟩
      · skip
        obtain ⟨N, rfl⟩ := Int.eq_ofNat_of_zero_le (show 0 ≤ n by omega)
        obtain ⟨I, rfl⟩ := Int.eq_ofNat_of_zero_le (show 0 ≤ i by omega)
        refine wp_skip ?_
        refine then_n ?_
        refine wp_seq ?_
        refine reg ?_
        refine plain (y_assign rfl rfl) rfl rfl rfl H18 ?_
        clear H18; intro a21 H21
        refine fin ?_
        refine then_n ?_
        refine wp_seq ?_
        refine wp_block ?_
        replace H21 := H21.nilRow 4 1
        refine loop (ι := Nat × Nat × List Bool × Value) (fun x => [(1, .int .i64 (x.1 : Int)), (2, .int .i64 (x.2.1 : Int)), (3, str s), (4, .slice A p.length c), (5, .pointer (some ⟨b1, 0, none⟩)), (11, x.2.2.2)]) (fun x => [It.row 4 1 x.2.2.2 x.2.2.1.length (x.2.2.1.map Value.bool), It.blk b1 23 (r.map u8)]) (fun x => x.2.1 < x.1 ∧ Merk.path N I = x.2.2.1 ++ Merk.path x.1 x.2.1 ∧ x.1 ≤ N) (fun x => x.1) ((N, I, [], .slice none 0 0)) ⟨by dsimp only; omega, rfl, Nat.le_refl _⟩ (H21.weak ⟨rfl, rfl, rfl, rfl, rfl, rfl, trivial⟩ rfl) ?_
        clear H21; intro x a22 wx22 hok22 H22
        obtain ⟨m, j, fs, v⟩ := x
        dsimp only at hok22 H22
        obtain ⟨hjm, hpa, hmN⟩ := hok22
        have hfl : fs.length ≤ 63 := by have := Merk.path_63 (n := N) I (by omega); rw [hpa, List.length_append] at this; omega
        obtain ⟨Af, cf, hvf, hRf, hmf⟩ := row_shape (v := v) H22.sep (by repeat (first | exact List.Mem.head _ | apply List.Mem.tail))
        subst hvf
        refine wp_seq ?_
        refine wp_seq ?_
        refine reg ?_
        refine plain (y_move rfl rfl) rfl rfl rfl H22 ?_
        clear H22; intro a23 H23
        refine plain (y_gtr rfl rfl rfl) rfl rfl rfl H23 ?_
        clear H23; intro a24 H24
        refine fin ?_
        refine then_n ?_
        refine cnd_d H24 rfl (fun hc25 => ?_) (fun hc25 => ?_) -- cond 3
        · skip
          have hhl := Merk.half_lt (n := m) (by omega)
          refine wp_skip ?_
          refine then_n ?_
          refine wp_block ?_
          refine wp_seq ?_
          refine reg ?_
          refine plain (y_move rfl rfl) rfl rfl rfl H24 ?_
          clear H24; intro a26 H26
          refine st_callg rfl z_call40 rfl rfl rfl rfl H26 (dleft m (by omega) (by omega) _) ?_
          clear H26; intro a27 wx27 H27
          refine plain (y_assign rfl rfl) rfl rfl rfl H27 ?_
          clear H27; intro a28 H28
          refine fin ?_
          refine then_n ?_
          refine wp_seq ?_
          refine reg ?_
          refine plain (y_move rfl rfl) rfl rfl rfl H28 ?_
          clear H28; intro a29 H29
          refine plain (y_move rfl rfl) rfl rfl rfl H29 ?_
          clear H29; intro a30 H30
          refine plain (y_move rfl rfl) rfl rfl rfl H30 ?_
          clear H30; intro a31 H31
          refine plain (y_lss rfl rfl rfl) rfl rfl rfl H31 ?_
          clear H31; intro a32 H32
          refine st_buildSlice1 (xs := [.tmp 30]) rfl Tryd.underlying70 z_size4 z_zero4 rfl rfl rfl rfl rfl rfl rfl rfl rfl H32 ?_
          clear H32; intro b33 a33 wx33 H33
          refine st_append rfl z_slice70 z_notint70 rfl rfl (fun _ => (by repeat (first | exact Upd.head _ _ _ | apply Upd.tail))) (fun w hs => Src.slice ((rd_blkA (by repeat (first | exact List.Mem.head _ | apply List.Mem.tail))) w hs) rfl (by simp [Value.oneCell'])) (by unfold maxLen; omega) (by omega) rfl rfl rfl H33 ?_
          clear H33; intro v34 a34 wx34 hnil34 H34
          refine plain (y_assign rfl rfl) rfl rfl rfl H34 ?_
          clear H34; intro a35 H35
          refine fin ?_
          refine then_n ?_
          refine wp_seq ?_
          refine reg ?_
          refine plain (y_move rfl rfl) rfl rfl rfl H35 ?_
          clear H35; intro a36 H36
          refine plain (y_move rfl rfl) rfl rfl rfl H36 ?_
          clear H36; intro a37 H37
          refine plain (y_lss rfl rfl rfl) rfl rfl rfl H37 ?_
          clear H37; intro a38 H38
          refine fin ?_
          refine then_n ?_
          refine cnd_d H38 rfl (fun hc39 => ?_) (fun hc39 => ?_) -- cond 4
          · skip
            refine reg ?_
            refine plain (y_move rfl rfl) rfl rfl rfl H38 ?_
            clear H38; intro a40 H40
            refine plain (y_assign rfl rfl) rfl rfl rfl H40 ?_
            clear H40; intro a41 H41
            refine fin ?_
            refine inb_n ?_
            refine then_n ?_
            refine ⟨(Merk.half m, j, fs ++ [decide (j < Merk.half m)], v34), by dsimp only; omega, ⟨by dsimp only; omega, ?_, by dsimp only; omega⟩, (H41.drop (List.Sublist.cons _ (List.Sublist.refl _))).weak ⟨rfl, rfl, rfl, rfl, rfl, rfl, trivial⟩ (ir2 (by simp) (by simp) rfl)⟩
            dsimp only; rw [hpa, Merk.path_step (by omega), if_pos (by omega), List.append_assoc]; rfl
          · skip
            refine reg ?_
            refine plain (y_move rfl rfl) rfl rfl rfl H38 ?_
            clear H38; intro a42 H42
            refine plain (y_move rfl rfl) rfl rfl rfl H42 ?_
            clear H42; intro a43 H43
            refine plain (y_sub rfl rfl rfl (by first | exact w64 (by omega) (by omega) | rfl)) rfl rfl rfl H43 ?_
            clear H43; intro a44 H44
            refine plain (y_move rfl rfl) rfl rfl rfl H44 ?_
            clear H44; intro a45 H45
            refine plain (y_move rfl rfl) rfl rfl rfl H45 ?_
            clear H45; intro a46 H46
            refine plain (y_sub rfl rfl rfl (by first | exact w64 (by omega) (by omega) | rfl)) rfl rfl rfl H46 ?_
            clear H46; intro a47 H47
            refine plain (y_assign rfl rfl) rfl rfl rfl H47 ?_
            clear H47; intro a48 H48
            refine plain (y_assign rfl rfl) rfl rfl rfl H48 ?_
            clear H48; intro a49 H49
            refine fin ?_
            refine inb_n ?_
            refine then_n ?_
            refine ⟨(m - Merk.half m, j - Merk.half m, fs ++ [decide (j < Merk.half m)], v34), by dsimp only; omega, ⟨by dsimp only; omega, ?_, by dsimp only; omega⟩, (H49.drop (List.Sublist.cons _ (List.Sublist.refl _))).weak ⟨fi rfl (by dsimp only; omega), fi rfl (by dsimp only; omega), rfl, rfl, rfl, rfl, trivial⟩ (ir2 (by simp) (by simp) rfl)⟩
            dsimp only; rw [hpa, Merk.path_step (by omega), if_neg (by omega), List.append_assoc]; rfl
        · skip
          have hm1 : m = 1 := by omega
          have hpe : Merk.path N I = fs := by rw [hpa, Merk.path_small (by omega), List.append_nil]
          refine wp_exit ?_
          refine then_x ?_
          refine then_x ?_
          refine inb_hit ?_
          refine then_n ?_
          refine wp_seq ?_
          refine wp_seq ?_
          refine reg ?_
          refine plain (y_move rfl rfl) rfl rfl rfl H24 ?_
          clear H24; intro a50 H50
          refine plain (y_len rfl Tryd.underlying38 rfl) rfl rfl rfl H50 ?_
          clear H50; intro a51 H51
          refine plain (y_move rfl rfl) rfl rfl rfl H51 ?_
          clear H51; intro a52 H52
          refine plain (y_len rfl Tryd.underlying70 rfl) rfl rfl rfl H52 ?_
          clear H52; intro a53 H53
          refine plain (y_neq rfl rfl rfl) rfl rfl rfl H53 ?_
          clear H53; intro a54 H54
          refine fin ?_
          refine then_n ?_
          refine cnd_d H54 rfl (fun hc55 => ?_) (fun hc55 => ?_) -- cond 5
          · skip
            refine wp_seq ?_
            refine reg ?_
            refine plain (y_assign rfl rfl) rfl rfl rfl H54 ?_
            clear H54; intro a56 H56
            refine fin ?_
            refine then_n ?_
            refine wp_ret ?_
            refine then_r ?_
            -- return 3
            refine ret1 rfl H56 rfl ?_
            exact ⟨_, [], rfl, ⟨by rw [Merk.proves_short _ _ _ _ _ (by rw [hpe]; omega)], rfl⟩, H56.sep.sub (List.nil_sublist _)⟩
          · skip
            refine wp_skip ?_
            refine then_n ?_
            refine wp_seq ?_
            refine reg ?_
            refine plain (y_move rfl rfl) rfl rfl rfl H54 ?_
            clear H54; intro a57 H57
            refine st_callg rfl z_call41 rfl rfl rfl rfl H57 (dleaf s hs (hG.frm H57.sep.frm (by simp))) ?_
            clear H57; intro a58 wx58 H58
            refine st_alloc rfl z_zero23 rfl rfl rfl H58 ?_
            clear H58; intro b59 a59 wx59 H59
            refine st_store (vs := _) rfl z_size23 rfl rfl (show _ = List.map u8 _ from rfl) (one_u8 _) (by rw [List.length_map, Sha.sum_length]) (by repeat (first | exact Upd.head _ _ _ | apply Upd.tail)) (by decide) rfl rfl H59 ?_
            clear H59; intro wx60 H60
            refine fin ?_
            refine then_n ?_
            refine wp_seq ?_
            refine wp_seq ?_
            refine reg ?_
            have hfp : fs.length = p.length := by omega
            rw [spl_all (by rw [List.length_map, Sha.sum_length]; rfl)] at H60
            refine plain (y_move rfl rfl) rfl rfl rfl H60 ?_
            clear H60; intro a61 H61
            refine plain (y_len rfl Tryd.underlying38 rfl) rfl rfl rfl H61 ?_
            clear H61; intro a62 H62
            refine plain (y_move rfl rfl) rfl rfl rfl H62 ?_
            clear H62; intro a63 H63
            refine fin ?_
            refine then_n ?_
            refine wp_block ?_
            refine loop (ι := Nat) (fun k => [(5, .pointer (some ⟨b1, 0, none⟩)), (11, .slice Af fs.length cf), (13, .pointer (some ⟨b59, 0, none⟩)), (50, .slice A p.length c), (51, .int .i64 (p.length : Int)), (52, .int .i64 (k : Int))]) (fun k => [It.blk b59 23 ((Merk.climbK (Sha.sum (0 :: s)) fs.reverse p k).map u8), It.row 4 1 (.slice Af fs.length cf) fs.length (fs.map Value.bool), It.blk b1 23 (r.map u8)]) (fun k => k ≤ p.length) (fun k => p.length - k) (0) (Nat.zero_le _) (H63.weak ⟨rfl, rfl, rfl, rfl, rfl, rfl, trivial⟩ rfl) ?_
            clear H63; intro k a64 wx64 hok64 H64
            have hok := hok64
            have hkl := Merk.climbK_len (h := (Sha.sum (0 :: s))) fs.reverse p k (Sha.sum_length _)
            refine wp_seq ?_
            refine reg ?_
            refine plain (y_lss rfl rfl rfl) rfl rfl rfl H64 ?_
            clear H64; intro a65 H65
            refine fin ?_
            refine then_n ?_
            refine wp_seq ?_
            refine cnd_d H65 rfl (fun hc66 => ?_) (fun hc66 => ?_) -- cond 6
            · skip
              refine wp_skip ?_
              refine then_n ?_
              refine wp_seq ?_
              refine wp_block ?_
              refine wp_seq ?_
              refine reg ?_
              refine plain (y_move rfl rfl) rfl rfl rfl H65 ?_
              clear H65; intro a67 H67
              refine plain (y_ixR rfl Tryd.underlying38 z_size23 rfl rfl (by omega) (by omega) (rd_old (by assumption) (by simp)) (by first | (rw [hc_len hp]; omega) | (rw [List.length_map]; omega))) rfl rfl rfl H67 ?_
              clear H67; intro a68 H68
              refine plain (y_loadAS rfl z_agg23 z_size23 rfl (rd_old (by assumption) (by simp)) (hc_take k hp (by omega)) (by rw [List.length_map, hp.getD (by omega)]) (by decide)) rfl rfl rfl H68 ?_
              clear H68; intro a69 H69
              refine st_alloc rfl z_zero23 rfl rfl rfl H69 ?_
              clear H69; intro b70 a70 wx70 H70
              refine plain (y_assign rfl rfl) rfl rfl rfl H70 ?_
              clear H70; intro a71 H71
              refine st_store (vs := _) rfl z_size23 rfl rfl (show _ = List.map u8 _ from rfl) (one_u8 _) (by rw [List.length_map, hp.getD (by omega)]) (by repeat (first | exact Upd.head _ _ _ | apply Upd.tail)) (by decide) rfl rfl H71 ?_
              clear H71; intro wx72 H72
              refine fin ?_
              refine then_n ?_
              refine wp_seq ?_
              refine reg ?_
              refine plain (y_move rfl rfl) rfl rfl rfl H72 ?_
              clear H72; intro a73 H73
              refine plain (y_move rfl rfl) rfl rfl rfl H73 ?_
              clear H73; intro a74 H74
              refine plain (y_len rfl Tryd.underlying70 rfl) rfl rfl rfl H74 ?_
              clear H74; intro a75 H75
              refine plain (y_sub rfl rfl rfl (by first | exact w64 (by omega) (by omega) | rfl)) rfl rfl rfl H75 ?_
              clear H75; intro a76 H76
              refine plain (y_move rfl rfl) rfl rfl rfl H76 ?_
              clear H76; intro a77 H77
              refine plain (y_sub rfl rfl rfl (by first | exact w64 (by omega) (by omega) | rfl)) rfl rfl rfl H77 ?_
              clear H77; intro a78 H78
              rw [spl_all (by rw [List.length_map, hp.getD (by omega)]; rfl)] at H78
              refine plain (y_ixR rfl Tryd.underlying70 z_size4 rfl rfl (by omega) (by omega) (rd_row (by repeat (first | exact List.Mem.head _ | apply List.Mem.tail))) (by first | (rw [hc_len hp]; omega) | (rw [List.length_map]; omega))) rfl rfl rfl H78 ?_
              clear H78; intro a79 H79
              refine plain (y_loadR rfl z_agg4 rfl (rd_row (by repeat (first | exact List.Mem.head _ | apply List.Mem.tail))) (by rw [show (((fs.length : Nat) : Int) - 1 - (k : Int)).toNat * 1 = fs.length - 1 - k by omega]; exact map_get Value.bool _ _ false (by omega))) rfl rfl rfl H79 ?_
              clear H79; intro a80 H80
              refine fin ?_
              refine then_n ?_
              refine cnd H80 rfl (fun hc81 => ?_) (fun hc81 => ?_) -- cond 7
              · skip
                have hbt := hc81
                refine reg ?_
                refine plain (y_loadAB rfl z_agg23 z_size23 rfl (by repeat (first | exact List.Mem.head _ | apply List.Mem.tail)) (take_all (by rw [List.length_map, hkl])) (by rw [List.length_map, hkl])) rfl rfl rfl H80 ?_
                clear H80; intro a82 H82
                refine plain (y_loadAB rfl z_agg23 z_size23 rfl (by repeat (first | exact List.Mem.head _ | apply List.Mem.tail)) (take_all (by rw [List.length_map, hp.getD (by omega)])) (by rw [List.length_map, hp.getD (by omega)])) rfl rfl rfl H82 ?_
                clear H82; intro a83 H83
                refine st_callg rfl z_call42 rfl rfl rfl rfl H83 (dnode _ _ hkl (hp.getD (by omega)) (hG.frm H83.sep.frm (by simp))) ?_
                clear H83; intro a84 wx84 H84
                refine st_store (vs := _) rfl z_size23 rfl rfl (show _ = List.map u8 _ from rfl) (one_u8 _) (by rw [List.length_map, Sha.sum_length]) (by repeat (first | exact Upd.head _ _ _ | apply Upd.tail)) (by rw [List.length_map, hkl]; decide) rfl rfl H84 ?_
                clear H84; intro wx85 H85
                refine fin ?_
                refine inb_n ?_
                refine then_n ?_
                refine reg ?_
                refine plain (y_add rfl rfl rfl (by first | exact w64 (by omega) (by omega) | rfl)) rfl rfl rfl H85 ?_
                clear H85; intro a86 H86
                refine plain (y_move rfl rfl) rfl rfl rfl H86 ?_
                clear H86; intro a87 H87
                refine fin ?_
                refine then_n ?_
                refine ⟨k + 1, by omega, by omega, (H87.drop (List.Sublist.cons _ (List.Sublist.refl _))).weak ⟨rfl, rfl, rfl, rfl, rfl, fi rfl (by omega), trivial⟩ (ib2 ((spl_all (by rw [List.length_map, List.length_map, Sha.sum_length, hkl])).trans ?_) rfl)⟩
                rw [Merk.climbK_succ (by rw [List.length_reverse]; omega) (by omega), Merk.rev_get (by omega), if_pos hbt]
              · skip
                have hbt := hc81
                refine reg ?_
                refine plain (y_loadAB rfl z_agg23 z_size23 rfl (by repeat (first | exact List.Mem.head _ | apply List.Mem.tail)) (take_all (by rw [List.length_map, hp.getD (by omega)])) (by rw [List.length_map, hp.getD (by omega)])) rfl rfl rfl H80 ?_
                clear H80; intro a88 H88
                refine plain (y_loadAB rfl z_agg23 z_size23 rfl (by repeat (first | exact List.Mem.head _ | apply List.Mem.tail)) (take_all (by rw [List.length_map, hkl])) (by rw [List.length_map, hkl])) rfl rfl rfl H88 ?_
                clear H88; intro a89 H89
                refine st_callg rfl z_call42 rfl rfl rfl rfl H89 (dnode _ _ (hp.getD (by omega)) hkl (hG.frm H89.sep.frm (by simp))) ?_
                clear H89; intro a90 wx90 H90
                refine st_store (vs := _) rfl z_size23 rfl rfl (show _ = List.map u8 _ from rfl) (one_u8 _) (by rw [List.length_map, Sha.sum_length]) (by repeat (first | exact Upd.head _ _ _ | apply Upd.tail)) (by rw [List.length_map, hkl]; decide) rfl rfl H90 ?_
                clear H90; intro wx91 H91
                refine fin ?_
                refine inb_n ?_
                refine then_n ?_
                refine reg ?_
                refine plain (y_add rfl rfl rfl (by first | exact w64 (by omega) (by omega) | rfl)) rfl rfl rfl H91 ?_
                clear H91; intro a92 H92
                refine plain (y_move rfl rfl) rfl rfl rfl H92 ?_
                clear H92; intro a93 H93
                refine fin ?_
                refine then_n ?_
                refine ⟨k + 1, by omega, by omega, (H93.drop (List.Sublist.cons _ (List.Sublist.refl _))).weak ⟨rfl, rfl, rfl, rfl, rfl, fi rfl (by omega), trivial⟩ (ib2 ((spl_all (by rw [List.length_map, List.length_map, Sha.sum_length, hkl])).trans ?_) rfl)⟩
                rw [Merk.climbK_succ (by rw [List.length_reverse]; omega) (by omega), Merk.rev_get (by omega), if_neg (by rw [hbt]; decide)]
            · skip
              refine wp_exit ?_
              refine then_x ?_
              refine then_x ?_
              refine inb_hit ?_
              refine then_n ?_
              refine wp_seq ?_
              refine reg ?_
              refine plain (y_loadAB rfl z_agg23 z_size23 rfl (by repeat (first | exact List.Mem.head _ | apply List.Mem.tail)) (take_all (by rw [List.length_map, hkl])) (by rw [List.length_map, hkl])) rfl rfl rfl H65 ?_
              clear H65; intro a94 H94
              refine plain (y_loadAB rfl z_agg23 z_size23 rfl (by repeat (first | exact List.Mem.head _ | apply List.Mem.tail)) (take_all (by rw [List.length_map, hr])) (by rw [List.length_map, hr])) rfl rfl rfl H94 ?_
              clear H94; intro a95 H95
              refine plain (y_heql rfl Tryd.eqGuardType23 Tryd.underlying23 Tryd.underlying5 z_size5 rfl rfl hkl hr) rfl rfl rfl H95 ?_
              clear H95; intro a96 H96
              refine plain (y_assign rfl rfl) rfl rfl rfl H96 ?_
              clear H96; intro a97 H97
              refine fin ?_
              refine then_n ?_
              refine wp_ret ?_
              -- return 4
              refine ret1 rfl H97 rfl ?_
              exact ⟨_, [], rfl, ⟨by rw [Merk.proves_in _ _ _ _ _ (by omega) (by rw [hpe]; omega), hpe, Merk.climbK_all (by rw [List.length_reverse]; omega) (by omega)], rfl⟩, H97.sep.sub (List.nil_sublist _)⟩
theorem dprovesM (r : List UInt8) (hr : r.length = 32) (n i : Int) (hn : n ≤ 9223372036854775807) (hi0 : -9223372036854775808 ≤ i) (s : List UInt8) (hs : s.length ≤ 100000000000000000) (p : List (List UInt8)) (hp : H32 p) (hpl : p.length ≤ 9223372036854775807) (A : Option Addr) (m c : Nat) (hm : m = p.length) {w : World} (hR : Rd w A (hc p)) (hG : Glob 0 Sha.K w) : Calls Tryd.prog 23 #[.agg (r.map u8).toArray, .int .i64 n, .int .i64 i, str s, .slice A m c] w (Gives (.bool (Merk.proves r n i s p)) [] w) := by
  subst hm
  exact dproves r hr n i hn hi0 s hs p hp hpl A c hR hG

end Go.Proofs.YtbadncpjbdfinaaDoor.D_Proves
