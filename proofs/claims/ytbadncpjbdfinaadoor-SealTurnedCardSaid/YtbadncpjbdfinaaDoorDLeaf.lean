/- Part of a proof about given Go functions: contracts of functions, or plain laws. -/
import Derived.Test.YtbadncpjbdfinaaDoorSxW
import Derived.Test.YtbadncpjbdfinaaDoorSxI
import Derived.Test.YtbadncpjbdfinaaDoorSha
import Derived.Test.YtbadncpjbdfinaaDoorProg
import Derived.Test.YtbadncpjbdfinaaDoorDBlock
import Derived.Test.YtbadncpjbdfinaaDoorDSum
import Derived.Test.YtbadncpjbdfinaaDoorDRef
import Derived.Test.YtbadncpjbdfinaaDoorDRSum
set_option linter.unusedVariables false
set_option linter.unusedSimpArgs false
namespace Go.Proofs.YtbadncpjbdfinaaDoor.D_Leaf
open Go.Sx Go.RowKit Go.Proofs.YtbadncpjbdfinaaDoor.D_Block Go.Proofs.YtbadncpjbdfinaaDoor.D_Sum Go.Proofs.YtbadncpjbdfinaaDoor.D_Ref Go.Proofs.YtbadncpjbdfinaaDoor.D_RSum

theorem z_zero23 : zeroL Tryd.prog 23 = some (List.replicate 32 (.int .u8 0)) := by kernel_rfl
theorem z_call21 : callB Tryd.prog 21 = true := by kernel_rfl
theorem z_size23 : sizeB Tryd.prog 23 = some 32 := by kernel_rfl
theorem z_agg23 : aggB Tryd.prog 23 = some true := by kernel_rfl
theorem z_size5 : sizeB Tryd.prog 5 = some 1 := by kernel_rfl
theorem z_zero5 : zeroL Tryd.prog 5 = some ([.int .u8 0]) := by kernel_rfl
theorem z_agg5 : aggB Tryd.prog 5 = some false := by kernel_rfl
theorem z_slice44 : sliceB Tryd.prog 44 = some (5, 1, 1) := by kernel_rfl
theorem z_notint44 : notIntB Tryd.prog 44 = true := by kernel_rfl
theorem z_call34 : callB Tryd.prog 34 = true := by kernel_rfl
theorem z_call22 : callB Tryd.prog 22 = true := by kernel_rfl
theorem z_size9 : sizeB Tryd.prog 9 = some 1 := by kernel_rfl
theorem z_agg9 : aggB Tryd.prog 9 = some false := by kernel_rfl
theorem z_call41 : callB Tryd.prog 41 = true := by kernel_rfl

set_option maxRecDepth 100000 in
set_option maxHeartbeats 1000000 in
theorem dleaf (s : List UInt8) (hs : s.length ≤ 100000000000000000) {w : World} (hG : Glob 0 Sha.K w) : Calls Tryd.prog 41 #[str s] w (Gives (.agg ((Sha.sum (0 :: s)).map u8).toArray) [] w) := by
  refine enterL (args := [str s]) Tryd.func41 rfl rfl (l := []) (Sep.refl _) ?_
  intro a0 H0
  refine wp_seq ?_
  refine reg ?_
  refine st_alloc rfl z_zero23 rfl rfl rfl H0 ?_
  clear H0; intro b1 a1 w1 H1
  refine fin ?_
  refine then_n ?_
  refine wp_seq ?_
  refine reg ?_
  refine plain (y_move rfl rfl) rfl rfl rfl H1 ?_
  clear H1; intro a2 H2
  refine plain (y_sadd rfl rfl rfl (by simp only [List.length_cons, List.length_nil]; omega)) rfl rfl rfl H2 ?_
  clear H2; intro a3 H3
  refine st_callg rfl z_call21 rfl rfl rfl rfl H3 (dsum _ (by simp only [List.length_append, List.length_cons, List.length_nil]; omega) (hG.frm H3.sep.frm (by simp))) ?_
  clear H3; intro a4 w4 H4
  refine st_store (vs := _) rfl z_size23 rfl rfl (show _ = List.map u8 _ from rfl) (one_u8 _) (by rw [List.length_map, Sha.sum_length]) (by repeat (first | exact Upd.head _ _ _ | apply Upd.tail)) (by decide) rfl rfl H4 ?_
  clear H4; intro w5 H5
  refine fin ?_
  refine then_n ?_
  refine wp_ret ?_
  -- return 1
  refine retc rfl H5 rfl z_agg23 z_size23 (by repeat (first | exact List.Mem.head _ | apply List.Mem.tail)) (by rw [spl_all (by rw [List.length_map, Sha.sum_length]; rfl), List.length_map, Sha.sum_length]) ?_
  refine ⟨_, [], rfl, ⟨?_, rfl⟩, H5.sep.sub (List.nil_sublist _)⟩
  rw [spl_all (by rw [List.length_map, Sha.sum_length]; rfl)]
  try rfl
set_option maxRecDepth 100000 in
set_option maxHeartbeats 1000000 in
theorem dchain (h : List UInt8) (hh : h.length = 32) (s : List UInt8) (hs : s.length ≤ 140737488351232) {w : World} (hG : Glob 0 Sha.K w) : Calls Tryd.prog 25 #[.agg (h.map u8).toArray, str s] w (Gives (.agg ((Sha.sum (h ++ s)).map u8).toArray) [] w) := by
  refine enterL (args := [.agg (h.map u8).toArray, str s]) Tryd.func25 rfl rfl (l := []) (Sep.refl _) ?_
  intro a0 H0
  refine wp_seq ?_
  refine reg ?_
  refine st_box rfl rfl rfl rfl rfl rfl H0 ?_
  clear H0; intro b1 a1 w1 H1
  refine st_alloc rfl z_zero23 rfl rfl rfl H1 ?_
  clear H1; intro b2 a2 w2 H2
  refine fin ?_
  refine then_n ?_
  refine wp_seq ?_
  refine reg ?_
  refine plain (y_slA_all rfl Tryd.underlying23 z_size5 (by decide) rfl) rfl rfl rfl H2 ?_
  clear H2; intro a3 H3
  refine plain (y_bstr (p := h) rfl Tryd.underlying44 Tryd.underlying5 Tryd.underlying9 rfl hh.symm (rd_blkA (by repeat (first | exact List.Mem.head _ | apply List.Mem.tail)))) rfl rfl rfl H3 ?_
  clear H3; intro a4 H4
  refine plain (y_move rfl rfl) rfl rfl rfl H4 ?_
  clear H4; intro a5 H5
  refine plain (y_sadd rfl rfl rfl (by omega)) rfl rfl rfl H5 ?_
  clear H5; intro a6 H6
  refine st_callg rfl z_call21 rfl rfl rfl rfl H6 (dsum _ (by rw [List.length_append]; omega) (hG.frm H6.sep.frm (by simp))) ?_
  clear H6; intro a7 w7 H7
  refine st_store (vs := _) rfl z_size23 rfl rfl (show _ = List.map u8 _ from rfl) (one_u8 _) (by rw [List.length_map, Sha.sum_length]) (by repeat (first | exact Upd.head _ _ _ | apply Upd.tail)) (by decide) rfl rfl H7 ?_
  clear H7; intro w8 H8
  refine fin ?_
  refine then_n ?_
  refine wp_ret ?_
  -- return 1
  refine retc rfl H8 rfl z_agg23 z_size23 (by repeat (first | exact List.Mem.head _ | apply List.Mem.tail)) (by rw [spl_all (by rw [List.length_map, Sha.sum_length]; rfl), List.length_map, Sha.sum_length]) ?_
  refine ⟨_, [], rfl, ⟨?_, rfl⟩, H8.sep.sub (List.nil_sublist _)⟩
  rw [spl_all (by rw [List.length_map, Sha.sum_length]; rfl)]
  try rfl
set_option maxRecDepth 100000 in
set_option maxHeartbeats 1000000 in
theorem rbytes (h : List UInt8) (hh : h.length = 32) (w : World) : Calls Tryd.prog 34 #[.agg (h.map u8).toArray] w (Gives (str h) [] w) := by
  refine enterL (args := [.agg (h.map u8).toArray]) Tryd.func34 rfl rfl (l := []) (Sep.refl _) ?_
  intro a0 H0
  refine wp_seq ?_
  refine reg ?_
  refine st_box rfl rfl rfl rfl rfl rfl H0 ?_
  clear H0; intro b1 a1 w1 H1
  refine plain (y_assign rfl rfl) rfl rfl rfl H1 ?_
  clear H1; intro a2 H2
  refine fin ?_
  refine then_n ?_
  refine wp_seq ?_
  refine reg ?_
  refine st_buildSlice1 (xs := []) rfl Tryd.underlying44 z_size5 z_zero5 rfl rfl rfl rfl rfl rfl rfl rfl rfl H2 ?_
  clear H2; intro b3 a3 w3 H3
  refine plain (y_assign rfl rfl) rfl rfl rfl H3 ?_
  clear H3; intro a4 H4
  refine fin ?_
  refine then_n ?_
  refine wp_seq ?_
  refine wp_seq ?_
  refine reg ?_
  refine plain (y_assign rfl rfl) rfl rfl rfl H4 ?_
  clear H4; intro a5 H5
  refine fin ?_
  refine then_n ?_
  refine wp_block ?_
  replace H5 := H5.asRow (size := 1) (m := 0) (by repeat (first | exact Upd.head _ _ _ | apply Upd.tail)) rfl (by unfold maxLen; omega)
  refine loop (ι := Nat × Value) (fun x => [(1, .pointer (some ⟨b1, 0, none⟩)), (3, x.2), (4, .int .i64 (x.1 : Int))]) (fun x => [It.row 5 1 x.2 x.1 ((h.take x.1).map u8), It.blk b1 23 (h.map u8)]) (fun x => x.1 ≤ 32) (fun x => 32 - x.1) ((0, .slice (some ⟨b3, 0, none⟩) 0 0)) (Nat.zero_le _) (H5.weak ⟨rfl, rfl, rfl, trivial⟩ (by rw [List.take_zero]; rfl)) ?_
  clear H5; intro x a6 w6 hok6 H6
  obtain ⟨k, v⟩ := x
  dsimp only at hok6 H6
  have hok := hok6
  obtain ⟨A0, c0, hv0, hR0, hm0⟩ := row_shape (v := v) H6.sep (by repeat (first | exact List.Mem.head _ | apply List.Mem.tail))
  subst hv0
  refine wp_seq ?_
  refine wp_seq ?_
  refine reg ?_
  refine plain (y_move rfl rfl) rfl rfl rfl H6 ?_
  clear H6; intro a7 H7
  refine plain (y_lss rfl rfl rfl) rfl rfl rfl H7 ?_
  clear H7; intro a8 H8
  refine fin ?_
  refine then_n ?_
  refine cnd_d H8 rfl (fun hc9 => ?_) (fun hc9 => ?_) -- cond 1
  · skip
    refine wp_skip ?_
    refine then_n ?_
    refine wp_seq ?_
    refine wp_block ?_
    refine reg ?_
    refine plain (y_move rfl rfl) rfl rfl rfl H8 ?_
    clear H8; intro a10 H10
    refine plain (y_move rfl rfl) rfl rfl rfl H10 ?_
    clear H10; intro a11 H11
    refine plain (y_ixA rfl Tryd.underlying23 z_size5 rfl rfl (by omega) (by omega) rfl) rfl rfl rfl H11 ?_
    clear H11; intro a12 H12
    refine plain (y_loadB rfl z_agg5 rfl (by repeat (first | exact List.Mem.head _ | apply List.Mem.tail)) (by rw [show 0 + (k : Int).toNat * 1 = k by omega]; exact map_get u8 _ _ 0 (by omega))) rfl rfl rfl H12 ?_
    clear H12; intro a13 H13
    refine st_buildSlice1 (xs := [.tmp 13]) rfl Tryd.underlying44 z_size5 z_zero5 rfl rfl rfl rfl rfl rfl rfl rfl rfl H13 ?_
    clear H13; intro b14 a14 w14 H14
    refine st_append rfl z_slice44 z_notint44 rfl rfl (fun _ => (by repeat (first | exact Upd.head _ _ _ | apply Upd.tail))) (fun w hs => Src.slice ((rd_blkA (by repeat (first | exact List.Mem.head _ | apply List.Mem.tail))) w hs) rfl (by simp [Value.oneCell'])) (by unfold maxLen; omega) (by omega) rfl rfl rfl H14 ?_
    clear H14; intro v15 a15 w15 hnil15 H15
    refine plain (y_assign rfl rfl) rfl rfl rfl H15 ?_
    clear H15; intro a16 H16
    refine fin ?_
    refine inb_n ?_
    refine then_n ?_
    refine reg ?_
    refine plain (y_move rfl rfl) rfl rfl rfl H16 ?_
    clear H16; intro a17 H17
    refine plain (y_add rfl rfl rfl (by first | exact w64 (by omega) (by omega) | rfl)) rfl rfl rfl H17 ?_
    clear H17; intro a18 H18
    refine plain (y_assign rfl rfl) rfl rfl rfl H18 ?_
    clear H18; intro a19 H19
    refine fin ?_
    refine then_n ?_
    refine ⟨(k + 1, v15), by dsimp only; omega, by dsimp only; omega, (H19.drop (List.Sublist.cons _ (List.Sublist.refl _))).weak ⟨rfl, rfl, fi rfl (by dsimp only; omega), trivial⟩ (ir2 (by first | (simp; omega) | simp) ?_ rfl)⟩
    rw [Oct.take_succ 0 (by omega), List.map_append]
    rfl
  · skip
    refine wp_exit ?_
    refine then_x ?_
    refine then_x ?_
    refine inb_hit ?_
    refine then_n ?_
    refine wp_seq ?_
    refine reg ?_
    refine plain (y_move rfl rfl) rfl rfl rfl H8 ?_
    clear H8; intro a20 H20
    refine plain (y_bstr (p := h.take k) rfl Tryd.underlying44 Tryd.underlying5 Tryd.underlying9 rfl (by rw [List.length_take]; omega) (rd_row (by repeat (first | exact List.Mem.head _ | apply List.Mem.tail)))) rfl rfl rfl H20 ?_
    clear H20; intro a21 H21
    refine plain (y_assign rfl rfl) rfl rfl rfl H21 ?_
    clear H21; intro a22 H22
    refine fin ?_
    refine then_n ?_
    refine wp_ret ?_
    -- return 1
    refine ret1 rfl H22 rfl ?_
    exact ⟨_, [], rfl, ⟨by rw [List.take_of_length_le (by omega)], rfl⟩, H22.sep.sub (List.nil_sublist _)⟩
set_option maxRecDepth 100000 in
set_option maxHeartbeats 1000000 in
theorem rchain (h : List UInt8) (hh : h.length = 32) (s : List UInt8) (hs : s.length ≤ 140737488351232) {w : World}  : Calls Tryd.prog 26 #[.agg (h.map u8).toArray, str s] w (Gives (.agg ((Sha.sum (h ++ s)).map u8).toArray) [] w) := by
  refine enterL (args := [.agg (h.map u8).toArray, str s]) Tryd.func26 rfl rfl (l := []) (Sep.refl _) ?_
  intro a0 H0
  refine wp_seq ?_
  refine reg ?_
  refine st_box rfl rfl rfl rfl rfl rfl H0 ?_
  clear H0; intro b1 a1 w1 H1
  refine st_alloc rfl z_zero23 rfl rfl rfl H1 ?_
  clear H1; intro b2 a2 w2 H2
  refine fin ?_
  refine then_n ?_
  refine wp_seq ?_
  refine reg ?_
  refine plain (y_loadAB rfl z_agg23 z_size23 rfl (by repeat (first | exact List.Mem.head _ | apply List.Mem.tail)) (take_all (cs := h.map u8) (by rw [List.length_map, hh])) (by rw [List.length_map, hh])) rfl rfl rfl H2 ?_
  clear H2; intro a3 H3
  refine st_callg rfl z_call34 rfl rfl rfl rfl H3 (rbytes h hh _) ?_
  clear H3; intro a4 w4 H4
  refine plain (y_move rfl rfl) rfl rfl rfl H4 ?_
  clear H4; intro a5 H5
  refine plain (y_sadd rfl rfl rfl (by omega)) rfl rfl rfl H5 ?_
  clear H5; intro a6 H6
  refine st_callg rfl z_call22 rfl rfl rfl rfl H6 (rsum _ (by rw [List.length_append]; omega) _) ?_
  clear H6; intro a7 w7 H7
  refine st_store (vs := _) rfl z_size23 rfl rfl (show _ = List.map u8 _ from rfl) (one_u8 _) (by rw [List.length_map, Sha.sum_length]) (by repeat (first | exact Upd.head _ _ _ | apply Upd.tail)) (by decide) rfl rfl H7 ?_
  clear H7; intro w8 H8
  refine fin ?_
  refine then_n ?_
  refine wp_ret ?_
  -- return 1
  refine retc rfl H8 rfl z_agg23 z_size23 (by repeat (first | exact List.Mem.head _ | apply List.Mem.tail)) (by rw [spl_all (by rw [List.length_map, Sha.sum_length]; rfl), List.length_map, Sha.sum_length]) ?_
  refine ⟨_, [], rfl, ⟨?_, rfl⟩, H8.sep.sub (List.nil_sublist _)⟩
  rw [spl_all (by rw [List.length_map, Sha.sum_length]; rfl)]
  try rfl
set_option maxRecDepth 100000 in
set_option maxHeartbeats 1000000 in
theorem root1 (x : List UInt8) (hx : x.length ≤ 100000000000000000) (A : Option Addr) (c : Nat) {w : World} (hR : Rd w A [str x]) (hG : Glob 0 Sha.K w) : Calls Tryd.prog 29 #[.slice A 1 c] w (Gives (.agg ((Sha.sum (0 :: x)).map u8).toArray) [] w) := by
  refine enterL (args := [.slice A 1 c]) Tryd.func29 rfl rfl (l := []) (Sep.refl _) ?_
  intro a0 H0
  refine wp_seq ?_
  refine reg ?_
  refine st_alloc rfl z_zero23 rfl rfl rfl H0 ?_
  clear H0; intro b1 a1 w1 H1
  refine fin ?_
  refine then_n ?_
  refine wp_seq ?_
  refine wp_seq ?_
  refine reg ?_
  refine plain (y_move rfl rfl) rfl rfl rfl H1 ?_
  clear H1; intro a2 H2
  refine plain (y_len rfl Tryd.underlying46 rfl) rfl rfl rfl H2 ?_
  clear H2; intro a3 H3
  refine fin ?_
  refine then_n ?_
  refine wp_block ?_
  refine wp_seq ?_
  refine reg ?_
  refine plain (y_eql rfl rfl rfl) rfl rfl rfl H3 ?_
  clear H3; intro a4 H4
  refine plain (y_assign rfl rfl) rfl rfl rfl H4 ?_
  clear H4; intro a5 H5
  refine fin ?_
  refine then_n ?_
  refine cnd_d H5 rfl (fun hc6 => ?_) (fun hc6 => ?_) -- cond 1
  · (exfalso; omega)
  · skip
    refine wp_seq ?_
    refine reg ?_
    refine plain (y_eql rfl rfl rfl) rfl rfl rfl H5 ?_
    clear H5; intro a7 H7
    refine plain (y_assign rfl rfl) rfl rfl rfl H7 ?_
    clear H7; intro a8 H8
    refine fin ?_
    refine then_n ?_
    refine cnd_d H8 rfl (fun hc9 => ?_) (fun hc9 => ?_) -- cond 2
    · skip
      refine wp_seq ?_
      refine reg ?_
      refine plain (y_move rfl rfl) rfl rfl rfl H8 ?_
      clear H8; intro a10 H10
      refine plain (y_ixR rfl Tryd.underlying46 z_size9 rfl rfl (by omega) (by omega) (rd_old (by assumption) (by simp)) (show 0 < [str x].length from Nat.zero_lt_succ _)) rfl rfl rfl H10 ?_
      clear H10; intro a11 H11
      refine plain (y_loadR rfl z_agg9 rfl (rd_old (by assumption) (by simp)) rfl) rfl rfl rfl H11 ?_
      clear H11; intro a12 H12
      refine st_callg rfl z_call41 rfl rfl rfl rfl H12 (dleaf x hx (hG.frm H12.sep.frm (by simp))) ?_
      clear H12; intro a13 w13 H13
      refine st_store (vs := _) rfl z_size23 rfl rfl (show _ = List.map u8 _ from rfl) (one_u8 _) (by rw [List.length_map, Sha.sum_length]) (by repeat (first | exact Upd.head _ _ _ | apply Upd.tail)) (by decide) rfl rfl H13 ?_
      clear H13; intro w14 H14
      refine fin ?_
      refine then_n ?_
      refine wp_ret ?_
      refine inb_r ?_
      refine then_r ?_
      -- return 1
      refine retc rfl H14 rfl z_agg23 z_size23 (by repeat (first | exact List.Mem.head _ | apply List.Mem.tail)) (by rw [spl_all (by rw [List.length_map, Sha.sum_length]; rfl), List.length_map, Sha.sum_length]) ?_
      refine ⟨_, [], rfl, ⟨?_, rfl⟩, H14.sep.sub (List.nil_sublist _)⟩
      rw [spl_all (by rw [List.length_map, Sha.sum_length]; rfl)]
      try rfl
    · (exfalso; omega)
set_option maxRecDepth 100000 in
set_option maxHeartbeats 2000000 in
theorem proves1 (r : List UInt8) (hr : r.length = 32) (s : List UInt8) (hs : s.length ≤ 100000000000000000) {w : World} (hG : Glob 0 Sha.K w) : Calls Tryd.prog 23 #[.agg (r.map u8).toArray, .int .i64 1, .int .i64 0, str s, .slice none 0 0] w (Gives (.bool (decide (Sha.sum (0 :: s) = r))) [] w) := by
  refine enterL (args := [.agg (r.map u8).toArray, .int .i64 1, .int .i64 0, str s, .slice none 0 0]) Tryd.func23 rfl rfl (l := []) (Sep.refl _) ?_
  intro a0 H0
  refine wp_seq ?_
  refine reg ?_
  refine st_box rfl rfl rfl rfl rfl rfl H0 ?_
  clear H0; intro b1 a1 w1 H1
  refine plain (y_assign rfl rfl) rfl rfl rfl H1 ?_
  clear H1; intro a2 H2
  refine fin ?_
  refine then_n ?_
  refine wp_seq ?_
  refine wp_seq ?_
  refine reg ?_
  refine plain (y_move rfl rfl) rfl rfl rfl H2 ?_
  clear H2; intro a3 H3
  refine plain (y_lss rfl rfl rfl) rfl rfl rfl H3 ?_
  clear H3; intro a4 H4
  refine plain (y_move rfl rfl) rfl rfl rfl H4 ?_
  clear H4; intro a5 H5
  have H7 := H5.know (d := 18) (v := .bool false) rfl (congrArg Value.bool (decide_eq_false (by omega)))
  clear H5
  refine plain (y_move rfl rfl) rfl rfl rfl H7 ?_
  clear H7; intro a8 H8
  refine plain (y_move rfl rfl) rfl rfl rfl H8 ?_
  clear H8; intro a9 H9
  refine plain (y_geq rfl rfl rfl) rfl rfl rfl H9 ?_
  clear H9; intro a10 H10
  refine plain (y_pick_f rfl rfl rfl) rfl rfl rfl H10 ?_
  clear H10; intro a11 H11
  refine fin ?_
  refine then_n ?_
  refine cnd_d H11 rfl (fun hc12 => ?_) (fun hc12 => ?_) -- cond 1
  · (exfalso; omega)
  · skip
    refine wp_skip ?_
    refine then_n ?_
    refine wp_seq ?_
    refine reg ?_
    refine plain (y_assign rfl rfl) rfl rfl rfl H11 ?_
    clear H11; intro a13 H13
    refine fin ?_
    refine then_n ?_
    refine wp_seq ?_
    refine wp_block ?_
    refine loop (ι := Nat) (fun k => [(1, .int .i64 1), (2, .int .i64 0), (3, str s), (4, .slice none 0 0), (5, .pointer (some ⟨b1, 0, none⟩)), (11, .slice none 0 0)]) (fun k => [It.blk b1 23 (r.map u8)]) (fun k => k = 0) (fun k => 0) (0) rfl (H13.weak ⟨rfl, rfl, rfl, rfl, rfl, rfl, trivial⟩ rfl) ?_
    clear H13; intro k a14 w14 hok14 H14
    have hok := hok14
    refine wp_seq ?_
    refine wp_seq ?_
    refine reg ?_
    refine plain (y_move rfl rfl) rfl rfl rfl H14 ?_
    clear H14; intro a15 H15
    refine plain (y_gtr rfl rfl rfl) rfl rfl rfl H15 ?_
    clear H15; intro a16 H16
    refine fin ?_
    refine then_n ?_
    refine cnd_d H16 rfl (fun hc17 => ?_) (fun hc17 => ?_) -- cond 2
    · (exfalso; omega)
    · skip
      refine wp_exit ?_
      refine then_x ?_
      refine then_x ?_
      refine inb_hit ?_
      refine then_n ?_
      refine wp_seq ?_
      refine wp_seq ?_
      refine reg ?_
      refine plain (y_move rfl rfl) rfl rfl rfl H16 ?_
      clear H16; intro a18 H18
      refine plain (y_len rfl Tryd.underlying38 rfl) rfl rfl rfl H18 ?_
      clear H18; intro a19 H19
      refine plain (y_move rfl rfl) rfl rfl rfl H19 ?_
      clear H19; intro a20 H20
      refine plain (y_len rfl Tryd.underlying70 rfl) rfl rfl rfl H20 ?_
      clear H20; intro a21 H21
      refine plain (y_neq rfl rfl rfl) rfl rfl rfl H21 ?_
      clear H21; intro a22 H22
      refine fin ?_
      refine then_n ?_
      refine cnd_d H22 rfl (fun hc23 => ?_) (fun hc23 => ?_) -- cond 3
      · (exfalso; simp at hc23)
      · skip
        refine wp_skip ?_
        refine then_n ?_
        refine wp_seq ?_
        refine reg ?_
        refine plain (y_move rfl rfl) rfl rfl rfl H22 ?_
        clear H22; intro a24 H24
        refine st_callg rfl z_call41 rfl rfl rfl rfl H24 (dleaf s hs (hG.frm H24.sep.frm (by simp))) ?_
        clear H24; intro a25 w25 H25
        refine st_alloc rfl z_zero23 rfl rfl rfl H25 ?_
        clear H25; intro b26 a26 w26 H26
        refine st_store (vs := _) rfl z_size23 rfl rfl (show _ = List.map u8 _ from rfl) (one_u8 _) (by rw [List.length_map, Sha.sum_length]) (by repeat (first | exact Upd.head _ _ _ | apply Upd.tail)) (by decide) rfl rfl H26 ?_
        clear H26; intro w27 H27
        refine fin ?_
        refine then_n ?_
        refine wp_seq ?_
        refine wp_seq ?_
        refine reg ?_
        refine plain (y_move rfl rfl) rfl rfl rfl H27 ?_
        clear H27; intro a28 H28
        refine plain (y_len rfl Tryd.underlying38 rfl) rfl rfl rfl H28 ?_
        clear H28; intro a29 H29
        refine plain (y_move rfl rfl) rfl rfl rfl H29 ?_
        clear H29; intro a30 H30
        refine fin ?_
        refine then_n ?_
        refine wp_block ?_
        refine loop (ι := Nat) (fun k => [(5, .pointer (some ⟨b1, 0, none⟩)), (13, .pointer (some ⟨b26, 0, none⟩)), (51, .int .i64 0), (52, .int .i64 0)]) (fun k => [It.blk b26 23 ((Sha.sum (0 :: s)).map u8), It.blk b1 23 (r.map u8)]) (fun k => k = 0) (fun k => 0) (0) rfl (H30.weak ⟨rfl, rfl, rfl, rfl, trivial⟩ (ib2 (spl_all (by rw [List.length_map, Sha.sum_length]; rfl)) rfl)) ?_
        clear H30; intro k a31 w31 hok31 H31
        have hok := hok31
        refine wp_seq ?_
        refine reg ?_
        refine plain (y_lss rfl rfl rfl) rfl rfl rfl H31 ?_
        clear H31; intro a32 H32
        refine fin ?_
        refine then_n ?_
        refine wp_seq ?_
        refine cnd_d H32 rfl (fun hc33 => ?_) (fun hc33 => ?_) -- cond 4
        · (exfalso; omega)
        · skip
          refine wp_exit ?_
          refine then_x ?_
          refine then_x ?_
          refine inb_hit ?_
          refine then_n ?_
          refine wp_seq ?_
          refine reg ?_
          refine plain (y_loadAB rfl z_agg23 z_size23 rfl (by repeat (first | exact List.Mem.head _ | apply List.Mem.tail)) (take_all (by rw [List.length_map, Sha.sum_length])) (by rw [List.length_map, Sha.sum_length])) rfl rfl rfl H32 ?_
          clear H32; intro a34 H34
          refine plain (y_loadAB rfl z_agg23 z_size23 rfl (by repeat (first | exact List.Mem.head _ | apply List.Mem.tail)) (take_all (by rw [List.length_map, hr])) (by rw [List.length_map, hr])) rfl rfl rfl H34 ?_
          clear H34; intro a35 H35
          refine plain (y_heql rfl Tryd.eqGuardType23 Tryd.underlying23 Tryd.underlying5 z_size5 rfl rfl (Sha.sum_length _) hr) rfl rfl rfl H35 ?_
          clear H35; intro a36 H36
          refine plain (y_assign rfl rfl) rfl rfl rfl H36 ?_
          clear H36; intro a37 H37
          refine fin ?_
          refine then_n ?_
          refine wp_ret ?_
          -- return 1
          refine ret1 rfl H37 rfl ?_
          exact ⟨_, [], rfl, ⟨rfl, rfl⟩, H37.sep.sub (List.nil_sublist _)⟩

end Go.Proofs.YtbadncpjbdfinaaDoor.D_Leaf
