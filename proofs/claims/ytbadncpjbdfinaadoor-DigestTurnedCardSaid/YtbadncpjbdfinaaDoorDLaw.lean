/- Part of a proof about given Go functions: contracts of functions, or plain laws. -/
import Derived.Test.YtbadncpjbdfinaaDoorSxW
import Derived.Test.YtbadncpjbdfinaaDoorSxI
import Derived.Test.YtbadncpjbdfinaaDoorSha
import Derived.Test.YtbadncpjbdfinaaDoorShaAbc
import Derived.Test.YtbadncpjbdfinaaDoorProg
import Derived.Test.YtbadncpjbdfinaaDoorDBlock
import Derived.Test.YtbadncpjbdfinaaDoorDSum
import Derived.Test.YtbadncpjbdfinaaDoorDRef
import Derived.Test.YtbadncpjbdfinaaDoorDRSum
import Derived.Test.YtbadncpjbdfinaaDoorDLeaf
set_option linter.unusedVariables false
set_option linter.unusedSimpArgs false
namespace Go.Proofs.YtbadncpjbdfinaaDoor.D_Law
open Go.Sx Go.RowKit Go.Proofs.YtbadncpjbdfinaaDoor.D_Block Go.Proofs.YtbadncpjbdfinaaDoor.D_Sum Go.Proofs.YtbadncpjbdfinaaDoor.D_Ref Go.Proofs.YtbadncpjbdfinaaDoor.D_RSum Go.Proofs.YtbadncpjbdfinaaDoor.D_Leaf

theorem z_call21 : callB Tryd.prog 21 = true := by kernel_rfl
theorem z_zero23 : zeroL Tryd.prog 23 = some (List.replicate 32 (.int .u8 0)) := by kernel_rfl
theorem z_size23 : sizeB Tryd.prog 23 = some 32 := by kernel_rfl
theorem z_size5 : sizeB Tryd.prog 5 = some 1 := by kernel_rfl
theorem z_agg5 : aggB Tryd.prog 5 = some false := by kernel_rfl
theorem z_size9 : sizeB Tryd.prog 9 = some 1 := by kernel_rfl
theorem z_zero9 : zeroL Tryd.prog 9 = some ([.string ⟨#[]⟩]) := by kernel_rfl
theorem z_call29 : callB Tryd.prog 29 = true := by kernel_rfl
theorem z_call23 : callB Tryd.prog 23 = true := by kernel_rfl
theorem z_call20 : callB Tryd.prog 20 = true := by kernel_rfl
theorem z_call22 : callB Tryd.prog 22 = true := by kernel_rfl
theorem z_agg23 : aggB Tryd.prog 23 = some true := by kernel_rfl
theorem z_call25 : callB Tryd.prog 25 = true := by kernel_rfl
theorem z_call26 : callB Tryd.prog 26 = true := by kernel_rfl

set_option maxRecDepth 100000 in
set_option maxHeartbeats 2000000 in
theorem awake2 {w : World} (hG : Glob 0 Sha.K w) : Calls Tryd.prog 20 #[] w (Gives (.bool true) [] w) := by
  refine enterL (args := []) Tryd.func20 rfl rfl (l := []) (Sep.refl _) ?_
  intro a0 H0
  refine wp_seq ?_
  refine reg ?_
  refine plain (y_assign rfl rfl) rfl rfl rfl H0 ?_
  clear H0; intro a1 H1
  refine fin ?_
  refine then_n ?_
  refine wp_seq ?_
  refine reg ?_
  refine st_callg rfl z_call21 rfl rfl rfl rfl H1 (dsum [97, 98, 99] (by decide) (hG.frm H1.sep.frm (by simp))) ?_
  clear H1; intro a2 wx2 H2
  refine st_alloc rfl z_zero23 rfl rfl rfl H2 ?_
  clear H2; intro b3 a3 wx3 H3
  refine st_store (vs := _) rfl z_size23 rfl rfl (show _ = List.map u8 _ from rfl) (one_u8 _) (by rw [List.length_map, Sha.sum_length]) (by repeat (first | exact Upd.head _ _ _ | apply Upd.tail)) (by decide) rfl rfl H3 ?_
  clear H3; intro wx4 H4
  refine fin ?_
  refine then_n ?_
  refine wp_seq ?_
  refine reg ?_
  have hsum : Sha.sum [97, 98, 99] = _ := Sha.sum_abc
  rw [spl_all (by rw [List.length_map, Sha.sum_length]; rfl), hsum] at H4
  refine plain (y_ixA rfl Tryd.underlying23 z_size5 rfl rfl (by omega) (by omega) rfl) rfl rfl rfl H4 ?_
  clear H4; intro a5 H5
  refine plain (y_loadB rfl z_agg5 rfl (by repeat (first | exact List.Mem.head _ | apply List.Mem.tail)) rfl) rfl rfl rfl H5 ?_
  clear H5; intro a6 H6
  refine plain (y_eql rfl rfl rfl) rfl rfl rfl H6 ?_
  clear H6; intro a7 H7
  refine plain (y_move rfl rfl) rfl rfl rfl H7 ?_
  clear H7; intro a8 H8
  have H10 := H8.know (d := 6) (v := .bool true) rfl (congrArg Value.bool (decide_eq_true (by decide)))
  clear H8
  refine plain (y_ixA rfl Tryd.underlying23 z_size5 rfl rfl (by omega) (by omega) rfl) rfl rfl rfl H10 ?_
  clear H10; intro a11 H11
  refine plain (y_loadB rfl z_agg5 rfl (by repeat (first | exact List.Mem.head _ | apply List.Mem.tail)) rfl) rfl rfl rfl H11 ?_
  clear H11; intro a12 H12
  refine plain (y_eql rfl rfl rfl) rfl rfl rfl H12 ?_
  clear H12; intro a13 H13
  refine plain (y_pick_t rfl rfl rfl) rfl rfl rfl H13 ?_
  clear H13; intro a14 H14
  refine plain (y_move rfl rfl) rfl rfl rfl H14 ?_
  clear H14; intro a15 H15
  have H17 := H15.know (d := 11) (v := .bool true) rfl (congrArg Value.bool (decide_eq_true (by decide)))
  clear H15
  refine plain (y_ixA rfl Tryd.underlying23 z_size5 rfl rfl (by omega) (by omega) rfl) rfl rfl rfl H17 ?_
  clear H17; intro a18 H18
  refine plain (y_loadB rfl z_agg5 rfl (by repeat (first | exact List.Mem.head _ | apply List.Mem.tail)) rfl) rfl rfl rfl H18 ?_
  clear H18; intro a19 H19
  refine plain (y_eql rfl rfl rfl) rfl rfl rfl H19 ?_
  clear H19; intro a20 H20
  refine plain (y_pick_t rfl rfl rfl) rfl rfl rfl H20 ?_
  clear H20; intro a21 H21
  refine plain (y_move rfl rfl) rfl rfl rfl H21 ?_
  clear H21; intro a22 H22
  have H24 := H22.know (d := 16) (v := .bool true) rfl (congrArg Value.bool (decide_eq_true (by decide)))
  clear H22
  refine st_buildSlice1 (xs := [.const (.string ⟨#[97]⟩)]) rfl Tryd.underlying46 z_size9 z_zero9 rfl rfl rfl rfl rfl rfl rfl rfl rfl H24 ?_
  clear H24; intro b25 a25 wx25 H25
  refine st_callg rfl z_call29 rfl rfl rfl rfl H25 (root1 [97] (by decide) _ _ (Rd.ofSep (rd_blkA (by repeat (first | exact List.Mem.head _ | apply List.Mem.tail))) H25.sep) (hG.frm H25.sep.frm (by simp))) ?_
  clear H25; intro a26 wx26 H26
  refine st_callg rfl z_call23 rfl rfl rfl rfl H26 (proves1 _ (Sha.sum_length _) [97] (by decide) (hG.frm H26.sep.frm (by simp))) ?_
  clear H26; intro a27 wx27 H27
  refine plain (y_pick_t rfl rfl rfl) rfl rfl rfl H27 ?_
  clear H27; intro a28 H28
  refine plain (y_assign rfl rfl) rfl rfl rfl H28 ?_
  clear H28; intro a29 H29
  refine fin ?_
  refine then_n ?_
  refine wp_ret ?_
  -- return 1
  refine ret1 rfl H29 rfl ?_
  exact ⟨_, [], rfl, ⟨congrArg Value.bool (decide_eq_true rfl), rfl⟩, H29.sep.sub (List.nil_sublist _)⟩
set_option maxRecDepth 100000 in
set_option maxHeartbeats 1000000 in
theorem digestSums (s : List UInt8) (hls : s.length ≤ 140737488351232) {w : World} (hG : Glob 0 Sha.K w) : Calls Tryd.prog 7 #[str s] w (Gives (.bool true) [] w) := by
  refine enterL (args := [str s]) Tryd.func7 rfl rfl (l := []) (Sep.refl _) ?_
  intro a0 H0
  refine wp_seq ?_
  refine reg ?_
  refine plain (y_assign rfl rfl) rfl rfl rfl H0 ?_
  clear H0; intro a1 H1
  refine fin ?_
  refine then_n ?_
  refine wp_seq ?_
  refine reg ?_
  refine st_callg rfl z_call20 rfl rfl rfl rfl H1 (awake2 (hG.frm H1.sep.frm (by simp))) ?_
  clear H1; intro a2 wx2 H2
  refine plain (y_move rfl rfl) rfl rfl rfl H2 ?_
  clear H2; intro a3 H3
  refine plain (y_move rfl rfl) rfl rfl rfl H3 ?_
  clear H3; intro a4 H4
  refine st_callg rfl z_call21 rfl rfl rfl rfl H4 (dsum s (by omega) (hG.frm H4.sep.frm (by simp))) ?_
  clear H4; intro a5 wx5 H5
  refine plain (y_move rfl rfl) rfl rfl rfl H5 ?_
  clear H5; intro a6 H6
  refine st_callg rfl z_call22 rfl rfl rfl rfl H6 (rsum s (by omega) _) ?_
  clear H6; intro a7 wx7 H7
  refine plain (y_heql rfl Tryd.eqGuardType23 Tryd.underlying23 Tryd.underlying5 z_size5 rfl rfl (Sha.sum_length _) (Sha.sum_length _)) rfl rfl rfl H7 ?_
  clear H7; intro a8 H8
  refine plain (y_pick_t rfl rfl rfl) rfl rfl rfl H8 ?_
  clear H8; intro a9 H9
  refine plain (y_assign rfl rfl) rfl rfl rfl H9 ?_
  clear H9; intro a10 H10
  refine fin ?_
  refine then_n ?_
  refine wp_ret ?_
  -- return 1
  refine ret1 rfl H10 rfl ?_
  exact ⟨_, [], rfl, ⟨congrArg Value.bool (decide_eq_true rfl), rfl⟩, H10.sep.sub (List.nil_sublist _)⟩
set_option maxRecDepth 100000 in
set_option maxHeartbeats 2000000 in
theorem digestChains (h : List UInt8) (hh : h.length = 32) (s : List UInt8) (hls : s.length ≤ 140737488351232) {w : World} (hG : Glob 0 Sha.K w) : Calls Tryd.prog 9 #[.agg (h.map u8).toArray, str s] w (Gives (.bool true) [] w) := by
  refine enterL (args := [.agg (h.map u8).toArray, str s]) Tryd.func9 rfl rfl (l := []) (Sep.refl _) ?_
  intro a0 H0
  refine wp_seq ?_
  refine reg ?_
  refine st_box rfl rfl rfl rfl rfl rfl H0 ?_
  clear H0; intro b1 a1 wx1 H1
  refine plain (y_assign rfl rfl) rfl rfl rfl H1 ?_
  clear H1; intro a2 H2
  refine fin ?_
  refine then_n ?_
  refine wp_seq ?_
  refine qreg (by kernel_rfl) (by kernel_rfl) H2 ?_
  have F3 := H2.fr
  clear H2
  refine qcallg rfl z_call20 rfl rfl rfl rfl F3 (fun w hs => (awake2 (hG.frm hs.frm (by simp)))) ?_
  clear F3; intro a4 H4
  refine qplain (y_move rfl rfl) rfl rfl rfl H4 ?_
  clear H4; intro a5 H5
  refine qplain (y_loadAB rfl z_agg23 z_size23 rfl (by repeat (first | exact List.Mem.head _ | apply List.Mem.tail)) (take_all (cs := h.map u8) (by rw [List.length_map, hh])) (by rw [List.length_map, hh])) rfl rfl rfl H5 ?_
  clear H5; intro a6 H6
  refine qplain (y_move rfl rfl) rfl rfl rfl H6 ?_
  clear H6; intro a7 H7
  refine qcallg rfl z_call25 rfl rfl rfl rfl H7 (fun w hs => (dchain h hh s hls (hG.frm hs.frm (by simp)))) ?_
  clear H7; intro a8 H8
  refine qplain (y_loadAB rfl z_agg23 z_size23 rfl (by repeat (first | exact List.Mem.head _ | apply List.Mem.tail)) (take_all (cs := h.map u8) (by rw [List.length_map, hh])) (by rw [List.length_map, hh])) rfl rfl rfl H8 ?_
  clear H8; intro a9 H9
  refine qplain (y_move rfl rfl) rfl rfl rfl H9 ?_
  clear H9; intro a10 H10
  refine qcallg rfl z_call26 rfl rfl rfl rfl H10 (fun w hs => (rchain h hh s hls)) ?_
  clear H10; intro a11 H11
  refine qplain (y_heql rfl Tryd.eqGuardType23 Tryd.underlying23 Tryd.underlying5 z_size5 rfl rfl (Sha.sum_length _) (Sha.sum_length _)) rfl rfl rfl H11 ?_
  clear H11; intro a12 H12
  refine qplain (y_pick_t rfl rfl rfl) rfl rfl rfl H12 ?_
  clear H12; intro a13 H13
  refine qplain (y_move rfl rfl) rfl rfl rfl H13 ?_
  clear H13; intro a14 H14
  have H16 := H14.know (d := 15) (v := .bool true) rfl (congrArg Value.bool (decide_eq_true (rfl)))
  clear H14
  refine qplain (y_loadAB rfl z_agg23 z_size23 rfl (by repeat (first | exact List.Mem.head _ | apply List.Mem.tail)) (take_all (cs := h.map u8) (by rw [List.length_map, hh])) (by rw [List.length_map, hh])) rfl rfl rfl H16 ?_
  clear H16; intro a17 H17
  refine qplain (y_move rfl rfl) rfl rfl rfl H17 ?_
  clear H17; intro a18 H18
  refine qcallg rfl z_call25 rfl rfl rfl rfl H18 (fun w hs => (dchain h hh s hls (hG.frm hs.frm (by simp)))) ?_
  clear H18; intro a19 H19
  refine qplain (y_slA_all rfl Tryd.underlying23 z_size5 (by decide) rfl) rfl rfl rfl H19 ?_
  clear H19; intro a20 H20
  refine qplain (y_bstr (p := h) rfl Tryd.underlying44 Tryd.underlying5 Tryd.underlying9 rfl hh.symm (rd_blkA (by repeat (first | exact List.Mem.head _ | apply List.Mem.tail)))) rfl rfl rfl H20 ?_
  clear H20; intro a21 H21
  refine qplain (y_move rfl rfl) rfl rfl rfl H21 ?_
  clear H21; intro a22 H22
  refine qplain (y_sadd rfl rfl rfl (by omega)) rfl rfl rfl H22 ?_
  clear H22; intro a23 H23
  refine qcallg rfl z_call21 rfl rfl rfl rfl H23 (fun w hs => (dsum _ (by rw [List.length_append]; omega) (hG.frm hs.frm (by simp)))) ?_
  clear H23; intro a24 H24
  refine qplain (y_heql rfl Tryd.eqGuardType23 Tryd.underlying23 Tryd.underlying5 z_size5 rfl rfl (Sha.sum_length _) (Sha.sum_length _)) rfl rfl rfl H24 ?_
  clear H24; intro a25 H25
  refine qplain (y_pick_t rfl rfl rfl) rfl rfl rfl H25 ?_
  clear H25; intro a26 H26
  refine qplain (y_assign rfl rfl) rfl rfl rfl H26 ?_
  clear H26; intro a27 H27
  refine qfin H27 ?_
  clear H27; intro wx28 H28
  refine then_n ?_
  refine wp_ret ?_
  -- return 1
  refine ret1 rfl H28 rfl ?_
  exact ⟨_, [], rfl, ⟨congrArg Value.bool (decide_eq_true rfl), rfl⟩, H28.sep.sub (List.nil_sublist _)⟩

end Go.Proofs.YtbadncpjbdfinaaDoor.D_Law
