/- Part of a proof about given Go functions: contracts of functions, or plain laws. -/
import Derived.Test.YtbadncpjbdfinaaDoorSxW
import Derived.Test.YtbadncpjbdfinaaDoorSxI
import Derived.Test.YtbadncpjbdfinaaDoorSha
import Derived.Test.YtbadncpjbdfinaaDoorProg
import Derived.Test.YtbadncpjbdfinaaDoorDBlock
import Derived.Test.YtbadncpjbdfinaaDoorDSum
import Derived.Test.YtbadncpjbdfinaaDoorDRef
import Derived.Test.YtbadncpjbdfinaaDoorDRSum
import Derived.Test.YtbadncpjbdfinaaDoorDLeaf
import Derived.Test.YtbadncpjbdfinaaDoorShaAbc
import Derived.Test.YtbadncpjbdfinaaDoorSxX
import Derived.Test.YtbadncpjbdfinaaDoorSxY
import Derived.Test.YtbadncpjbdfinaaDoorSeal
import Derived.Test.YtbadncpjbdfinaaDoorShaKey
import Derived.Test.YtbadncpjbdfinaaDoorOct2
import Derived.Test.YtbadncpjbdfinaaDoorDNum
import Derived.Test.YtbadncpjbdfinaaDoorDKey
import Derived.Test.YtbadncpjbdfinaaDoorDTag
import Derived.Test.YtbadncpjbdfinaaDoorSeal2
import Derived.Test.YtbadncpjbdfinaaDoorDCheck
set_option linter.unusedVariables false
set_option linter.unusedSimpArgs false
namespace Go.Proofs.YtbadncpjbdfinaaDoor.D_SLaw
open Go.Sx Go.RowKit Go.Proofs.YtbadncpjbdfinaaDoor.D_Block Go.Proofs.YtbadncpjbdfinaaDoor.D_Sum Go.Proofs.YtbadncpjbdfinaaDoor.D_Ref Go.Proofs.YtbadncpjbdfinaaDoor.D_RSum Go.Proofs.YtbadncpjbdfinaaDoor.D_Leaf Go.Proofs.YtbadncpjbdfinaaDoor.D_Num Go.Proofs.YtbadncpjbdfinaaDoor.D_Key Go.Proofs.YtbadncpjbdfinaaDoor.D_Tag Go.Proofs.YtbadncpjbdfinaaDoor.D_Check

theorem z_call16 : callB Tryd.prog 16 = true := by kernel_rfl
theorem z_zero23 : zeroL Tryd.prog 23 = some (List.replicate 32 (.int .u8 0)) := by kernel_rfl
theorem z_size23 : sizeB Tryd.prog 23 = some 32 := by kernel_rfl
theorem z_agg23 : aggB Tryd.prog 23 = some true := by kernel_rfl
theorem z_call18 : callB Tryd.prog 18 = true := by kernel_rfl
theorem z_size5 : sizeB Tryd.prog 5 = some 1 := by kernel_rfl
theorem z_call13 : callB Tryd.prog 13 = true := by kernel_rfl
theorem z_call14 : callB Tryd.prog 14 = true := by kernel_rfl
theorem z_call15 : callB Tryd.prog 15 = true := by kernel_rfl
theorem z_call17 : callB Tryd.prog 17 = true := by kernel_rfl

set_option maxRecDepth 100000 in
set_option maxHeartbeats 2000000 in
theorem awake3 {w : World} (hG : Glob 0 Sha.K w) : Calls Tryd.prog 15 #[] w (Gives (.bool true) [] w) := by
  refine enterL (args := []) Tryd.func15 rfl rfl (l := []) (Sep.refl _) ?_
  intro a0 H0
  refine wp_seq ?_
  refine reg ?_
  refine plain (y_assign rfl rfl) rfl rfl rfl H0 ?_
  clear H0; intro a1 H1
  refine fin ?_
  refine then_n ?_
  refine wp_seq ?_
  refine reg ?_
  refine st_callg rfl z_call16 rfl rfl rfl rfl H1 (stag 1 1 (by omega) (by omega) [97] (by decide) (hG.frm H1.sep.frm (by simp))) ?_
  clear H1; intro a2 w2 H2
  refine plain (y_move rfl rfl) rfl rfl rfl H2 ?_
  clear H2; intro a3 H3
  refine plain (y_extract rfl rfl rfl) rfl rfl rfl H3 ?_
  clear H3; intro a4 H4
  refine plain (y_extract rfl rfl rfl) rfl rfl rfl H4 ?_
  clear H4; intro a5 H5
  refine st_alloc rfl z_zero23 rfl rfl rfl H5 ?_
  clear H5; intro b6 a6 w6 H6
  refine st_store (vs := _) rfl z_size23 rfl rfl (show _ = List.map u8 _ from rfl) (one_u8 _) (by rw [List.length_map, Seal.tag_len]) (by repeat (first | exact Upd.head _ _ _ | apply Upd.tail)) (by decide) rfl rfl H6 ?_
  clear H6; intro w7 H7
  refine plain (y_assign rfl rfl) rfl rfl rfl H7 ?_
  clear H7; intro a8 H8
  refine fin ?_
  refine then_n ?_
  refine wp_seq ?_
  refine reg ?_
  rw [spl_all (by rw [List.length_map, Seal.tag_len]; rfl)] at H8
  refine plain (y_move rfl rfl) rfl rfl rfl H8 ?_
  clear H8; intro a9 H9
  refine plain (y_eql rfl rfl rfl) rfl rfl rfl H9 ?_
  clear H9; intro a10 H10
  refine plain (y_move rfl rfl) rfl rfl rfl H10 ?_
  clear H10; intro a11 H11
  have H13 := H11.know (d := 9) (v := .bool true) rfl (congrArg Value.bool (decide_eq_true (by rw [Seal.tag_one])))
  clear H11
  refine plain (y_loadAB rfl z_agg23 z_size23 rfl (by repeat (first | exact List.Mem.head _ | apply List.Mem.tail)) (take_all (cs := ((Seal.tag 1 1 [97]).1).map u8) (by rw [List.length_map, Seal.tag_len])) (by rw [List.length_map, Seal.tag_len])) rfl rfl rfl H13 ?_
  clear H13; intro a14 H14
  refine st_callg rfl z_call18 rfl rfl rfl rfl H14 (scheck 1 1 (by omega) (by omega) [97] (by decide) _ (Seal.tag_len _ _ _) (hG.frm H14.sep.frm (by simp))) ?_
  clear H14; intro a15 w15 H15
  refine plain (y_eql rfl rfl rfl) rfl rfl rfl H15 ?_
  clear H15; intro a16 H16
  refine plain (y_pick_t rfl rfl rfl) rfl rfl rfl H16 ?_
  clear H16; intro a17 H17
  refine plain (y_move rfl rfl) rfl rfl rfl H17 ?_
  clear H17; intro a18 H18
  have H20 := H18.know (d := 14) (v := .bool true) rfl (congrArg Value.bool (decide_eq_true (Seal.check_one)))
  clear H18
  refine plain (y_loadAB rfl z_agg23 z_size23 rfl (by repeat (first | exact List.Mem.head _ | apply List.Mem.tail)) (take_all (cs := ((Seal.tag 1 1 [97]).1).map u8) (by rw [List.length_map, Seal.tag_len])) (by rw [List.length_map, Seal.tag_len])) rfl rfl rfl H20 ?_
  clear H20; intro a21 H21
  refine st_callg rfl z_call18 rfl rfl rfl rfl H21 (scheck 65 1 (by omega) (by omega) [97] (by decide) _ (Seal.tag_len _ _ _) (hG.frm H21.sep.frm (by simp))) ?_
  clear H21; intro a22 w22 H22
  refine plain (y_eql rfl rfl rfl) rfl rfl rfl H22 ?_
  clear H22; intro a23 H23
  refine plain (y_pick_t rfl rfl rfl) rfl rfl rfl H23 ?_
  clear H23; intro a24 H24
  refine plain (y_move rfl rfl) rfl rfl rfl H24 ?_
  clear H24; intro a25 H25
  have H27 := H25.know (d := 19) (v := .bool true) rfl (congrArg Value.bool (decide_eq_true (Seal.check_65)))
  clear H25
  refine plain (y_loadAB rfl z_agg23 z_size23 rfl (by repeat (first | exact List.Mem.head _ | apply List.Mem.tail)) (take_all (cs := ((Seal.tag 1 1 [97]).1).map u8) (by rw [List.length_map, Seal.tag_len])) (by rw [List.length_map, Seal.tag_len])) rfl rfl rfl H27 ?_
  clear H27; intro a28 H28
  refine plain (y_buildA rfl z_zero23 Tryd.underlying23 z_size5 rfl rfl) rfl rfl rfl H28 ?_
  clear H28; intro a29 H29
  refine plain (y_hneq (q := Seal.Z) rfl Tryd.eqGuardType23 Tryd.underlying23 Tryd.underlying5 z_size5 rfl rfl (Seal.tag_len _ _ _) rfl) rfl rfl rfl H29 ?_
  clear H29
  intro aZ HZ
  refine plain (y_pick_t rfl rfl rfl) rfl rfl rfl HZ ?_
  clear HZ; intro a33 H33
  refine plain (y_assign rfl rfl) rfl rfl rfl H33 ?_
  clear H33; intro a34 H34
  refine fin ?_
  refine then_n ?_
  refine wp_ret ?_
  -- return 1
  refine ret1 rfl H34 rfl ?_
  exact ⟨_, [], rfl, ⟨congrArg Value.bool (decide_eq_true Seal.tag_ne), rfl⟩, H34.sep.sub (List.nil_sublist _)⟩
set_option maxRecDepth 100000 in
set_option maxHeartbeats 1000000 in
theorem sealKeys (who : Int) (hw : -9223372036854775808 ≤ who ∧ who ≤ 9223372036854775807) {w : World} (hG : Glob 0 Sha.K w) : Calls Tryd.prog 3 #[.int .i64 who] w (Gives (.bool true) [] w) := by
  refine enterL (args := [.int .i64 who]) Tryd.func3 rfl rfl (l := []) (Sep.refl _) ?_
  intro a0 H0
  refine wp_seq ?_
  refine reg ?_
  refine plain (y_assign rfl rfl) rfl rfl rfl H0 ?_
  clear H0; intro a1 H1
  refine fin ?_
  refine then_n ?_
  refine wp_seq ?_
  refine reg ?_
  refine plain (y_move rfl rfl) rfl rfl rfl H1 ?_
  clear H1; intro a2 H2
  refine st_callg rfl z_call13 rfl rfl rfl rfl H2 (skey who hw (hG.frm H2.sep.frm (by simp))) ?_
  clear H2; intro a3 w3 H3
  refine plain (y_move rfl rfl) rfl rfl rfl H3 ?_
  clear H3; intro a4 H4
  refine plain (y_extract rfl rfl rfl) rfl rfl rfl H4 ?_
  clear H4; intro a5 H5
  refine plain (y_extract rfl rfl rfl) rfl rfl rfl H5 ?_
  clear H5; intro a6 H6
  refine st_alloc rfl z_zero23 rfl rfl rfl H6 ?_
  clear H6; intro b7 a7 w7 H7
  refine st_store (vs := _) rfl z_size23 rfl rfl (show _ = List.map u8 _ from rfl) (one_u8 _) (by rw [List.length_map, Seal.key_len]) (by repeat (first | exact Upd.head _ _ _ | apply Upd.tail)) (by decide) rfl rfl H7 ?_
  clear H7; intro w8 H8
  refine plain (y_assign rfl rfl) rfl rfl rfl H8 ?_
  clear H8; intro a9 H9
  refine fin ?_
  refine then_n ?_
  refine wp_seq ?_
  refine reg ?_
  rw [spl_all (by rw [List.length_map, Seal.key_len]; rfl)] at H9
  refine plain (y_move rfl rfl) rfl rfl rfl H9 ?_
  clear H9; intro a10 H10
  refine st_callg rfl z_call14 rfl rfl rfl rfl H10 (rkey who hw _) ?_
  clear H10; intro a11 w11 H11
  refine plain (y_move rfl rfl) rfl rfl rfl H11 ?_
  clear H11; intro a12 H12
  refine plain (y_extract rfl rfl rfl) rfl rfl rfl H12 ?_
  clear H12; intro a13 H13
  refine plain (y_extract rfl rfl rfl) rfl rfl rfl H13 ?_
  clear H13; intro a14 H14
  refine st_alloc rfl z_zero23 rfl rfl rfl H14 ?_
  clear H14; intro b15 a15 w15 H15
  refine st_store (vs := _) rfl z_size23 rfl rfl (show _ = List.map u8 _ from rfl) (one_u8 _) (by rw [List.length_map, Seal.key_len]) (by repeat (first | exact Upd.head _ _ _ | apply Upd.tail)) (by decide) rfl rfl H15 ?_
  clear H15; intro w16 H16
  refine plain (y_assign rfl rfl) rfl rfl rfl H16 ?_
  clear H16; intro a17 H17
  refine fin ?_
  refine then_n ?_
  refine wp_seq ?_
  refine reg ?_
  rw [spl_all (by rw [List.length_map, Seal.key_len]; rfl)] at H17
  refine st_callg rfl z_call15 rfl rfl rfl rfl H17 (awake3 (hG.frm H17.sep.frm (by simp))) ?_
  clear H17; intro a18 w18 H18
  refine plain (y_move rfl rfl) rfl rfl rfl H18 ?_
  clear H18; intro a19 H19
  refine plain (y_loadAB rfl z_agg23 z_size23 rfl (by repeat (first | exact List.Mem.head _ | apply List.Mem.tail)) (take_all (cs := ((Seal.key who).1).map u8) (by rw [List.length_map, Seal.key_len])) (by rw [List.length_map, Seal.key_len])) rfl rfl rfl H19 ?_
  clear H19; intro a20 H20
  refine plain (y_loadAB rfl z_agg23 z_size23 rfl (by repeat (first | exact List.Mem.head _ | apply List.Mem.tail)) (take_all (cs := ((Seal.key who).1).map u8) (by rw [List.length_map, Seal.key_len])) (by rw [List.length_map, Seal.key_len])) rfl rfl rfl H20 ?_
  clear H20; intro a21 H21
  refine plain (y_heql rfl Tryd.eqGuardType23 Tryd.underlying23 Tryd.underlying5 z_size5 rfl rfl (Seal.key_len _) (Seal.key_len _)) rfl rfl rfl H21 ?_
  clear H21; intro a22 H22
  refine plain (y_pick_t rfl rfl rfl) rfl rfl rfl H22 ?_
  clear H22; intro a23 H23
  refine plain (y_move rfl rfl) rfl rfl rfl H23 ?_
  clear H23; intro a24 H24
  have H26 := H24.know (d := 23) (v := .bool true) rfl (congrArg Value.bool (decide_eq_true (rfl)))
  clear H24
  refine plain (y_move rfl rfl) rfl rfl rfl H26 ?_
  clear H26; intro a27 H27
  refine plain (y_move rfl rfl) rfl rfl rfl H27 ?_
  clear H27; intro a28 H28
  refine plain (y_eql rfl rfl rfl) rfl rfl rfl H28 ?_
  clear H28; intro a29 H29
  refine plain (y_pick_t rfl rfl rfl) rfl rfl rfl H29 ?_
  clear H29; intro a30 H30
  refine plain (y_assign rfl rfl) rfl rfl rfl H30 ?_
  clear H30; intro a31 H31
  refine fin ?_
  refine then_n ?_
  refine wp_ret ?_
  -- return 1
  refine ret1 rfl H31 rfl ?_
  exact ⟨_, [], rfl, ⟨congrArg Value.bool (decide_eq_true rfl), rfl⟩, H31.sep.sub (List.nil_sublist _)⟩
set_option maxRecDepth 100000 in
set_option maxHeartbeats 1000000 in
theorem sealTags (who dom : Int) (hw : -9223372036854775808 ≤ who ∧ who ≤ 9223372036854775807) (hd : -9223372036854775808 ≤ dom ∧ dom ≤ 9223372036854775807) (body : List UInt8) (hbl : body.length ≤ 140737488351232) {w : World} (hG : Glob 0 Sha.K w) : Calls Tryd.prog 4 #[.int .i64 who, .int .i64 dom, str body] w (Gives (.bool true) [] w) := by
  refine enterL (args := [.int .i64 who, .int .i64 dom, str body]) Tryd.func4 rfl rfl (l := []) (Sep.refl _) ?_
  intro a0 H0
  refine wp_seq ?_
  refine reg ?_
  refine plain (y_assign rfl rfl) rfl rfl rfl H0 ?_
  clear H0; intro a1 H1
  refine fin ?_
  refine then_n ?_
  refine wp_seq ?_
  refine reg ?_
  refine plain (y_move rfl rfl) rfl rfl rfl H1 ?_
  clear H1; intro a2 H2
  refine plain (y_move rfl rfl) rfl rfl rfl H2 ?_
  clear H2; intro a3 H3
  refine plain (y_move rfl rfl) rfl rfl rfl H3 ?_
  clear H3; intro a4 H4
  refine st_callg rfl z_call16 rfl rfl rfl rfl H4 (stag who dom hw hd body hbl (hG.frm H4.sep.frm (by simp))) ?_
  clear H4; intro a5 w5 H5
  refine plain (y_move rfl rfl) rfl rfl rfl H5 ?_
  clear H5; intro a6 H6
  refine plain (y_extract rfl rfl rfl) rfl rfl rfl H6 ?_
  clear H6; intro a7 H7
  refine plain (y_extract rfl rfl rfl) rfl rfl rfl H7 ?_
  clear H7; intro a8 H8
  refine st_alloc rfl z_zero23 rfl rfl rfl H8 ?_
  clear H8; intro b9 a9 w9 H9
  refine st_store (vs := _) rfl z_size23 rfl rfl (show _ = List.map u8 _ from rfl) (one_u8 _) (by rw [List.length_map, Seal.tag_len]) (by repeat (first | exact Upd.head _ _ _ | apply Upd.tail)) (by decide) rfl rfl H9 ?_
  clear H9; intro w10 H10
  refine plain (y_assign rfl rfl) rfl rfl rfl H10 ?_
  clear H10; intro a11 H11
  refine fin ?_
  refine then_n ?_
  refine wp_seq ?_
  refine reg ?_
  rw [spl_all (by rw [List.length_map, Seal.tag_len]; rfl)] at H11
  refine plain (y_move rfl rfl) rfl rfl rfl H11 ?_
  clear H11; intro a12 H12
  refine plain (y_move rfl rfl) rfl rfl rfl H12 ?_
  clear H12; intro a13 H13
  refine plain (y_move rfl rfl) rfl rfl rfl H13 ?_
  clear H13; intro a14 H14
  refine st_callg rfl z_call17 rfl rfl rfl rfl H14 (rtag who dom hw hd body hbl _) ?_
  clear H14; intro a15 w15 H15
  refine plain (y_move rfl rfl) rfl rfl rfl H15 ?_
  clear H15; intro a16 H16
  refine plain (y_extract rfl rfl rfl) rfl rfl rfl H16 ?_
  clear H16; intro a17 H17
  refine plain (y_extract rfl rfl rfl) rfl rfl rfl H17 ?_
  clear H17; intro a18 H18
  refine st_alloc rfl z_zero23 rfl rfl rfl H18 ?_
  clear H18; intro b19 a19 w19 H19
  refine st_store (vs := _) rfl z_size23 rfl rfl (show _ = List.map u8 _ from rfl) (one_u8 _) (by rw [List.length_map, Seal.tag_len]) (by repeat (first | exact Upd.head _ _ _ | apply Upd.tail)) (by decide) rfl rfl H19 ?_
  clear H19; intro w20 H20
  refine plain (y_assign rfl rfl) rfl rfl rfl H20 ?_
  clear H20; intro a21 H21
  refine fin ?_
  refine then_n ?_
  refine wp_seq ?_
  refine reg ?_
  rw [spl_all (by rw [List.length_map, Seal.tag_len]; rfl)] at H21
  refine st_callg rfl z_call15 rfl rfl rfl rfl H21 (awake3 (hG.frm H21.sep.frm (by simp))) ?_
  clear H21; intro a22 w22 H22
  refine plain (y_move rfl rfl) rfl rfl rfl H22 ?_
  clear H22; intro a23 H23
  refine plain (y_loadAB rfl z_agg23 z_size23 rfl (by repeat (first | exact List.Mem.head _ | apply List.Mem.tail)) (take_all (cs := ((Seal.tag who dom body).1).map u8) (by rw [List.length_map, Seal.tag_len])) (by rw [List.length_map, Seal.tag_len])) rfl rfl rfl H23 ?_
  clear H23; intro a24 H24
  refine plain (y_loadAB rfl z_agg23 z_size23 rfl (by repeat (first | exact List.Mem.head _ | apply List.Mem.tail)) (take_all (cs := ((Seal.tag who dom body).1).map u8) (by rw [List.length_map, Seal.tag_len])) (by rw [List.length_map, Seal.tag_len])) rfl rfl rfl H24 ?_
  clear H24; intro a25 H25
  refine plain (y_heql rfl Tryd.eqGuardType23 Tryd.underlying23 Tryd.underlying5 z_size5 rfl rfl (Seal.tag_len _ _ _) (Seal.tag_len _ _ _)) rfl rfl rfl H25 ?_
  clear H25; intro a26 H26
  refine plain (y_pick_t rfl rfl rfl) rfl rfl rfl H26 ?_
  clear H26; intro a27 H27
  refine plain (y_move rfl rfl) rfl rfl rfl H27 ?_
  clear H27; intro a28 H28
  have H30 := H28.know (d := 31) (v := .bool true) rfl (congrArg Value.bool (decide_eq_true (rfl)))
  clear H28
  refine plain (y_move rfl rfl) rfl rfl rfl H30 ?_
  clear H30; intro a31 H31
  refine plain (y_move rfl rfl) rfl rfl rfl H31 ?_
  clear H31; intro a32 H32
  refine plain (y_eql rfl rfl rfl) rfl rfl rfl H32 ?_
  clear H32; intro a33 H33
  refine plain (y_pick_t rfl rfl rfl) rfl rfl rfl H33 ?_
  clear H33; intro a34 H34
  refine plain (y_assign rfl rfl) rfl rfl rfl H34 ?_
  clear H34; intro a35 H35
  refine fin ?_
  refine then_n ?_
  refine wp_ret ?_
  -- return 1
  refine ret1 rfl H35 rfl ?_
  exact ⟨_, [], rfl, ⟨congrArg Value.bool (decide_eq_true rfl), rfl⟩, H35.sep.sub (List.nil_sublist _)⟩

end Go.Proofs.YtbadncpjbdfinaaDoor.D_SLaw
