/- Part of a proof about given Go functions: contracts of functions, or plain laws. -/
import Derived.Test.YtbadncpjbdfinaaDoorSxW
import Derived.Test.YtbadncpjbdfinaaDoorSxI
import Derived.Test.YtbadncpjbdfinaaDoorSha
import Derived.Test.YtbadncpjbdfinaaDoorProg
import Derived.Test.YtbadncpjbdfinaaDoorDBlock
import Derived.Test.YtbadncpjbdfinaaDoorDSum
import Derived.Test.YtbadncpjbdfinaaDoorDRef
import Derived.Test.YtbadncpjbdfinaaDoorDRSum
import Derived.Test.YtbadncpjbdfinaaDoorDLeaf
import Derived.Test.YtbadncpjbdfinaaDoorShaAbc
import Derived.Test.YtbadncpjbdfinaaDoorSxX
import Derived.Test.YtbadncpjbdfinaaDoorSxY
import Derived.Test.YtbadncpjbdfinaaDoorSeal
import Derived.Test.YtbadncpjbdfinaaDoorShaKey
import Derived.Test.YtbadncpjbdfinaaDoorOct2
import Derived.Test.YtbadncpjbdfinaaDoorDNum
import Derived.Test.YtbadncpjbdfinaaDoorDKey
import Derived.Test.YtbadncpjbdfinaaDoorDTag
import Derived.Test.YtbadncpjbdfinaaDoorSeal2
import Derived.Test.YtbadncpjbdfinaaDoorDCheck
import Derived.Test.YtbadncpjbdfinaaDoorDSLaw
import Derived.Test.YtbadncpjbdfinaaDoorSealV
set_option linter.unusedVariables false
set_option linter.unusedSimpArgs false
namespace Go.Proofs.YtbadncpjbdfinaaDoor.D_SLaw2
open Go.Sx Go.RowKit Go.Proofs.YtbadncpjbdfinaaDoor.D_Block Go.Proofs.YtbadncpjbdfinaaDoor.D_Sum Go.Proofs.YtbadncpjbdfinaaDoor.D_Ref Go.Proofs.YtbadncpjbdfinaaDoor.D_RSum Go.Proofs.YtbadncpjbdfinaaDoor.D_Leaf Go.Proofs.YtbadncpjbdfinaaDoor.D_Num Go.Proofs.YtbadncpjbdfinaaDoor.D_Key Go.Proofs.YtbadncpjbdfinaaDoor.D_Tag Go.Proofs.YtbadncpjbdfinaaDoor.D_Check Go.Proofs.YtbadncpjbdfinaaDoor.D_SLaw

theorem z_call15 : callB Tryd.prog 15 = true := by kernel_rfl
theorem z_field32_0 : fieldB Tryd.prog 32 0 = some 0 := by kernel_rfl
theorem z_agg3 : aggB Tryd.prog 3 = some false := by kernel_rfl
theorem z_field32_1 : fieldB Tryd.prog 32 1 = some 1 := by kernel_rfl
theorem z_field32_2 : fieldB Tryd.prog 32 2 = some 2 := by kernel_rfl
theorem z_agg9 : aggB Tryd.prog 9 = some false := by kernel_rfl
theorem z_field32_3 : fieldB Tryd.prog 32 3 = some 3 := by kernel_rfl
theorem z_agg23 : aggB Tryd.prog 23 = some true := by kernel_rfl
theorem z_size23 : sizeB Tryd.prog 23 = some 32 := by kernel_rfl
theorem z_call18 : callB Tryd.prog 18 = true := by kernel_rfl
theorem z_call19 : callB Tryd.prog 19 = true := by kernel_rfl
theorem z_call16 : callB Tryd.prog 16 = true := by kernel_rfl
theorem z_zero23 : zeroL Tryd.prog 23 = some (List.replicate 32 (.int .u8 0)) := by kernel_rfl
theorem z_size5 : sizeB Tryd.prog 5 = some 1 := by kernel_rfl
theorem z_agg5 : aggB Tryd.prog 5 = some false := by kernel_rfl

set_option maxRecDepth 100000 in
set_option maxHeartbeats 2000000 in
theorem sealChecks (s : Seal.Said) (wf : Seal.Wf s) {w : World} (hG : Glob 0 Sha.K w) : Calls Tryd.prog 5 #[.agg (Seal.cells s).toArray] w (Gives (.bool true) [] w) := by
  refine enterL (args := [.agg (Seal.cells s).toArray]) Tryd.func5 rfl rfl (l := []) (Sep.refl _) ?_
  intro a0 H0
  refine wp_seq ?_
  refine reg ?_
  refine st_box rfl rfl rfl rfl rfl rfl H0 ?_
  clear H0; intro b1 a1 w1 H1
  refine plain (y_assign rfl rfl) rfl rfl rfl H1 ?_
  clear H1; intro a2 H2
  refine fin ?_
  refine then_n ?_
  refine wp_seq ?_
  refine qreg (by kernel_rfl) (by kernel_rfl) H2 ?_
  have F3 := H2.fr
  clear H2
  refine qcallg rfl z_call15 rfl rfl rfl rfl F3 (fun w hs => (awake3 (hG.frm hs.frm (by simp)))) ?_
  clear F3; intro a4 H4
  refine qplain (y_move rfl rfl) rfl rfl rfl H4 ?_
  clear H4; intro a5 H5
  refine qplain (y_fieldB rfl z_field32_0 rfl (by first | (simp only [Nat.zero_add, Nat.add_zero, Nat.reduceAdd]; rfl) | rfl)) rfl rfl rfl H5 ?_
  clear H5; intro a6 H6
  refine qplain (y_loadB rfl z_agg3 rfl (by repeat (first | exact List.Mem.head _ | apply List.Mem.tail)) rfl) rfl rfl rfl H6 ?_
  clear H6; intro a7 H7
  refine qplain (y_fieldB rfl z_field32_1 rfl (by first | (simp only [Nat.zero_add, Nat.add_zero, Nat.reduceAdd]; rfl) | rfl)) rfl rfl rfl H7 ?_
  clear H7; intro a8 H8
  refine qplain (y_loadB rfl z_agg3 rfl (by repeat (first | exact List.Mem.head _ | apply List.Mem.tail)) rfl) rfl rfl rfl H8 ?_
  clear H8; intro a9 H9
  refine qplain (y_fieldB rfl z_field32_2 rfl (by first | (simp only [Nat.zero_add, Nat.add_zero, Nat.reduceAdd]; rfl) | rfl)) rfl rfl rfl H9 ?_
  clear H9; intro a10 H10
  refine qplain (y_loadB rfl z_agg9 rfl (by repeat (first | exact List.Mem.head _ | apply List.Mem.tail)) rfl) rfl rfl rfl H10 ?_
  clear H10; intro a11 H11
  refine qplain (y_fieldB rfl z_field32_3 rfl (by first | (simp only [Nat.zero_add, Nat.add_zero, Nat.reduceAdd]; rfl) | rfl)) rfl rfl rfl H11 ?_
  clear H11; intro a12 H12
  refine qplain (y_loadAB rfl z_agg23 z_size23 rfl (by repeat (first | exact List.Mem.head _ | apply List.Mem.tail)) (Seal.cells_t wf) (by rw [List.length_map, wf.2.2.2])) rfl rfl rfl H12 ?_
  clear H12; intro a13 H13
  refine qcallg rfl z_call18 rfl rfl rfl rfl H13 (fun w hs => (scheck s.who s.dom wf.1 wf.2.1 s.body wf.2.2.1 s.t wf.2.2.2 (hG.frm hs.frm (by simp)))) ?_
  clear H13; intro a14 H14
  refine qplain (y_fieldB rfl z_field32_0 rfl (by first | (simp only [Nat.zero_add, Nat.add_zero, Nat.reduceAdd]; rfl) | rfl)) rfl rfl rfl H14 ?_
  clear H14; intro a15 H15
  refine qplain (y_loadB rfl z_agg3 rfl (by repeat (first | exact List.Mem.head _ | apply List.Mem.tail)) rfl) rfl rfl rfl H15 ?_
  clear H15; intro a16 H16
  refine qplain (y_fieldB rfl z_field32_1 rfl (by first | (simp only [Nat.zero_add, Nat.add_zero, Nat.reduceAdd]; rfl) | rfl)) rfl rfl rfl H16 ?_
  clear H16; intro a17 H17
  refine qplain (y_loadB rfl z_agg3 rfl (by repeat (first | exact List.Mem.head _ | apply List.Mem.tail)) rfl) rfl rfl rfl H17 ?_
  clear H17; intro a18 H18
  refine qplain (y_fieldB rfl z_field32_2 rfl (by first | (simp only [Nat.zero_add, Nat.add_zero, Nat.reduceAdd]; rfl) | rfl)) rfl rfl rfl H18 ?_
  clear H18; intro a19 H19
  refine qplain (y_loadB rfl z_agg9 rfl (by repeat (first | exact List.Mem.head _ | apply List.Mem.tail)) rfl) rfl rfl rfl H19 ?_
  clear H19; intro a20 H20
  refine qplain (y_fieldB rfl z_field32_3 rfl (by first | (simp only [Nat.zero_add, Nat.add_zero, Nat.reduceAdd]; rfl) | rfl)) rfl rfl rfl H20 ?_
  clear H20; intro a21 H21
  refine qplain (y_loadAB rfl z_agg23 z_size23 rfl (by repeat (first | exact List.Mem.head _ | apply List.Mem.tail)) (Seal.cells_t wf) (by rw [List.length_map, wf.2.2.2])) rfl rfl rfl H21 ?_
  clear H21; intro a22 H22
  refine qcallg rfl z_call19 rfl rfl rfl rfl H22 (fun w hs => (rcheck s.who s.dom wf.1 wf.2.1 s.body wf.2.2.1 s.t wf.2.2.2 _)) ?_
  clear H22; intro a23 H23
  refine qplain (y_eql rfl rfl rfl) rfl rfl rfl H23 ?_
  clear H23; intro a24 H24
  refine qplain (y_pick_t rfl rfl rfl) rfl rfl rfl H24 ?_
  clear H24; intro a25 H25
  refine qplain (y_assign rfl rfl) rfl rfl rfl H25 ?_
  clear H25; intro a26 H26
  refine qfin H26 ?_
  clear H26; intro w27 H27
  refine then_n ?_
  refine wp_ret ?_
  -- return 1
  refine ret1 rfl H27 rfl ?_
  exact ⟨_, [], rfl, ⟨congrArg Value.bool (decide_eq_true rfl), rfl⟩, H27.sep.sub (List.nil_sublist _)⟩
set_option maxRecDepth 100000 in
set_option maxHeartbeats 2000000 in
theorem sealTurned (s : Seal.Said) (wf : Seal.Wf s) (b : UInt8) {w : World} (hG : Glob 0 Sha.K w) : Calls Tryd.prog 6 #[.agg (Seal.cells s).toArray, u8 b] w (Gives (.bool true) [] w) := by
  have hb := b.toNat_lt
  have htl := Seal.tag_len s.who s.dom s.body
  refine enterL (args := [.agg (Seal.cells s).toArray, u8 b]) Tryd.func6 rfl rfl (l := []) (Sep.refl _) ?_
  intro a0 H0
  refine wp_seq ?_
  refine reg ?_
  refine st_box rfl rfl rfl rfl rfl rfl H0 ?_
  clear H0; intro b1 a1 w1 H1
  refine plain (y_assign rfl rfl) rfl rfl rfl H1 ?_
  clear H1; intro a2 H2
  refine fin ?_
  refine then_n ?_
  refine wp_seq ?_
  refine reg ?_
  refine plain (y_fieldB rfl z_field32_0 rfl (by first | (simp only [Nat.zero_add, Nat.add_zero, Nat.reduceAdd]; rfl) | rfl)) rfl rfl rfl H2 ?_
  clear H2; intro a3 H3
  refine plain (y_loadB rfl z_agg3 rfl (by repeat (first | exact List.Mem.head _ | apply List.Mem.tail)) rfl) rfl rfl rfl H3 ?_
  clear H3; intro a4 H4
  refine plain (y_fieldB rfl z_field32_1 rfl (by first | (simp only [Nat.zero_add, Nat.add_zero, Nat.reduceAdd]; rfl) | rfl)) rfl rfl rfl H4 ?_
  clear H4; intro a5 H5
  refine plain (y_loadB rfl z_agg3 rfl (by repeat (first | exact List.Mem.head _ | apply List.Mem.tail)) rfl) rfl rfl rfl H5 ?_
  clear H5; intro a6 H6
  refine plain (y_fieldB rfl z_field32_2 rfl (by first | (simp only [Nat.zero_add, Nat.add_zero, Nat.reduceAdd]; rfl) | rfl)) rfl rfl rfl H6 ?_
  clear H6; intro a7 H7
  refine plain (y_loadB rfl z_agg9 rfl (by repeat (first | exact List.Mem.head _ | apply List.Mem.tail)) rfl) rfl rfl rfl H7 ?_
  clear H7; intro a8 H8
  refine st_callg rfl z_call16 rfl rfl rfl rfl H8 (stag s.who s.dom wf.1 wf.2.1 s.body wf.2.2.1 (hG.frm H8.sep.frm (by simp))) ?_
  clear H8; intro a9 w9 H9
  refine plain (y_move rfl rfl) rfl rfl rfl H9 ?_
  clear H9; intro a10 H10
  refine plain (y_extract rfl rfl rfl) rfl rfl rfl H10 ?_
  clear H10; intro a11 H11
  refine plain (y_extract rfl rfl rfl) rfl rfl rfl H11 ?_
  clear H11; intro a12 H12
  refine st_alloc rfl z_zero23 rfl rfl rfl H12 ?_
  clear H12; intro b13 a13 w13 H13
  refine st_store (vs := _) rfl z_size23 rfl rfl (show _ = List.map u8 _ from rfl) (one_u8 _) (by rw [List.length_map, Seal.tag_len]) (by repeat (first | exact Upd.head _ _ _ | apply Upd.tail)) (by decide) rfl rfl H13 ?_
  clear H13; intro w14 H14
  refine plain (y_assign rfl rfl) rfl rfl rfl H14 ?_
  clear H14; intro a15 H15
  refine fin ?_
  refine then_n ?_
  refine wp_seq ?_
  refine wp_seq ?_
  refine reg ?_
  rw [spl_all (by rw [List.length_map, Seal.tag_len]; rfl)] at H15
  refine st_callg rfl z_call15 rfl rfl rfl rfl H15 (awake3 (hG.frm H15.sep.frm (by simp))) ?_
  clear H15; intro a16 w16 H16
  refine plain (y_not rfl rfl) rfl rfl rfl H16 ?_
  clear H16; intro a17 H17
  refine plain (y_move rfl rfl) rfl rfl rfl H17 ?_
  clear H17; intro a18 H18
  refine plain (y_move rfl rfl) rfl rfl rfl H18 ?_
  clear H18; intro a19 H19
  refine plain (y_neq rfl rfl rfl) rfl rfl rfl H19 ?_
  clear H19; intro a20 H20
  refine plain (y_pick_f rfl rfl rfl) rfl rfl rfl H20 ?_
  clear H20; intro a21 H21
  refine fin ?_
  refine then_n ?_
  refine cnd_d H21 rfl (fun hc22 => ?_) (fun hc22 => ?_) -- cond 1
  · skip
    refine wp_seq ?_
    refine reg ?_
    refine st_callg rfl z_call15 rfl rfl rfl rfl H21 (awake3 (hG.frm H21.sep.frm (by simp))) ?_
    clear H21; intro a23 w23 H23
    refine plain (y_move rfl rfl) rfl rfl rfl H23 ?_
    clear H23; intro a24 H24
    refine plain (y_loadAB rfl z_agg23 z_size23 rfl (by repeat (first | exact List.Mem.head _ | apply List.Mem.tail)) (take_all (cs := ((Seal.tag s.who s.dom s.body).1).map u8) (by rw [List.length_map, Seal.tag_len])) (by rw [List.length_map, Seal.tag_len])) rfl rfl rfl H24 ?_
    clear H24; intro a25 H25
    refine plain (y_buildA rfl z_zero23 Tryd.underlying23 z_size5 rfl rfl) rfl rfl rfl H25 ?_
    clear H25; intro a26 H26
    refine plain (y_heql (q := Seal.Z) rfl Tryd.eqGuardType23 Tryd.underlying23 Tryd.underlying5 z_size5 rfl rfl (Seal.tag_len _ _ _) rfl) rfl rfl rfl H26 ?_
    clear H26
    intro aZ HZ
    refine plain (y_pick_t rfl rfl rfl) rfl rfl rfl HZ ?_
    clear HZ; intro a30 H30
    refine plain (y_assign rfl rfl) rfl rfl rfl H30 ?_
    clear H30; intro a31 H31
    refine fin ?_
    refine then_n ?_
    refine wp_ret ?_
    refine then_r ?_
    -- return 1
    refine ret1 rfl H31 rfl ?_
    exact ⟨_, [], rfl, ⟨congrArg Value.bool (decide_eq_true (Seal.tag_zero (by omega))), rfl⟩, H31.sep.sub (List.nil_sublist _)⟩
  · skip
    refine wp_skip ?_
    refine then_n ?_
    refine wp_seq ?_
    refine reg ?_
    refine plain (y_loadAB rfl z_agg23 z_size23 rfl (by repeat (first | exact List.Mem.head _ | apply List.Mem.tail)) (take_all (cs := ((Seal.tag s.who s.dom s.body).1).map u8) (by rw [List.length_map, Seal.tag_len])) (by rw [List.length_map, Seal.tag_len])) rfl rfl rfl H21 ?_
    clear H21; intro a32 H32
    refine st_alloc rfl z_zero23 rfl rfl rfl H32 ?_
    clear H32; intro b33 a33 w33 H33
    refine st_store (vs := _) rfl z_size23 rfl rfl (show _ = List.map u8 _ from rfl) (one_u8 _) (by rw [List.length_map, Seal.tag_len]) (by repeat (first | exact Upd.head _ _ _ | apply Upd.tail)) (by decide) rfl rfl H33 ?_
    clear H33; intro w34 H34
    refine fin ?_
    refine then_n ?_
    refine wp_seq ?_
    refine reg ?_
    rw [spl_all (by rw [List.length_map, Seal.tag_len]; rfl)] at H34
    refine plain (y_move rfl rfl) rfl rfl rfl H34 ?_
    clear H34; intro a35 H35
    refine plain (y_quo rfl rfl rfl (by decide) (Seal.quo8 b)) rfl rfl rfl H35 ?_
    clear H35; intro a36 H36
    refine plain (y_ixA rfl Tryd.underlying23 z_size5 rfl rfl (by omega) (by omega) rfl) rfl rfl rfl H36 ?_
    clear H36; intro a37 H37
    refine plain (y_loadB rfl z_agg5 rfl (by repeat (first | exact List.Mem.head _ | apply List.Mem.tail)) (by rw [show 0 + ((b.toNat / 8 : Nat) : Int).toNat * 1 = b.toNat / 8 by omega]; exact map_get u8 _ _ 0 (by omega))) rfl rfl rfl H37 ?_
    clear H37; intro a38 H38
    refine plain (y_move rfl rfl) rfl rfl rfl H38 ?_
    clear H38; intro a39 H39
    refine plain (y_rem rfl rfl rfl (by decide) (Seal.rem8 b)) rfl rfl rfl H39 ?_
    clear H39; intro a40 H40
    refine plain (y_shl rfl rfl rfl (by omega) (Seal.shl8 b)) rfl rfl rfl H40 ?_
    clear H40; intro a41 H41
    refine plain (y_xor rfl rfl rfl (Seal.xor8 _ _)) rfl rfl rfl H41 ?_
    clear H41; intro a42 H42
    refine plain (y_ixA rfl Tryd.underlying23 z_size5 rfl rfl (by omega) (by omega) rfl) rfl rfl rfl H42 ?_
    clear H42; intro a43 H43
    refine st_store1 rfl z_size5 rfl rfl rfl (by repeat (first | exact Upd.head _ _ _ | apply Upd.tail)) (by rw [List.length_map]; omega) rfl rfl H43 ?_
    clear H43; intro w44 H44
    refine fin ?_
    refine then_n ?_
    refine wp_seq ?_
    refine reg ?_
    have hset : (((Seal.tag s.who s.dom s.body).1).map u8).set (0 + ((b.toNat / 8 : Nat) : Int).toNat * 1) (u8 ((Seal.tag s.who s.dom s.body).1.getD (b.toNat / 8) 0 ^^^ Seal.bitOf b)) = (Seal.turned (Seal.tag s.who s.dom s.body).1 b).map u8 := by rw [show 0 + ((b.toNat / 8 : Nat) : Int).toNat * 1 = b.toNat / 8 by omega, u8_set]; rfl
    rw [hset] at H44
    have hck := Seal.check_ok (who := s.who) (dom := s.dom) (body := s.body) (t := (Seal.tag s.who s.dom s.body).1) (by omega) rfl
    have hcb := Seal.check_bad (who := s.who) (dom := s.dom) (body := s.body) (t := Seal.turned (Seal.tag s.who s.dom s.body).1 b) (by omega) (Seal.turned_ne htl)
    refine plain (y_fieldB rfl z_field32_0 rfl (by first | (simp only [Nat.zero_add, Nat.add_zero, Nat.reduceAdd]; rfl) | rfl)) rfl rfl rfl H44 ?_
    clear H44; intro a45 H45
    refine plain (y_loadB rfl z_agg3 rfl (by repeat (first | exact List.Mem.head _ | apply List.Mem.tail)) rfl) rfl rfl rfl H45 ?_
    clear H45; intro a46 H46
    refine plain (y_fieldB rfl z_field32_1 rfl (by first | (simp only [Nat.zero_add, Nat.add_zero, Nat.reduceAdd]; rfl) | rfl)) rfl rfl rfl H46 ?_
    clear H46; intro a47 H47
    refine plain (y_loadB rfl z_agg3 rfl (by repeat (first | exact List.Mem.head _ | apply List.Mem.tail)) rfl) rfl rfl rfl H47 ?_
    clear H47; intro a48 H48
    refine plain (y_fieldB rfl z_field32_2 rfl (by first | (simp only [Nat.zero_add, Nat.add_zero, Nat.reduceAdd]; rfl) | rfl)) rfl rfl rfl H48 ?_
    clear H48; intro a49 H49
    refine plain (y_loadB rfl z_agg9 rfl (by repeat (first | exact List.Mem.head _ | apply List.Mem.tail)) rfl) rfl rfl rfl H49 ?_
    clear H49; intro a50 H50
    refine plain (y_loadAB rfl z_agg23 z_size23 rfl (by repeat (first | exact List.Mem.head _ | apply List.Mem.tail)) (take_all (cs := ((Seal.tag s.who s.dom s.body).1).map u8) (by rw [List.length_map, Seal.tag_len])) (by rw [List.length_map, Seal.tag_len])) rfl rfl rfl H50 ?_
    clear H50; intro a51 H51
    refine st_callg rfl z_call18 rfl rfl rfl rfl H51 (scheck s.who s.dom wf.1 wf.2.1 s.body wf.2.2.1 _ (Seal.tag_len _ _ _) (hG.frm H51.sep.frm (by simp))) ?_
    clear H51; intro a52 w52 H52
    refine plain (y_eql rfl rfl rfl) rfl rfl rfl H52 ?_
    clear H52; intro a53 H53
    refine plain (y_move rfl rfl) rfl rfl rfl H53 ?_
    clear H53; intro a54 H54
    have H56 := H54.know (d := 49) (v := .bool true) rfl (congrArg Value.bool (decide_eq_true (hck)))
    clear H54
    refine plain (y_fieldB rfl z_field32_0 rfl (by first | (simp only [Nat.zero_add, Nat.add_zero, Nat.reduceAdd]; rfl) | rfl)) rfl rfl rfl H56 ?_
    clear H56; intro a57 H57
    refine plain (y_loadB rfl z_agg3 rfl (by repeat (first | exact List.Mem.head _ | apply List.Mem.tail)) rfl) rfl rfl rfl H57 ?_
    clear H57; intro a58 H58
    refine plain (y_fieldB rfl z_field32_1 rfl (by first | (simp only [Nat.zero_add, Nat.add_zero, Nat.reduceAdd]; rfl) | rfl)) rfl rfl rfl H58 ?_
    clear H58; intro a59 H59
    refine plain (y_loadB rfl z_agg3 rfl (by repeat (first | exact List.Mem.head _ | apply List.Mem.tail)) rfl) rfl rfl rfl H59 ?_
    clear H59; intro a60 H60
    refine plain (y_fieldB rfl z_field32_2 rfl (by first | (simp only [Nat.zero_add, Nat.add_zero, Nat.reduceAdd]; rfl) | rfl)) rfl rfl rfl H60 ?_
    clear H60; intro a61 H61
    refine plain (y_loadB rfl z_agg9 rfl (by repeat (first | exact List.Mem.head _ | apply List.Mem.tail)) rfl) rfl rfl rfl H61 ?_
    clear H61; intro a62 H62
    refine plain (y_loadAB rfl z_agg23 z_size23 rfl (by repeat (first | exact List.Mem.head _ | apply List.Mem.tail)) (take_all (cs := (Seal.turned (Seal.tag s.who s.dom s.body).1 b).map u8) (by rw [List.length_map, Seal.turned_len, Seal.tag_len])) (by rw [List.length_map, Seal.turned_len, Seal.tag_len])) rfl rfl rfl H62 ?_
    clear H62; intro a63 H63
    refine st_callg rfl z_call18 rfl rfl rfl rfl H63 (scheck s.who s.dom wf.1 wf.2.1 s.body wf.2.2.1 (Seal.turned (Seal.tag s.who s.dom s.body).1 b) (by rw [Seal.turned_len, Seal.tag_len]) (hG.frm H63.sep.frm (by simp))) ?_
    clear H63; intro a64 w64 H64
    refine plain (y_eql rfl rfl rfl) rfl rfl rfl H64 ?_
    clear H64; intro a65 H65
    refine plain (y_pick_t rfl rfl rfl) rfl rfl rfl H65 ?_
    clear H65; intro a66 H66
    refine plain (y_assign rfl rfl) rfl rfl rfl H66 ?_
    clear H66; intro a67 H67
    refine fin ?_
    refine then_n ?_
    refine wp_ret ?_
    -- return 2
    refine ret1 rfl H67 rfl ?_
    exact ⟨_, [], rfl, ⟨congrArg Value.bool (decide_eq_true hcb), rfl⟩, H67.sep.sub (List.nil_sublist _)⟩

end Go.Proofs.YtbadncpjbdfinaaDoor.D_SLaw2
