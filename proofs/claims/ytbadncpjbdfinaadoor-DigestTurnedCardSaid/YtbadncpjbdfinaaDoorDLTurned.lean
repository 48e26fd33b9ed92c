/- Part of a proof about given Go functions: contracts of functions, or plain laws. -/
import Derived.Test.YtbadncpjbdfinaaDoorSxW
import Derived.Test.YtbadncpjbdfinaaDoorSxI
import Derived.Test.YtbadncpjbdfinaaDoorSha
import Derived.Test.YtbadncpjbdfinaaDoorShaAbc
import Derived.Test.YtbadncpjbdfinaaDoorSxX
import Derived.Test.YtbadncpjbdfinaaDoorSxY
import Derived.Test.YtbadncpjbdfinaaDoorMerk
import Derived.Test.YtbadncpjbdfinaaDoorOct2
import Derived.Test.YtbadncpjbdfinaaDoorSxZ
import Derived.Test.YtbadncpjbdfinaaDoorMerk2
import Derived.Test.YtbadncpjbdfinaaDoorMerkV
import Derived.Test.YtbadncpjbdfinaaDoorProg
import Derived.Test.YtbadncpjbdfinaaDoorDBlock
import Derived.Test.YtbadncpjbdfinaaDoorDSum
import Derived.Test.YtbadncpjbdfinaaDoorDRef
import Derived.Test.YtbadncpjbdfinaaDoorDRSum
import Derived.Test.YtbadncpjbdfinaaDoorDLeaf
import Derived.Test.YtbadncpjbdfinaaDoorDRoot
import Derived.Test.YtbadncpjbdfinaaDoorDRoot2
import Derived.Test.YtbadncpjbdfinaaDoorDProof
import Derived.Test.YtbadncpjbdfinaaDoorDRProof
import Derived.Test.YtbadncpjbdfinaaDoorDLaw
import Derived.Test.YtbadncpjbdfinaaDoorDProves
import Derived.Test.YtbadncpjbdfinaaDoorDRProves
set_option linter.unusedVariables false
set_option linter.unusedSimpArgs false
namespace Go.Proofs.YtbadncpjbdfinaaDoor.D_LTurned
open Go.Sx Go.RowKit Go.Proofs.YtbadncpjbdfinaaDoor.D_Block Go.Proofs.YtbadncpjbdfinaaDoor.D_Sum Go.Proofs.YtbadncpjbdfinaaDoor.D_Ref Go.Proofs.YtbadncpjbdfinaaDoor.D_RSum Go.Proofs.YtbadncpjbdfinaaDoor.D_Leaf Go.Proofs.YtbadncpjbdfinaaDoor.D_Root Go.Proofs.YtbadncpjbdfinaaDoor.D_Root2 Go.Proofs.YtbadncpjbdfinaaDoor.D_Proof Go.Proofs.YtbadncpjbdfinaaDoor.D_RProof Go.Proofs.YtbadncpjbdfinaaDoor.D_Law Go.Proofs.YtbadncpjbdfinaaDoor.D_Proves Go.Proofs.YtbadncpjbdfinaaDoor.D_RProves

theorem z_call27 : callB Tryd.prog 27 = true := by kernel_rfl
theorem z_call20 : callB Tryd.prog 20 = true := by kernel_rfl
theorem z_call28 : callB Tryd.prog 28 = true := by kernel_rfl
theorem z_call29 : callB Tryd.prog 29 = true := by kernel_rfl
theorem z_zero23 : zeroL Tryd.prog 23 = some (List.replicate 32 (.int .u8 0)) := by kernel_rfl
theorem z_size23 : sizeB Tryd.prog 23 = some 32 := by kernel_rfl
theorem z_size5 : sizeB Tryd.prog 5 = some 1 := by kernel_rfl
theorem z_agg5 : aggB Tryd.prog 5 = some false := by kernel_rfl
theorem z_agg23 : aggB Tryd.prog 23 = some true := by kernel_rfl
theorem z_size9 : sizeB Tryd.prog 9 = some 1 := by kernel_rfl
theorem z_agg9 : aggB Tryd.prog 9 = some false := by kernel_rfl
theorem z_call23 : callB Tryd.prog 23 = true := by kernel_rfl

set_option maxRecDepth 100000 in
set_option maxHeartbeats 2000000 in
theorem turnIn (l : List (List UInt8)) (A : Option Addr) (c : Nat) (hcl : l.length ≤ c) (hb : ∀ x ∈ l, x.length ≤ 140737488351232) (hl : l.length ≤ 9223372036854775807) (i : Nat) (hi : i < (l.take 100).length) (b : Int) (hbb : -9223372036854775808 ≤ b ∧ b ≤ 9223372036854775807) {w : World} (hR : Rd w A (l.map str)) (hG : Glob 0 Sha.K w) : Calls Tryd.prog 12 #[.slice A l.length c, .int .i64 (i : Int), .int .i64 b] w (Gives (.bool true) [] w) := by
  have hll : (l.take 100).length ≤ 100 := by rw [List.length_take]; omega
  have hlc : (l.take 100).length ≤ c := by rw [List.length_take]; omega
  have hRt : Rd w A ((l.take 100).map str) := by rw [List.map_take]; exact hR.take _
  have hple := Merk.proof_le (l.take 100) i
  have hsl : ((l.take 100).getD i []).length ≤ 140737488351232 := hb _ (List.mem_of_mem_take (by rw [List.getD_eq_getElem?_getD, List.getElem?_eq_getElem hi]; exact List.getElem_mem _))
  refine enterL (args := [.slice A l.length c, .int .i64 (i : Int), .int .i64 b]) Tryd.func12 rfl rfl (l := []) (Sep.refl _) ?_
  intro a0 H0
  refine wp_seq ?_
  refine reg ?_
  refine plain (y_assign rfl rfl) rfl rfl rfl H0 ?_
  clear H0; intro a1 H1
  refine fin ?_
  refine then_n ?_
  refine wp_seq ?_
  refine reg ?_
  refine plain (y_move rfl rfl) rfl rfl rfl H1 ?_
  clear H1; intro a2 H2
  refine st_callg rfl z_call27 rfl rfl rfl rfl H2 (dfew l A _ c rfl hcl hl _) ?_
  clear H2; intro a3 wx3 H3
  refine plain (y_assign rfl rfl) rfl rfl rfl H3 ?_
  clear H3; intro a4 H4
  refine fin ?_
  refine then_n ?_
  refine wp_seq ?_
  refine wp_seq ?_
  refine reg ?_
  refine st_callg rfl z_call20 rfl rfl rfl rfl H4 (awake2 (hG.frm H4.sep.frm (by simp))) ?_
  clear H4; intro a5 wx5 H5
  refine plain (y_not rfl rfl) rfl rfl rfl H5 ?_
  clear H5; intro a6 H6
  refine plain (y_move rfl rfl) rfl rfl rfl H6 ?_
  clear H6; intro a7 H7
  refine plain (y_move rfl rfl) rfl rfl rfl H7 ?_
  clear H7; intro a8 H8
  refine plain (y_lss rfl rfl rfl) rfl rfl rfl H8 ?_
  clear H8; intro a9 H9
  refine plain (y_pick_f rfl rfl rfl) rfl rfl rfl H9 ?_
  clear H9; intro a10 H10
  refine plain (y_move rfl rfl) rfl rfl rfl H10 ?_
  clear H10; intro a11 H11
  have H13 := H11.know (d := 18) (v := .bool false) rfl (congrArg Value.bool (decide_eq_false (by omega)))
  clear H11
  refine plain (y_move rfl rfl) rfl rfl rfl H13 ?_
  clear H13; intro a14 H14
  refine plain (y_move rfl rfl) rfl rfl rfl H14 ?_
  clear H14; intro a15 H15
  refine plain (y_len rfl Tryd.underlying46 rfl) rfl rfl rfl H15 ?_
  clear H15; intro a16 H16
  refine plain (y_geq rfl rfl rfl) rfl rfl rfl H16 ?_
  clear H16; intro a17 H17
  refine plain (y_pick_f rfl rfl rfl) rfl rfl rfl H17 ?_
  clear H17; intro a18 H18
  refine fin ?_
  refine then_n ?_
  refine cnd_d H18 rfl (fun hc19 => ?_) (fun hc19 => ?_) -- cond 1
  · (exfalso; omega)
  · skip
    refine wp_skip ?_
    refine then_n ?_
    refine wp_seq ?_
    refine reg ?_
    refine plain (y_move rfl rfl) rfl rfl rfl H18 ?_
    clear H18; intro a20 H20
    refine plain (y_move rfl rfl) rfl rfl rfl H20 ?_
    clear H20; intro a21 H21
    refine st_call rfl z_call28 rfl rfl rfl rfl H21 (dproof (l.take 100) A c hlc (fun x hx => hb x (List.mem_of_mem_take hx)) (by omega) i hi (by rw [List.map_take]; exact (Rd.frm hR H21.sep.frm (by simp)).take _) (hG.frm H21.sep.frm (by simp))) ?_
    clear H21; intro v22 l22 a22 wx22 hf22 H22
    obtain ⟨vp, rfl, rfl⟩ := hf22
    simp only [List.cons_append, List.nil_append] at H22
    obtain ⟨Ap, cp, hvp, hRp, hmp⟩ := row_shape (v := vp) H22.sep (List.Mem.head _)
    subst hvp
    refine plain (y_move rfl rfl) rfl rfl rfl H22 ?_
    clear H22; intro a23 H23
    refine plain (y_extract rfl rfl rfl) rfl rfl rfl H23 ?_
    clear H23; intro a24 H24
    refine plain (y_extract rfl rfl rfl) rfl rfl rfl H24 ?_
    clear H24; intro a25 H25
    refine plain (y_assign rfl rfl) rfl rfl rfl H25 ?_
    clear H25; intro a26 H26
    refine plain (y_assign rfl rfl) rfl rfl rfl H26 ?_
    clear H26; intro a27 H27
    refine fin ?_
    refine then_n ?_
    refine wp_seq ?_
    refine reg ?_
    refine plain (y_move rfl rfl) rfl rfl rfl H27 ?_
    clear H27; intro a28 H28
    refine st_callg rfl z_call29 rfl rfl rfl rfl H28 (droot (l.take 100) _ _ _ _ rfl hlc (fun x hx => hb x (List.mem_of_mem_take hx)) (by omega) (by rw [List.map_take]; exact (Rd.frm hR H28.sep.frm (by simp)).take _) (hG.frm H28.sep.frm (by simp))) ?_
    clear H28; intro a29 wx29 H29
    refine st_alloc rfl z_zero23 rfl rfl rfl H29 ?_
    clear H29; intro b30 a30 wx30 H30
    refine st_store (vs := _) rfl z_size23 rfl rfl (show _ = List.map u8 _ from rfl) (one_u8 _) (by rw [List.length_map, Merk.root_len]) (by repeat (first | exact Upd.head _ _ _ | apply Upd.tail)) (by decide) rfl rfl H30 ?_
    clear H30; intro wx31 H31
    refine fin ?_
    refine then_n ?_
    refine wp_seq ?_
    refine reg ?_
    rw [spl_all (by rw [List.length_map, Merk.root_len]; rfl)] at H31
    refine plain (y_move rfl rfl) rfl rfl rfl H31 ?_
    clear H31; intro a32 H32
    refine plain (y_conv rfl Tryd.underlying3 Tryd.underlying54 rfl (Merk.ub_conv b)) rfl rfl rfl H32 ?_
    clear H32; intro a33 H33
    refine plain (y_quo rfl rfl rfl (by decide) (Merk.ub_quo b)) rfl rfl rfl H33 ?_
    clear H33; intro a34 H34
    refine plain (y_rem rfl rfl rfl (by decide) (show Int.tmod ((Merk.ub b / 8 : Nat) : Int) 32 = ((Merk.ub b / 8 % 32 : Nat) : Int) from Merk.ub_rem _ 32)) rfl rfl rfl H34 ?_
    clear H34; intro a35 H35
    refine plain (y_ixA rfl Tryd.underlying23 z_size5 rfl rfl (by omega) (by omega) rfl) rfl rfl rfl H35 ?_
    clear H35; intro a36 H36
    refine plain (y_loadB rfl z_agg5 rfl (by repeat (first | exact List.Mem.head _ | apply List.Mem.tail)) (by rw [show 0 + ((Merk.ub b / 8 % 32 : Nat) : Int).toNat * 1 = (Merk.ub b / 8 % 32) by omega]; exact map_get u8 _ _ 0 (by rw [Merk.root_len]; omega))) rfl rfl rfl H36 ?_
    clear H36; intro a37 H37
    refine plain (y_move rfl rfl) rfl rfl rfl H37 ?_
    clear H37; intro a38 H38
    refine plain (y_conv rfl Tryd.underlying3 Tryd.underlying54 rfl (Merk.ub_conv b)) rfl rfl rfl H38 ?_
    clear H38; intro a39 H39
    refine plain (y_rem rfl rfl rfl (by decide) (show Int.tmod ((Merk.ub b : Nat) : Int) 8 = ((Merk.ub b % 8 : Nat) : Int) from Merk.ub_rem _ 8)) rfl rfl rfl H39 ?_
    clear H39; intro a40 H40
    refine plain (y_shl rfl rfl rfl (by omega) (Merk.ub_shl (Merk.ub b))) rfl rfl rfl H40 ?_
    clear H40; intro a41 H41
    refine plain (y_xor rfl rfl rfl (Seal.xor8 _ _)) rfl rfl rfl H41 ?_
    clear H41; intro a42 H42
    refine plain (y_ixA rfl Tryd.underlying23 z_size5 rfl rfl (by omega) (by omega) rfl) rfl rfl rfl H42 ?_
    clear H42; intro a43 H43
    refine st_store1 rfl z_size5 rfl rfl rfl (by repeat (first | exact Upd.head _ _ _ | apply Upd.tail)) (by rw [List.length_map, Merk.root_len]; omega) rfl rfl H43 ?_
    clear H43; intro wx44 H44
    refine fin ?_
    refine then_n ?_
    refine wp_seq ?_
    have hset : ((Merk.root (l.take 100)).map u8).set (0 + ((Merk.ub b / 8 % 32 : Nat) : Int).toNat * 1) (u8 ((Merk.root (l.take 100)).getD (Merk.ub b / 8 % 32) 0 ^^^ Seal.bitOf (UInt8.ofNat (Merk.ub b % 8)))) = (Merk.flip (Merk.root (l.take 100)) b).map u8 := by rw [show 0 + ((Merk.ub b / 8 % 32 : Nat) : Int).toNat * 1 = (Merk.ub b / 8 % 32) by omega, u8_set]; rfl
    rw [hset] at H44
    have hfl : (Merk.flip (Merk.root (l.take 100)) b).length = 32 := by rw [Merk.flip_len, Merk.root_len]
    refine qreg (by kernel_rfl) (by kernel_rfl) H44 ?_
    have F45 := H44.fr
    clear H44
    refine qplain (y_move rfl rfl) rfl rfl rfl F45 ?_
    clear F45; intro a46 H46
    refine qplain (y_eql rfl rfl rfl) rfl rfl rfl H46 ?_
    clear H46; intro a47 H47
    refine qplain (y_move rfl rfl) rfl rfl rfl H47 ?_
    clear H47; intro a48 H48
    have H50 := H48.know (d := 47) (v := .bool true) rfl (congrArg Value.bool (decide_eq_true (rfl)))
    clear H48
    refine qplain (y_loadAB rfl z_agg23 z_size23 rfl (by repeat (first | exact List.Mem.head _ | apply List.Mem.tail)) (take_all (by rw [List.length_map, hfl])) (by rw [List.length_map, hfl])) rfl rfl rfl H50 ?_
    clear H50; intro a51 H51
    refine qplain (y_move rfl rfl) rfl rfl rfl H51 ?_
    clear H51; intro a52 H52
    refine qplain (y_len rfl Tryd.underlying46 rfl) rfl rfl rfl H52 ?_
    clear H52; intro a53 H53
    refine qplain (y_move rfl rfl) rfl rfl rfl H53 ?_
    clear H53; intro a54 H54
    refine qplain (y_move rfl rfl) rfl rfl rfl H54 ?_
    clear H54; intro a55 H55
    refine qplain (y_move rfl rfl) rfl rfl rfl H55 ?_
    clear H55; intro a56 H56
    refine qplain (y_ixR rfl Tryd.underlying46 z_size9 rfl rfl (by omega) (by omega) (rd_old hRt (by simp)) (by rw [List.length_map]; omega)) rfl rfl rfl H56 ?_
    clear H56; intro a57 H57
    refine qplain (y_loadR rfl z_agg9 rfl (rd_old hRt (by simp)) (by simp only [Int.toNat_natCast, Nat.mul_one, Nat.add_zero]; exact map_get _ _ _ [] (by omega))) rfl rfl rfl H57 ?_
    clear H57; intro a58 H58
    refine qplain (y_move rfl rfl) rfl rfl rfl H58 ?_
    clear H58; intro a59 H59
    refine qcallg rfl z_call23 rfl rfl rfl rfl H59 (fun w hs => (dproves (Merk.flip (Merk.root (l.take 100)) b) hfl ((l.take 100).length : Int) (i : Int) (by omega) (by omega) ((l.take 100).getD i []) (by omega) (Merk.proof (l.take 100) i) (Merk.proof_32 _ _) (by omega) _ _ (rd_row (by repeat (first | exact List.Mem.head _ | apply List.Mem.tail)) _ hs) (hG.frm hs.frm (by simp)))) ?_
    clear H59; intro a60 H60
    refine qplain (y_not rfl rfl) rfl rfl rfl H60 ?_
    clear H60; intro a61 H61
    refine qplain (y_pick_t rfl rfl rfl) rfl rfl rfl H61 ?_
    clear H61; intro a62 H62
    refine qplain (y_assign rfl rfl) rfl rfl rfl H62 ?_
    clear H62; intro a63 H63
    refine qfin H63 ?_
    clear H63; intro wx64 H64
    refine then_n ?_
    refine wp_ret ?_
    -- return 1
    refine ret1 rfl H64 rfl ?_
    exact ⟨_, [], rfl, ⟨by rw [Merk.proves_list hi, decide_eq_false (Merk.flip_ne (Merk.root_len _))]; rfl, rfl⟩, H64.sep.sub (List.nil_sublist _)⟩
set_option maxRecDepth 100000 in
set_option maxHeartbeats 2000000 in
theorem turnOut (l : List (List UInt8)) (A : Option Addr) (c : Nat) (hcl : l.length ≤ c) (hb : ∀ x ∈ l, x.length ≤ 140737488351232) (hl : l.length ≤ 9223372036854775807) (i : Int) (hi : i < 0 ∨ ((l.take 100).length : Int) ≤ i) (b : Int) (hbb : -9223372036854775808 ≤ b ∧ b ≤ 9223372036854775807) {w : World} (hR : Rd w A (l.map str)) (hG : Glob 0 Sha.K w) : Calls Tryd.prog 12 #[.slice A l.length c, .int .i64 i, .int .i64 b] w (Gives (.bool true) [] w) := by
  have hll : (l.take 100).length ≤ 100 := by rw [List.length_take]; omega
  have hlc : (l.take 100).length ≤ c := by rw [List.length_take]; omega
  have hRt : Rd w A ((l.take 100).map str) := by rw [List.map_take]; exact hR.take _
  refine enterL (args := [.slice A l.length c, .int .i64 i, .int .i64 b]) Tryd.func12 rfl rfl (l := []) (Sep.refl _) ?_
  intro a0 H0
  refine wp_seq ?_
  refine reg ?_
  refine plain (y_assign rfl rfl) rfl rfl rfl H0 ?_
  clear H0; intro a1 H1
  refine fin ?_
  refine then_n ?_
  refine wp_seq ?_
  refine reg ?_
  refine plain (y_move rfl rfl) rfl rfl rfl H1 ?_
  clear H1; intro a2 H2
  refine st_callg rfl z_call27 rfl rfl rfl rfl H2 (dfew l A _ c rfl hcl hl _) ?_
  clear H2; intro a3 wx3 H3
  refine plain (y_assign rfl rfl) rfl rfl rfl H3 ?_
  clear H3; intro a4 H4
  refine fin ?_
  refine then_n ?_
  refine wp_seq ?_
  refine wp_seq ?_
  refine reg ?_
  refine st_callg rfl z_call20 rfl rfl rfl rfl H4 (awake2 (hG.frm H4.sep.frm (by simp))) ?_
  clear H4; intro a5 wx5 H5
  refine plain (y_not rfl rfl) rfl rfl rfl H5 ?_
  clear H5; intro a6 H6
  refine plain (y_move rfl rfl) rfl rfl rfl H6 ?_
  clear H6; intro a7 H7
  refine plain (y_move rfl rfl) rfl rfl rfl H7 ?_
  clear H7; intro a8 H8
  refine plain (y_lss rfl rfl rfl) rfl rfl rfl H8 ?_
  clear H8; intro a9 H9
  refine plain (y_pick_f rfl rfl rfl) rfl rfl rfl H9 ?_
  clear H9; intro a10 H10
  refine plain (y_move rfl rfl) rfl rfl rfl H10 ?_
  clear H10; intro a11 H11
  refine part_d (d := 18) H11 rfl (fun hg12 => ?_) (fun hg12 => ?_)
  · first
    | fail
    | skip
      clear H11; intro H13
      refine skip rfl rfl rfl H13 ?_
      clear H13; intro a14 H14
      refine skip rfl rfl rfl H14 ?_
      clear H14; intro a15 H15
      refine skip rfl rfl rfl H15 ?_
      clear H15; intro a16 H16
      refine skip rfl rfl rfl H16 ?_
      clear H16; intro a17 H17
      refine plain (y_pick_t rfl rfl rfl) rfl rfl rfl H17 ?_
      clear H17; intro a18 H18
      refine fin ?_
      refine then_n ?_
      refine cnd_t H18 rfl ?_
      refine wp_seq ?_
      refine reg ?_
      refine st_callg rfl z_call20 rfl rfl rfl rfl H18 (awake2 (hG.frm H18.sep.frm (by simp))) ?_
      clear H18; intro a20 wx20 H20
      refine plain (y_assign rfl rfl) rfl rfl rfl H20 ?_
      clear H20; intro a21 H21
      refine fin ?_
      refine then_n ?_
      refine wp_ret ?_
      refine then_r ?_
      -- return 1
      refine ret1 rfl H21 rfl ?_
      exact ⟨_, [], rfl, ⟨rfl, rfl⟩, H21.sep.sub (List.nil_sublist _)⟩
  · first
    | fail
    | skip
      clear H11; intro H22
      refine plain (y_move rfl rfl) rfl rfl rfl H22 ?_
      clear H22; intro a23 H23
      refine plain (y_move rfl rfl) rfl rfl rfl H23 ?_
      clear H23; intro a24 H24
      refine plain (y_len rfl Tryd.underlying46 rfl) rfl rfl rfl H24 ?_
      clear H24; intro a25 H25
      refine plain (y_geq rfl rfl rfl) rfl rfl rfl H25 ?_
      clear H25; intro a26 H26
      refine plain (y_pick_f rfl rfl rfl) rfl rfl rfl H26 ?_
      clear H26; intro a27 H27
      refine fin ?_
      refine then_n ?_
      refine cnd_d H27 rfl (fun hc28 => ?_) (fun hc28 => ?_) -- cond 2
      · skip
        refine wp_seq ?_
        refine reg ?_
        refine st_callg rfl z_call20 rfl rfl rfl rfl H27 (awake2 (hG.frm H27.sep.frm (by simp))) ?_
        clear H27; intro a29 wx29 H29
        refine plain (y_assign rfl rfl) rfl rfl rfl H29 ?_
        clear H29; intro a30 H30
        refine fin ?_
        refine then_n ?_
        refine wp_ret ?_
        refine then_r ?_
        -- return 2
        refine ret1 rfl H30 rfl ?_
        exact ⟨_, [], rfl, ⟨rfl, rfl⟩, H30.sep.sub (List.nil_sublist _)⟩
      · (exfalso; omega)
theorem digestTurned (l : List (List UInt8)) (A : Option Addr) (c : Nat) (hcl : l.length ≤ c) (hb : ∀ x ∈ l, x.length ≤ 140737488351232) (hl : l.length ≤ 9223372036854775807) (i b : Int) (hbb : -9223372036854775808 ≤ b ∧ b ≤ 9223372036854775807) {w : World} (hR : Rd w A (l.map str)) (hG : Glob 0 Sha.K w) : Calls Tryd.prog 12 #[.slice A l.length c, .int .i64 i, .int .i64 b] w (Gives (.bool true) [] w) := by
  by_cases hi : i < 0 ∨ ((l.take 100).length : Int) ≤ i
  · exact turnOut l A c hcl hb hl i hi b hbb hR hG
  · obtain ⟨j, rfl⟩ := Int.eq_ofNat_of_zero_le (show 0 ≤ i by omega)
    exact turnIn l A c hcl hb hl j (by omega) b hbb hR hG

end Go.Proofs.YtbadncpjbdfinaaDoor.D_LTurned
