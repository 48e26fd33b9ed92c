/- Part of a proof about given Go functions: contracts of functions, or plain laws. -/
import Derived.Test.YtbadncpjbdfinaaDoorSxW
import Derived.Test.YtbadncpjbdfinaaDoorSxI
import Derived.Test.YtbadncpjbdfinaaDoorSha
import Derived.Test.YtbadncpjbdfinaaDoorShaAbc
import Derived.Test.YtbadncpjbdfinaaDoorSxX
import Derived.Test.YtbadncpjbdfinaaDoorSxY
import Derived.Test.YtbadncpjbdfinaaDoorMerk
import Derived.Test.YtbadncpjbdfinaaDoorOct2
import Derived.Test.YtbadncpjbdfinaaDoorSxZ
import Derived.Test.YtbadncpjbdfinaaDoorMerk2
import Derived.Test.YtbadncpjbdfinaaDoorProg
import Derived.Test.YtbadncpjbdfinaaDoorDBlock
import Derived.Test.YtbadncpjbdfinaaDoorDSum
import Derived.Test.YtbadncpjbdfinaaDoorDRef
import Derived.Test.YtbadncpjbdfinaaDoorDRSum
import Derived.Test.YtbadncpjbdfinaaDoorDLeaf
import Derived.Test.YtbadncpjbdfinaaDoorDRoot
import Derived.Test.YtbadncpjbdfinaaDoorDRoot2
import Derived.Test.YtbadncpjbdfinaaDoorDProof
import Derived.Test.YtbadncpjbdfinaaDoorDRProof
import Derived.Test.YtbadncpjbdfinaaDoorDLaw
import Derived.Test.YtbadncpjbdfinaaDoorDProves
import Derived.Test.YtbadncpjbdfinaaDoorDRProves
set_option linter.unusedVariables false
set_option linter.unusedSimpArgs false
namespace Go.Proofs.YtbadncpjbdfinaaDoor.D_LShows
open Go.Sx Go.RowKit Go.Proofs.YtbadncpjbdfinaaDoor.D_Block Go.Proofs.YtbadncpjbdfinaaDoor.D_Sum Go.Proofs.YtbadncpjbdfinaaDoor.D_Ref Go.Proofs.YtbadncpjbdfinaaDoor.D_RSum Go.Proofs.YtbadncpjbdfinaaDoor.D_Leaf Go.Proofs.YtbadncpjbdfinaaDoor.D_Root Go.Proofs.YtbadncpjbdfinaaDoor.D_Root2 Go.Proofs.YtbadncpjbdfinaaDoor.D_Proof Go.Proofs.YtbadncpjbdfinaaDoor.D_RProof Go.Proofs.YtbadncpjbdfinaaDoor.D_Law Go.Proofs.YtbadncpjbdfinaaDoor.D_Proves Go.Proofs.YtbadncpjbdfinaaDoor.D_RProves

theorem z_call27 : callB Tryd.prog 27 = true := by kernel_rfl
theorem z_call20 : callB Tryd.prog 20 = true := by kernel_rfl
theorem z_call28 : callB Tryd.prog 28 = true := by kernel_rfl
theorem z_size9 : sizeB Tryd.prog 9 = some 1 := by kernel_rfl
theorem z_agg9 : aggB Tryd.prog 9 = some false := by kernel_rfl
theorem z_call29 : callB Tryd.prog 29 = true := by kernel_rfl
theorem z_call23 : callB Tryd.prog 23 = true := by kernel_rfl
theorem z_zero23 : zeroL Tryd.prog 23 = some (List.replicate 32 (.int .u8 0)) := by kernel_rfl
theorem z_size5 : sizeB Tryd.prog 5 = some 1 := by kernel_rfl
theorem z_size23 : sizeB Tryd.prog 23 = some 32 := by kernel_rfl
theorem z_slice38 : sliceB Tryd.prog 38 = some (23, 32, 32) := by kernel_rfl
theorem z_notint38 : notIntB Tryd.prog 38 = true := by kernel_rfl

set_option maxRecDepth 100000 in
set_option maxHeartbeats 2000000 in
theorem showsIn (l : List (List UInt8)) (A : Option Addr) (c : Nat) (hcl : l.length ≤ c) (hb : ∀ x ∈ l, x.length ≤ 140737488351232) (hl : l.length ≤ 9223372036854775807) (i : Nat) (hi : i < (l.take 100).length) {w : World} (hR : Rd w A (l.map str)) (hG : Glob 0 Sha.K w) : Calls Tryd.prog 11 #[.slice A l.length c, .int .i64 (i : Int)] w (Gives (.bool true) [] w) := by
  have hll : (l.take 100).length ≤ 100 := by rw [List.length_take]; omega
  have hlc : (l.take 100).length ≤ c := by rw [List.length_take]; omega
  have hRt : Rd w A ((l.take 100).map str) := by rw [List.map_take]; exact hR.take _
  have hple := Merk.proof_le (l.take 100) i
  have hsl : ((l.take 100).getD i []).length ≤ 140737488351232 := hb _ (List.mem_of_mem_take (by rw [List.getD_eq_getElem?_getD, List.getElem?_eq_getElem hi]; exact List.getElem_mem _))
  refine enterL (args := [.slice A l.length c, .int .i64 (i : Int)]) Tryd.func11 rfl rfl (l := []) (Sep.refl _) ?_
  intro a0 H0
  refine wp_seq ?_
  refine reg ?_
  refine plain (y_assign rfl rfl) rfl rfl rfl H0 ?_
  clear H0; intro a1 H1
  refine fin ?_
  refine then_n ?_
  refine wp_seq ?_
  refine reg ?_
  refine plain (y_move rfl rfl) rfl rfl rfl H1 ?_
  clear H1; intro a2 H2
  refine st_callg rfl z_call27 rfl rfl rfl rfl H2 (dfew l A _ c rfl hcl hl _) ?_
  clear H2; intro a3 wx3 H3
  refine plain (y_assign rfl rfl) rfl rfl rfl H3 ?_
  clear H3; intro a4 H4
  refine fin ?_
  refine then_n ?_
  refine wp_seq ?_
  refine wp_seq ?_
  refine reg ?_
  refine st_callg rfl z_call20 rfl rfl rfl rfl H4 (awake2 (hG.frm H4.sep.frm (by simp))) ?_
  clear H4; intro a5 wx5 H5
  refine plain (y_not rfl rfl) rfl rfl rfl H5 ?_
  clear H5; intro a6 H6
  refine plain (y_move rfl rfl) rfl rfl rfl H6 ?_
  clear H6; intro a7 H7
  refine plain (y_move rfl rfl) rfl rfl rfl H7 ?_
  clear H7; intro a8 H8
  refine plain (y_lss rfl rfl rfl) rfl rfl rfl H8 ?_
  clear H8; intro a9 H9
  refine plain (y_pick_f rfl rfl rfl) rfl rfl rfl H9 ?_
  clear H9; intro a10 H10
  refine plain (y_move rfl rfl) rfl rfl rfl H10 ?_
  clear H10; intro a11 H11
  have H13 := H11.know (d := 15) (v := .bool false) rfl (congrArg Value.bool (decide_eq_false (by omega)))
  clear H11
  refine plain (y_move rfl rfl) rfl rfl rfl H13 ?_
  clear H13; intro a14 H14
  refine plain (y_move rfl rfl) rfl rfl rfl H14 ?_
  clear H14; intro a15 H15
  refine plain (y_len rfl Tryd.underlying46 rfl) rfl rfl rfl H15 ?_
  clear H15; intro a16 H16
  refine plain (y_geq rfl rfl rfl) rfl rfl rfl H16 ?_
  clear H16; intro a17 H17
  refine plain (y_pick_f rfl rfl rfl) rfl rfl rfl H17 ?_
  clear H17; intro a18 H18
  refine fin ?_
  refine then_n ?_
  refine cnd_d H18 rfl (fun hc19 => ?_) (fun hc19 => ?_) -- cond 1
  · (exfalso; omega)
  · skip
    refine wp_skip ?_
    refine then_n ?_
    refine wp_seq ?_
    refine reg ?_
    refine plain (y_move rfl rfl) rfl rfl rfl H18 ?_
    clear H18; intro a20 H20
    refine plain (y_move rfl rfl) rfl rfl rfl H20 ?_
    clear H20; intro a21 H21
    refine st_call rfl z_call28 rfl rfl rfl rfl H21 (dproof (l.take 100) A c hlc (fun x hx => hb x (List.mem_of_mem_take hx)) (by omega) i hi (by rw [List.map_take]; exact (Rd.frm hR H21.sep.frm (by simp)).take _) (hG.frm H21.sep.frm (by simp))) ?_
    clear H21; intro v22 l22 a22 wx22 hf22 H22
    obtain ⟨vp, rfl, rfl⟩ := hf22
    simp only [List.cons_append, List.nil_append] at H22
    obtain ⟨Ap, cp, hvp, hRp, hmp⟩ := row_shape (v := vp) H22.sep (List.Mem.head _)
    subst hvp
    refine plain (y_move rfl rfl) rfl rfl rfl H22 ?_
    clear H22; intro a23 H23
    refine plain (y_extract rfl rfl rfl) rfl rfl rfl H23 ?_
    clear H23; intro a24 H24
    refine plain (y_extract rfl rfl rfl) rfl rfl rfl H24 ?_
    clear H24; intro a25 H25
    refine plain (y_assign rfl rfl) rfl rfl rfl H25 ?_
    clear H25; intro a26 H26
    refine plain (y_assign rfl rfl) rfl rfl rfl H26 ?_
    clear H26; intro a27 H27
    refine fin ?_
    refine then_n ?_
    refine wp_seq ?_
    refine hreg [] (fun _ h => (h.sub (by first | exact List.nil_sublist _ | exact List.Sublist.refl _ | repeat (first | exact List.Sublist.refl _ | exact List.nil_sublist _ | apply List.Sublist.cons_cons | apply List.Sublist.cons)))) (by kernel_rfl) H27 ?_
    clear H27; intro wx28 H28
    refine htake 0 rfl (by kernel_rfl) (y_move rfl rfl) rfl rfl rfl (fun _ h => (h.sub (by first | exact List.nil_sublist _ | exact List.Sublist.refl _ | repeat (first | exact List.Sublist.refl _ | exact List.nil_sublist _ | apply List.Sublist.cons_cons | apply List.Sublist.cons)))) H28 ?_
    clear H28; intro a29 H29
    refine htake 1 rfl (by kernel_rfl) (y_eql rfl rfl rfl) rfl rfl rfl (fun _ h => (h.sub (by first | exact List.nil_sublist _ | exact List.Sublist.refl _ | repeat (first | exact List.Sublist.refl _ | exact List.nil_sublist _ | apply List.Sublist.cons_cons | apply List.Sublist.cons)))) H29 ?_
    clear H29; intro a30 H30
    refine htake 2 rfl (by kernel_rfl) (y_move rfl rfl) rfl rfl rfl (fun _ h => (h.sub (by first | exact List.nil_sublist _ | exact List.Sublist.refl _ | repeat (first | exact List.Sublist.refl _ | exact List.nil_sublist _ | apply List.Sublist.cons_cons | apply List.Sublist.cons)))) H30 ?_
    clear H30; intro a31 H31
    have H33 := H31.know (d := 30) (v := .bool true) rfl (congrArg Value.bool (decide_eq_true (rfl)))
    clear H31
    refine htake 3 rfl (by kernel_rfl) (y_move rfl rfl) rfl rfl rfl (fun _ h => (h.sub (by first | exact List.nil_sublist _ | exact List.Sublist.refl _ | repeat (first | exact List.Sublist.refl _ | exact List.nil_sublist _ | apply List.Sublist.cons_cons | apply List.Sublist.cons)))) H33 ?_
    clear H33; intro a34 H34
    refine htake 5 rfl (by kernel_rfl) (y_move rfl rfl) rfl rfl rfl (fun _ h => (h.sub (by first | exact List.nil_sublist _ | exact List.Sublist.refl _ | repeat (first | exact List.Sublist.refl _ | exact List.nil_sublist _ | apply List.Sublist.cons_cons | apply List.Sublist.cons)))) H34 ?_
    clear H34; intro a35 H35
    refine htake 6 rfl (by kernel_rfl) (y_len rfl Tryd.underlying46 rfl) rfl rfl rfl (fun _ h => (h.sub (by first | exact List.nil_sublist _ | exact List.Sublist.refl _ | repeat (first | exact List.Sublist.refl _ | exact List.nil_sublist _ | apply List.Sublist.cons_cons | apply List.Sublist.cons)))) H35 ?_
    clear H35; intro a36 H36
    refine htake 7 rfl (by kernel_rfl) (y_move rfl rfl) rfl rfl rfl (fun _ h => (h.sub (by first | exact List.nil_sublist _ | exact List.Sublist.refl _ | repeat (first | exact List.Sublist.refl _ | exact List.nil_sublist _ | apply List.Sublist.cons_cons | apply List.Sublist.cons)))) H36 ?_
    clear H36; intro a37 H37
    refine htake 8 rfl (by kernel_rfl) (y_move rfl rfl) rfl rfl rfl (fun _ h => (h.sub (by first | exact List.nil_sublist _ | exact List.Sublist.refl _ | repeat (first | exact List.Sublist.refl _ | exact List.nil_sublist _ | apply List.Sublist.cons_cons | apply List.Sublist.cons)))) H37 ?_
    clear H37; intro a38 H38
    refine htake 9 rfl (by kernel_rfl) (y_move rfl rfl) rfl rfl rfl (fun _ h => (h.sub (by first | exact List.nil_sublist _ | exact List.Sublist.refl _ | repeat (first | exact List.Sublist.refl _ | exact List.nil_sublist _ | apply List.Sublist.cons_cons | apply List.Sublist.cons)))) H38 ?_
    clear H38; intro a39 H39
    refine htake 10 rfl (by kernel_rfl) (y_ixR rfl Tryd.underlying46 z_size9 rfl rfl (by omega) (by omega) (rd_old hRt (by simp)) (by rw [List.length_map]; omega)) rfl rfl rfl (fun _ h => (h.sub (by first | exact List.nil_sublist _ | exact List.Sublist.refl _ | repeat (first | exact List.Sublist.refl _ | exact List.nil_sublist _ | apply List.Sublist.cons_cons | apply List.Sublist.cons)))) H39 ?_
    clear H39; intro a40 H40
    refine htake 11 rfl (by kernel_rfl) (y_loadR rfl z_agg9 rfl (rd_old hRt (by simp)) (by simp only [Int.toNat_natCast, Nat.mul_one, Nat.add_zero]; exact map_get _ _ _ [] (by omega))) rfl rfl rfl (fun _ h => (h.sub (by first | exact List.nil_sublist _ | exact List.Sublist.refl _ | repeat (first | exact List.Sublist.refl _ | exact List.nil_sublist _ | apply List.Sublist.cons_cons | apply List.Sublist.cons)))) H40 ?_
    clear H40; intro a41 H41
    refine htake 12 rfl (by kernel_rfl) (y_move rfl rfl) rfl rfl rfl (fun _ h => (h.sub (by first | exact List.nil_sublist _ | exact List.Sublist.refl _ | repeat (first | exact List.Sublist.refl _ | exact List.nil_sublist _ | apply List.Sublist.cons_cons | apply List.Sublist.cons)))) H41 ?_
    clear H41; intro a42 H42
    refine hgo 4 rfl (by kernel_rfl) ?_
    refine st_callg rfl z_call29 rfl rfl rfl rfl H42 (droot (l.take 100) _ _ _ _ rfl hlc (fun x hx => hb x (List.mem_of_mem_take hx)) (by omega) (by rw [List.map_take]; exact (Rd.frm hR H42.sep.frm (by simp)).take _) (hG.frm H42.sep.frm (by simp))) ?_
    clear H42; intro a43 wx43 H43
    refine hfin (H43.sep.sub (by first | exact List.nil_sublist _ | exact List.Sublist.refl _ | repeat (first | exact List.Sublist.refl _ | exact List.nil_sublist _ | apply List.Sublist.cons_cons | apply List.Sublist.cons))) ?_
    refine hgo 13 rfl (by kernel_rfl) ?_
    refine st_callg rfl z_call23 rfl rfl rfl rfl H43 (dproves (Merk.root (l.take 100)) (Merk.root_len _) ((l.take 100).length : Int) (i : Int) (by omega) (by omega) ((l.take 100).getD i []) (by omega) (Merk.proof (l.take 100) i) (Merk.proof_32 _ _) (by omega) _ _ (Rd.ofSep (rd_row (by repeat (first | exact List.Mem.head _ | apply List.Mem.tail))) H43.sep) (hG.frm H43.sep.frm (by simp))) ?_
    clear H43; intro a44 wx44 H44
    refine hfin (H44.sep.sub (by first | exact List.nil_sublist _ | exact List.Sublist.refl _ | repeat (first | exact List.Sublist.refl _ | exact List.nil_sublist _ | apply List.Sublist.cons_cons | apply List.Sublist.cons))) ?_
    refine htake 14 rfl (by kernel_rfl) (y_pick_t rfl rfl rfl) rfl rfl rfl (fun _ h => (h.sub (by first | exact List.nil_sublist _ | exact List.Sublist.refl _ | repeat (first | exact List.Sublist.refl _ | exact List.nil_sublist _ | apply List.Sublist.cons_cons | apply List.Sublist.cons)))) H44 ?_
    clear H44; intro a45 H45
    refine htake 15 rfl (by kernel_rfl) (y_move rfl rfl) rfl rfl rfl (fun _ h => (h.sub (by first | exact List.nil_sublist _ | exact List.Sublist.refl _ | repeat (first | exact List.Sublist.refl _ | exact List.nil_sublist _ | apply List.Sublist.cons_cons | apply List.Sublist.cons)))) H45 ?_
    clear H45; intro a46 H46
    have H48 := H46.know (d := 43) (v := .bool true) rfl (congrArg Value.bool (show Merk.proves _ _ _ _ _ = true by rw [Merk.proves_list hi]; exact decide_eq_true rfl))
    clear H46
    refine htake 16 rfl (by kernel_rfl) (y_move rfl rfl) rfl rfl rfl (fun _ h => (h.sub (by first | exact List.nil_sublist _ | exact List.Sublist.refl _ | repeat (first | exact List.Sublist.refl _ | exact List.nil_sublist _ | apply List.Sublist.cons_cons | apply List.Sublist.cons)))) H48 ?_
    clear H48; intro a49 H49
    refine htake 18 rfl (by kernel_rfl) (y_move rfl rfl) rfl rfl rfl (fun _ h => (h.sub (by first | exact List.nil_sublist _ | exact List.Sublist.refl _ | repeat (first | exact List.Sublist.refl _ | exact List.nil_sublist _ | apply List.Sublist.cons_cons | apply List.Sublist.cons)))) H49 ?_
    clear H49; intro a50 H50
    refine htake 19 rfl (by kernel_rfl) (y_len rfl Tryd.underlying46 rfl) rfl rfl rfl (fun _ h => (h.sub (by first | exact List.nil_sublist _ | exact List.Sublist.refl _ | repeat (first | exact List.Sublist.refl _ | exact List.nil_sublist _ | apply List.Sublist.cons_cons | apply List.Sublist.cons)))) H50 ?_
    clear H50; intro a51 H51
    refine htake 20 rfl (by kernel_rfl) (y_move rfl rfl) rfl rfl rfl (fun _ h => (h.sub (by first | exact List.nil_sublist _ | exact List.Sublist.refl _ | repeat (first | exact List.Sublist.refl _ | exact List.nil_sublist _ | apply List.Sublist.cons_cons | apply List.Sublist.cons)))) H51 ?_
    clear H51; intro a52 H52
    refine htake 21 rfl (by kernel_rfl) (y_move rfl rfl) rfl rfl rfl (fun _ h => (h.sub (by first | exact List.nil_sublist _ | exact List.Sublist.refl _ | repeat (first | exact List.Sublist.refl _ | exact List.nil_sublist _ | apply List.Sublist.cons_cons | apply List.Sublist.cons)))) H52 ?_
    clear H52; intro a53 H53
    refine htake 22 rfl (by kernel_rfl) (y_move rfl rfl) rfl rfl rfl (fun _ h => (h.sub (by first | exact List.nil_sublist _ | exact List.Sublist.refl _ | repeat (first | exact List.Sublist.refl _ | exact List.nil_sublist _ | apply List.Sublist.cons_cons | apply List.Sublist.cons)))) H53 ?_
    clear H53; intro a54 H54
    refine htake 23 rfl (by kernel_rfl) (y_ixR rfl Tryd.underlying46 z_size9 rfl rfl (by omega) (by omega) (rd_old hRt (by simp)) (by rw [List.length_map]; omega)) rfl rfl rfl (fun _ h => (h.sub (by first | exact List.nil_sublist _ | exact List.Sublist.refl _ | repeat (first | exact List.Sublist.refl _ | exact List.nil_sublist _ | apply List.Sublist.cons_cons | apply List.Sublist.cons)))) H54 ?_
    clear H54; intro a55 H55
    refine htake 24 rfl (by kernel_rfl) (y_loadR rfl z_agg9 rfl (rd_old hRt (by simp)) (by simp only [Int.toNat_natCast, Nat.mul_one, Nat.add_zero]; exact map_get _ _ _ [] (by omega))) rfl rfl rfl (fun _ h => (h.sub (by first | exact List.nil_sublist _ | exact List.Sublist.refl _ | repeat (first | exact List.Sublist.refl _ | exact List.nil_sublist _ | apply List.Sublist.cons_cons | apply List.Sublist.cons)))) H55 ?_
    clear H55; intro a56 H56
    refine htake 26 rfl (by kernel_rfl) (y_move rfl rfl) rfl rfl rfl (fun _ h => (h.sub (by first | exact List.nil_sublist _ | exact List.Sublist.refl _ | repeat (first | exact List.Sublist.refl _ | exact List.nil_sublist _ | apply List.Sublist.cons_cons | apply List.Sublist.cons)))) H56 ?_
    clear H56; intro a57 H57
    refine htake 28 rfl (by kernel_rfl) (y_buildA rfl z_zero23 Tryd.underlying23 z_size5 rfl (show _ = some ((List.replicate 32 (0 : UInt8)).map u8) from rfl)) rfl rfl rfl (fun _ h => (h.sub (by first | exact List.nil_sublist _ | exact List.Sublist.refl _ | repeat (first | exact List.Sublist.refl _ | exact List.nil_sublist _ | apply List.Sublist.cons_cons | apply List.Sublist.cons)))) H57 ?_
    clear H57; intro a58 H58
    refine hgo3 17 25 29 rfl rfl rfl (by kernel_rfl) ?_ ?_ ?_
    · skip
      refine st_callg rfl z_call29 rfl rfl rfl rfl H58 (droot (l.take 100) _ _ _ _ rfl hlc (fun x hx => hb x (List.mem_of_mem_take hx)) (by omega) (by rw [List.map_take]; exact (Rd.frm hR H58.sep.frm (by simp)).take _) (hG.frm H58.sep.frm (by simp))) ?_
      clear H58; intro a59 wx59 H59
      refine hfin (H59.sep.sub (by first | exact List.nil_sublist _ | exact List.Sublist.refl _ | repeat (first | exact List.Sublist.refl _ | exact List.nil_sublist _ | apply List.Sublist.cons_cons | apply List.Sublist.cons))) ?_
      refine hgo2 25 29 rfl rfl (by kernel_rfl) ?_ ?_
      · skip
        refine st_buildSlice rfl Tryd.underlying38 z_size23 z_zero23 rfl rfl rfl (show _ = some [] from rfl) rfl rfl rfl H59 ?_
        clear H59; intro b60 a60 wx60 H60
        refine hfin (H60.sep.sub (by first | exact List.nil_sublist _ | exact List.Sublist.refl _ | repeat (first | exact List.Sublist.refl _ | exact List.nil_sublist _ | apply List.Sublist.cons_cons | apply List.Sublist.cons))) ?_
        refine hgo2 27 29 rfl rfl (by kernel_rfl) ?_ ?_
        · skip
          replace H60 := H60.asRow (b := b60) (size := 32) (m := 0) (by repeat (first | exact Upd.head _ _ _ | apply Upd.tail)) rfl (by unfold maxLen; omega)
          refine st_append rfl z_slice38 z_notint38 rfl rfl (fun _ => (by repeat (first | exact Upd.head _ _ _ | apply Upd.tail))) (fun w hs => Src.slice ((rd_row (by repeat (first | exact List.Mem.head _ | apply List.Mem.tail))) w hs) (hc_len (Merk.proof_32 _ _)) (hc_cell _)) (by unfold maxLen; omega) (by omega) rfl rfl rfl H60 ?_
          clear H60; intro v61 a61 wx61 hnil61 H61
          refine hfin (H61.sep.sub (by first | exact List.nil_sublist _ | exact List.Sublist.refl _ | repeat (first | exact List.Sublist.refl _ | exact List.nil_sublist _ | apply List.Sublist.cons_cons | apply List.Sublist.cons))) ?_
          refine hgo 29 rfl (by kernel_rfl) ?_
          refine st_buildSlice rfl Tryd.underlying38 z_size23 z_zero23 rfl rfl rfl (lay_agg (vs := (List.replicate 32 (0 : UInt8)).map u8) rfl (by rfl) (by simp)) rfl rfl rfl H61 ?_
          clear H61; intro b62 a62 wx62 H62
          refine hfin (H62.sep.sub (by first | exact List.nil_sublist _ | exact List.Sublist.refl _ | repeat (first | exact List.Sublist.refl _ | exact List.nil_sublist _ | apply List.Sublist.cons_cons | apply List.Sublist.cons))) ?_
          refine hgo 30 rfl (by kernel_rfl) ?_
          refine st_append rfl z_slice38 z_notint38 rfl rfl (fun _ => (by repeat (first | exact Upd.head _ _ _ | apply Upd.tail))) (fun w hs => Src.slice ((rd_blkA (by repeat (first | exact List.Mem.head _ | apply List.Mem.tail))) w hs) (by rfl) (by simp [Value.oneCell'])) (by unfold maxLen; omega) (by omega) rfl rfl rfl H62 ?_
          clear H62; intro v63 a63 wx63 hnil63 H63
          obtain ⟨Aq, cq, hvq, hRq, hmq⟩ := row_shape (v := v63) H63.sep (by repeat (first | exact List.Mem.head _ | apply List.Mem.tail))
          subst hvq
          refine hfin (H63.sep.sub (by first | exact List.nil_sublist _ | exact List.Sublist.refl _ | repeat (first | exact List.Sublist.refl _ | exact List.nil_sublist _ | apply List.Sublist.cons_cons | apply List.Sublist.cons))) ?_
          refine hgo 31 rfl (by kernel_rfl) ?_
          refine st_callg rfl z_call23 rfl rfl rfl rfl H63 (dprovesM (Merk.root (l.take 100)) (Merk.root_len _) ((l.take 100).length : Int) (i : Int) (by omega) (by omega) ((l.take 100).getD i []) (by omega) (Merk.proof (l.take 100) i ++ [(List.replicate 32 (0 : UInt8))]) (H32.append (Merk.proof_32 _ _) (H32.one rfl)) (by rw [List.length_append, List.length_singleton]; omega) _ _ _ (by simp) (by rw [hc_append, hc_one]; exact Rd.ofSep (rd_row (by repeat (first | exact List.Mem.head _ | apply List.Mem.tail))) H63.sep) (hG.frm H63.sep.frm (by simp))) ?_
          clear H63; intro a64 wx64 H64
          refine hfin (H64.sep.sub (by first | exact List.nil_sublist _ | exact List.Sublist.refl _ | repeat (first | exact List.Sublist.refl _ | exact List.nil_sublist _ | apply List.Sublist.cons_cons | apply List.Sublist.cons))) ?_
          refine htake 32 rfl (by kernel_rfl) (y_not rfl rfl) rfl rfl rfl (fun _ h => (h.sub (by first | exact List.nil_sublist _ | exact List.Sublist.refl _ | repeat (first | exact List.Sublist.refl _ | exact List.nil_sublist _ | apply List.Sublist.cons_cons | apply List.Sublist.cons)))) H64 ?_
          clear H64; intro a65 H65
          refine htake 33 rfl (by kernel_rfl) (y_pick_t rfl rfl rfl) rfl rfl rfl (fun _ h => (h.sub (by first | exact List.nil_sublist _ | exact List.Sublist.refl _ | repeat (first | exact List.Sublist.refl _ | exact List.nil_sublist _ | apply List.Sublist.cons_cons | apply List.Sublist.cons)))) H65 ?_
          clear H65; intro a66 H66
          refine htake 34 rfl (by kernel_rfl) (y_assign rfl rfl) rfl rfl rfl (fun _ h => (h.sub (by first | exact List.nil_sublist _ | exact List.Sublist.refl _ | repeat (first | exact List.Sublist.refl _ | exact List.nil_sublist _ | apply List.Sublist.cons_cons | apply List.Sublist.cons)))) H66 ?_
          clear H66; intro a67 H67
          refine hdone (by kernel_rfl) ?_
          refine then_n ?_
          refine wp_ret ?_
          -- return 1
          refine ret1 rfl H67 rfl ?_
          exact ⟨_, [], rfl, ⟨by rw [Merk.proves_more]; rfl, rfl⟩, H67.sep.sub (List.nil_sublist _)⟩
        · skip
          refine st_buildSlice rfl Tryd.underlying38 z_size23 z_zero23 rfl rfl rfl (lay_agg (vs := (List.replicate 32 (0 : UInt8)).map u8) rfl (by rfl) (by simp)) rfl rfl rfl H60 ?_
          clear H60; intro b68 a68 wx68 H68
          refine hfin (H68.sep.sub (by first | exact List.nil_sublist _ | exact List.Sublist.refl _ | repeat (first | exact List.Sublist.refl _ | exact List.nil_sublist _ | apply List.Sublist.cons_cons | apply List.Sublist.cons))) ?_
          refine hgo 27 rfl (by kernel_rfl) ?_
          replace H68 := H68.asRow (b := b60) (size := 32) (m := 0) (by repeat (first | exact Upd.head _ _ _ | apply Upd.tail)) rfl (by unfold maxLen; omega)
          refine st_append rfl z_slice38 z_notint38 rfl rfl (fun _ => (by repeat (first | exact Upd.head _ _ _ | apply Upd.tail))) (fun w hs => Src.slice ((rd_row (by repeat (first | exact List.Mem.head _ | apply List.Mem.tail))) w hs) (hc_len (Merk.proof_32 _ _)) (hc_cell _)) (by unfold maxLen; omega) (by omega) rfl rfl rfl H68 ?_
          clear H68; intro v69 a69 wx69 hnil69 H69
          refine hfin (H69.sep.sub (by first | exact List.nil_sublist _ | exact List.Sublist.refl _ | repeat (first | exact List.Sublist.refl _ | exact List.nil_sublist _ | apply List.Sublist.cons_cons | apply List.Sublist.cons))) ?_
          refine hgo 30 rfl (by kernel_rfl) ?_
          refine st_append rfl z_slice38 z_notint38 rfl rfl (fun _ => (by repeat (first | exact Upd.head _ _ _ | apply Upd.tail))) (fun w hs => Src.slice ((rd_blkA (by repeat (first | exact List.Mem.head _ | apply List.Mem.tail))) w hs) (by rfl) (by simp [Value.oneCell'])) (by unfold maxLen; omega) (by omega) rfl rfl rfl H69 ?_
          clear H69; intro v70 a70 wx70 hnil70 H70
          obtain ⟨Aq, cq, hvq, hRq, hmq⟩ := row_shape (v := v70) H70.sep (by repeat (first | exact List.Mem.head _ | apply List.Mem.tail))
          subst hvq
          refine hfin (H70.sep.sub (by first | exact List.nil_sublist _ | exact List.Sublist.refl _ | repeat (first | exact List.Sublist.refl _ | exact List.nil_sublist _ | apply List.Sublist.cons_cons | apply List.Sublist.cons))) ?_
          refine hgo 31 rfl (by kernel_rfl) ?_
          refine st_callg rfl z_call23 rfl rfl rfl rfl H70 (dprovesM (Merk.root (l.take 100)) (Merk.root_len _) ((l.take 100).length : Int) (i : Int) (by omega) (by omega) ((l.take 100).getD i []) (by omega) (Merk.proof (l.take 100) i ++ [(List.replicate 32 (0 : UInt8))]) (H32.append (Merk.proof_32 _ _) (H32.one rfl)) (by rw [List.length_append, List.length_singleton]; omega) _ _ _ (by simp) (by rw [hc_append, hc_one]; exact Rd.ofSep (rd_row (by repeat (first | exact List.Mem.head _ | apply List.Mem.tail))) H70.sep) (hG.frm H70.sep.frm (by simp))) ?_
          clear H70; intro a71 wx71 H71
          refine hfin (H71.sep.sub (by first | exact List.nil_sublist _ | exact List.Sublist.refl _ | repeat (first | exact List.Sublist.refl _ | exact List.nil_sublist _ | apply List.Sublist.cons_cons | apply List.Sublist.cons))) ?_
          refine htake 32 rfl (by kernel_rfl) (y_not rfl rfl) rfl rfl rfl (fun _ h => (h.sub (by first | exact List.nil_sublist _ | exact List.Sublist.refl _ | repeat (first | exact List.Sublist.refl _ | exact List.nil_sublist _ | apply List.Sublist.cons_cons | apply List.Sublist.cons)))) H71 ?_
          clear H71; intro a72 H72
          refine htake 33 rfl (by kernel_rfl) (y_pick_t rfl rfl rfl) rfl rfl rfl (fun _ h => (h.sub (by first | exact List.nil_sublist _ | exact List.Sublist.refl _ | repeat (first | exact List.Sublist.refl _ | exact List.nil_sublist _ | apply List.Sublist.cons_cons | apply List.Sublist.cons)))) H72 ?_
          clear H72; intro a73 H73
          refine htake 34 rfl (by kernel_rfl) (y_assign rfl rfl) rfl rfl rfl (fun _ h => (h.sub (by first | exact List.nil_sublist _ | exact List.Sublist.refl _ | repeat (first | exact List.Sublist.refl _ | exact List.nil_sublist _ | apply List.Sublist.cons_cons | apply List.Sublist.cons)))) H73 ?_
          clear H73; intro a74 H74
          refine hdone (by kernel_rfl) ?_
          refine then_n ?_
          refine wp_ret ?_
          -- return 2
          refine ret1 rfl H74 rfl ?_
          exact ⟨_, [], rfl, ⟨by rw [Merk.proves_more]; rfl, rfl⟩, H74.sep.sub (List.nil_sublist _)⟩
      · skip
        refine st_buildSlice rfl Tryd.underlying38 z_size23 z_zero23 rfl rfl rfl (lay_agg (vs := (List.replicate 32 (0 : UInt8)).map u8) rfl (by rfl) (by simp)) rfl rfl rfl H59 ?_
        clear H59; intro b75 a75 wx75 H75
        refine hfin (H75.sep.sub (by first | exact List.nil_sublist _ | exact List.Sublist.refl _ | repeat (first | exact List.Sublist.refl _ | exact List.nil_sublist _ | apply List.Sublist.cons_cons | apply List.Sublist.cons))) ?_
        refine hgo 25 rfl (by kernel_rfl) ?_
        refine st_buildSlice rfl Tryd.underlying38 z_size23 z_zero23 rfl rfl rfl (show _ = some [] from rfl) rfl rfl rfl H75 ?_
        clear H75; intro b76 a76 wx76 H76
        refine hfin (H76.sep.sub (by first | exact List.nil_sublist _ | exact List.Sublist.refl _ | repeat (first | exact List.Sublist.refl _ | exact List.nil_sublist _ | apply List.Sublist.cons_cons | apply List.Sublist.cons))) ?_
        refine hgo 27 rfl (by kernel_rfl) ?_
        replace H76 := H76.asRow (b := b76) (size := 32) (m := 0) (by repeat (first | exact Upd.head _ _ _ | apply Upd.tail)) rfl (by unfold maxLen; omega)
        refine st_append rfl z_slice38 z_notint38 rfl rfl (fun _ => (by repeat (first | exact Upd.head _ _ _ | apply Upd.tail))) (fun w hs => Src.slice ((rd_row (by repeat (first | exact List.Mem.head _ | apply List.Mem.tail))) w hs) (hc_len (Merk.proof_32 _ _)) (hc_cell _)) (by unfold maxLen; omega) (by omega) rfl rfl rfl H76 ?_
        clear H76; intro v77 a77 wx77 hnil77 H77
        refine hfin (H77.sep.sub (by first | exact List.nil_sublist _ | exact List.Sublist.refl _ | repeat (first | exact List.Sublist.refl _ | exact List.nil_sublist _ | apply List.Sublist.cons_cons | apply List.Sublist.cons))) ?_
        refine hgo 30 rfl (by kernel_rfl) ?_
        refine st_append rfl z_slice38 z_notint38 rfl rfl (fun _ => (by repeat (first | exact Upd.head _ _ _ | apply Upd.tail))) (fun w hs => Src.slice ((rd_blkA (by repeat (first | exact List.Mem.head _ | apply List.Mem.tail))) w hs) (by rfl) (by simp [Value.oneCell'])) (by unfold maxLen; omega) (by omega) rfl rfl rfl H77 ?_
        clear H77; intro v78 a78 wx78 hnil78 H78
        obtain ⟨Aq, cq, hvq, hRq, hmq⟩ := row_shape (v := v78) H78.sep (by repeat (first | exact List.Mem.head _ | apply List.Mem.tail))
        subst hvq
        refine hfin (H78.sep.sub (by first | exact List.nil_sublist _ | exact List.Sublist.refl _ | repeat (first | exact List.Sublist.refl _ | exact List.nil_sublist _ | apply List.Sublist.cons_cons | apply List.Sublist.cons))) ?_
        refine hgo 31 rfl (by kernel_rfl) ?_
        refine st_callg rfl z_call23 rfl rfl rfl rfl H78 (dprovesM (Merk.root (l.take 100)) (Merk.root_len _) ((l.take 100).length : Int) (i : Int) (by omega) (by omega) ((l.take 100).getD i []) (by omega) (Merk.proof (l.take 100) i ++ [(List.replicate 32 (0 : UInt8))]) (H32.append (Merk.proof_32 _ _) (H32.one rfl)) (by rw [List.length_append, List.length_singleton]; omega) _ _ _ (by simp) (by rw [hc_append, hc_one]; exact Rd.ofSep (rd_row (by repeat (first | exact List.Mem.head _ | apply List.Mem.tail))) H78.sep) (hG.frm H78.sep.frm (by simp))) ?_
        clear H78; intro a79 wx79 H79
        refine hfin (H79.sep.sub (by first | exact List.nil_sublist _ | exact List.Sublist.refl _ | repeat (first | exact List.Sublist.refl _ | exact List.nil_sublist _ | apply List.Sublist.cons_cons | apply List.Sublist.cons))) ?_
        refine htake 32 rfl (by kernel_rfl) (y_not rfl rfl) rfl rfl rfl (fun _ h => (h.sub (by first | exact List.nil_sublist _ | exact List.Sublist.refl _ | repeat (first | exact List.Sublist.refl _ | exact List.nil_sublist _ | apply List.Sublist.cons_cons | apply List.Sublist.cons)))) H79 ?_
        clear H79; intro a80 H80
        refine htake 33 rfl (by kernel_rfl) (y_pick_t rfl rfl rfl) rfl rfl rfl (fun _ h => (h.sub (by first | exact List.nil_sublist _ | exact List.Sublist.refl _ | repeat (first | exact List.Sublist.refl _ | exact List.nil_sublist _ | apply List.Sublist.cons_cons | apply List.Sublist.cons)))) H80 ?_
        clear H80; intro a81 H81
        refine htake 34 rfl (by kernel_rfl) (y_assign rfl rfl) rfl rfl rfl (fun _ h => (h.sub (by first | exact List.nil_sublist _ | exact List.Sublist.refl _ | repeat (first | exact List.Sublist.refl _ | exact List.nil_sublist _ | apply List.Sublist.cons_cons | apply List.Sublist.cons)))) H81 ?_
        clear H81; intro a82 H82
        refine hdone (by kernel_rfl) ?_
        refine then_n ?_
        refine wp_ret ?_
        -- return 3
        refine ret1 rfl H82 rfl ?_
        exact ⟨_, [], rfl, ⟨by rw [Merk.proves_more]; rfl, rfl⟩, H82.sep.sub (List.nil_sublist _)⟩
    · skip
      refine st_buildSlice rfl Tryd.underlying38 z_size23 z_zero23 rfl rfl rfl (show _ = some [] from rfl) rfl rfl rfl H58 ?_
      clear H58; intro b83 a83 wx83 H83
      refine hfin (H83.sep.sub (by first | exact List.nil_sublist _ | exact List.Sublist.refl _ | repeat (first | exact List.Sublist.refl _ | exact List.nil_sublist _ | apply List.Sublist.cons_cons | apply List.Sublist.cons))) ?_
      refine hgo2 17 29 rfl rfl (by kernel_rfl) ?_ ?_
      · skip
        refine st_callg rfl z_call29 rfl rfl rfl rfl H83 (droot (l.take 100) _ _ _ _ rfl hlc (fun x hx => hb x (List.mem_of_mem_take hx)) (by omega) (by rw [List.map_take]; exact (Rd.frm hR H83.sep.frm (by simp)).take _) (hG.frm H83.sep.frm (by simp))) ?_
        clear H83; intro a84 wx84 H84
        refine hfin (H84.sep.sub (by first | exact List.nil_sublist _ | exact List.Sublist.refl _ | repeat (first | exact List.Sublist.refl _ | exact List.nil_sublist _ | apply List.Sublist.cons_cons | apply List.Sublist.cons))) ?_
        refine hgo2 27 29 rfl rfl (by kernel_rfl) ?_ ?_
        · skip
          replace H84 := H84.asRow (b := b83) (size := 32) (m := 0) (by repeat (first | exact Upd.head _ _ _ | apply Upd.tail)) rfl (by unfold maxLen; omega)
          refine st_append rfl z_slice38 z_notint38 rfl rfl (fun _ => (by repeat (first | exact Upd.head _ _ _ | apply Upd.tail))) (fun w hs => Src.slice ((rd_row (by repeat (first | exact List.Mem.head _ | apply List.Mem.tail))) w hs) (hc_len (Merk.proof_32 _ _)) (hc_cell _)) (by unfold maxLen; omega) (by omega) rfl rfl rfl H84 ?_
          clear H84; intro v85 a85 wx85 hnil85 H85
          refine hfin (H85.sep.sub (by first | exact List.nil_sublist _ | exact List.Sublist.refl _ | repeat (first | exact List.Sublist.refl _ | exact List.nil_sublist _ | apply List.Sublist.cons_cons | apply List.Sublist.cons))) ?_
          refine hgo 29 rfl (by kernel_rfl) ?_
          refine st_buildSlice rfl Tryd.underlying38 z_size23 z_zero23 rfl rfl rfl (lay_agg (vs := (List.replicate 32 (0 : UInt8)).map u8) rfl (by rfl) (by simp)) rfl rfl rfl H85 ?_
          clear H85; intro b86 a86 wx86 H86
          refine hfin (H86.sep.sub (by first | exact List.nil_sublist _ | exact List.Sublist.refl _ | repeat (first | exact List.Sublist.refl _ | exact List.nil_sublist _ | apply List.Sublist.cons_cons | apply List.Sublist.cons))) ?_
          refine hgo 30 rfl (by kernel_rfl) ?_
          refine st_append rfl z_slice38 z_notint38 rfl rfl (fun _ => (by repeat (first | exact Upd.head _ _ _ | apply Upd.tail))) (fun w hs => Src.slice ((rd_blkA (by repeat (first | exact List.Mem.head _ | apply List.Mem.tail))) w hs) (by rfl) (by simp [Value.oneCell'])) (by unfold maxLen; omega) (by omega) rfl rfl rfl H86 ?_
          clear H86; intro v87 a87 wx87 hnil87 H87
          obtain ⟨Aq, cq, hvq, hRq, hmq⟩ := row_shape (v := v87) H87.sep (by repeat (first | exact List.Mem.head _ | apply List.Mem.tail))
          subst hvq
          refine hfin (H87.sep.sub (by first | exact List.nil_sublist _ | exact List.Sublist.refl _ | repeat (first | exact List.Sublist.refl _ | exact List.nil_sublist _ | apply List.Sublist.cons_cons | apply List.Sublist.cons))) ?_
          refine hgo 31 rfl (by kernel_rfl) ?_
          refine st_callg rfl z_call23 rfl rfl rfl rfl H87 (dprovesM (Merk.root (l.take 100)) (Merk.root_len _) ((l.take 100).length : Int) (i : Int) (by omega) (by omega) ((l.take 100).getD i []) (by omega) (Merk.proof (l.take 100) i ++ [(List.replicate 32 (0 : UInt8))]) (H32.append (Merk.proof_32 _ _) (H32.one rfl)) (by rw [List.length_append, List.length_singleton]; omega) _ _ _ (by simp) (by rw [hc_append, hc_one]; exact Rd.ofSep (rd_row (by repeat (first | exact List.Mem.head _ | apply List.Mem.tail))) H87.sep) (hG.frm H87.sep.frm (by simp))) ?_
          clear H87; intro a88 wx88 H88
          refine hfin (H88.sep.sub (by first | exact List.nil_sublist _ | exact List.Sublist.refl _ | repeat (first | exact List.Sublist.refl _ | exact List.nil_sublist _ | apply List.Sublist.cons_cons | apply List.Sublist.cons))) ?_
          refine htake 32 rfl (by kernel_rfl) (y_not rfl rfl) rfl rfl rfl (fun _ h => (h.sub (by first | exact List.nil_sublist _ | exact List.Sublist.refl _ | repeat (first | exact List.Sublist.refl _ | exact List.nil_sublist _ | apply List.Sublist.cons_cons | apply List.Sublist.cons)))) H88 ?_
          clear H88; intro a89 H89
          refine htake 33 rfl (by kernel_rfl) (y_pick_t rfl rfl rfl) rfl rfl rfl (fun _ h => (h.sub (by first | exact List.nil_sublist _ | exact List.Sublist.refl _ | repeat (first | exact List.Sublist.refl _ | exact List.nil_sublist _ | apply List.Sublist.cons_cons | apply List.Sublist.cons)))) H89 ?_
          clear H89; intro a90 H90
          refine htake 34 rfl (by kernel_rfl) (y_assign rfl rfl) rfl rfl rfl (fun _ h => (h.sub (by first | exact List.nil_sublist _ | exact List.Sublist.refl _ | repeat (first | exact List.Sublist.refl _ | exact List.nil_sublist _ | apply List.Sublist.cons_cons | apply List.Sublist.cons)))) H90 ?_
          clear H90; intro a91 H91
          refine hdone (by kernel_rfl) ?_
          refine then_n ?_
          refine wp_ret ?_
          -- return 4
          refine ret1 rfl H91 rfl ?_
          exact ⟨_, [], rfl, ⟨by rw [Merk.proves_more]; rfl, rfl⟩, H91.sep.sub (List.nil_sublist _)⟩
        · skip
          refine st_buildSlice rfl Tryd.underlying38 z_size23 z_zero23 rfl rfl rfl (lay_agg (vs := (List.replicate 32 (0 : UInt8)).map u8) rfl (by rfl) (by simp)) rfl rfl rfl H84 ?_
          clear H84; intro b92 a92 wx92 H92
          refine hfin (H92.sep.sub (by first | exact List.nil_sublist _ | exact List.Sublist.refl _ | repeat (first | exact List.Sublist.refl _ | exact List.nil_sublist _ | apply List.Sublist.cons_cons | apply List.Sublist.cons))) ?_
          refine hgo 27 rfl (by kernel_rfl) ?_
          replace H92 := H92.asRow (b := b83) (size := 32) (m := 0) (by repeat (first | exact Upd.head _ _ _ | apply Upd.tail)) rfl (by unfold maxLen; omega)
          refine st_append rfl z_slice38 z_notint38 rfl rfl (fun _ => (by repeat (first | exact Upd.head _ _ _ | apply Upd.tail))) (fun w hs => Src.slice ((rd_row (by repeat (first | exact List.Mem.head _ | apply List.Mem.tail))) w hs) (hc_len (Merk.proof_32 _ _)) (hc_cell _)) (by unfold maxLen; omega) (by omega) rfl rfl rfl H92 ?_
          clear H92; intro v93 a93 wx93 hnil93 H93
          refine hfin (H93.sep.sub (by first | exact List.nil_sublist _ | exact List.Sublist.refl _ | repeat (first | exact List.Sublist.refl _ | exact List.nil_sublist _ | apply List.Sublist.cons_cons | apply List.Sublist.cons))) ?_
          refine hgo 30 rfl (by kernel_rfl) ?_
          refine st_append rfl z_slice38 z_notint38 rfl rfl (fun _ => (by repeat (first | exact Upd.head _ _ _ | apply Upd.tail))) (fun w hs => Src.slice ((rd_blkA (by repeat (first | exact List.Mem.head _ | apply List.Mem.tail))) w hs) (by rfl) (by simp [Value.oneCell'])) (by unfold maxLen; omega) (by omega) rfl rfl rfl H93 ?_
          clear H93; intro v94 a94 wx94 hnil94 H94
          obtain ⟨Aq, cq, hvq, hRq, hmq⟩ := row_shape (v := v94) H94.sep (by repeat (first | exact List.Mem.head _ | apply List.Mem.tail))
          subst hvq
          refine hfin (H94.sep.sub (by first | exact List.nil_sublist _ | exact List.Sublist.refl _ | repeat (first | exact List.Sublist.refl _ | exact List.nil_sublist _ | apply List.Sublist.cons_cons | apply List.Sublist.cons))) ?_
          refine hgo 31 rfl (by kernel_rfl) ?_
          refine st_callg rfl z_call23 rfl rfl rfl rfl H94 (dprovesM (Merk.root (l.take 100)) (Merk.root_len _) ((l.take 100).length : Int) (i : Int) (by omega) (by omega) ((l.take 100).getD i []) (by omega) (Merk.proof (l.take 100) i ++ [(List.replicate 32 (0 : UInt8))]) (H32.append (Merk.proof_32 _ _) (H32.one rfl)) (by rw [List.length_append, List.length_singleton]; omega) _ _ _ (by simp) (by rw [hc_append, hc_one]; exact Rd.ofSep (rd_row (by repeat (first | exact List.Mem.head _ | apply List.Mem.tail))) H94.sep) (hG.frm H94.sep.frm (by simp))) ?_
          clear H94; intro a95 wx95 H95
          refine hfin (H95.sep.sub (by first | exact List.nil_sublist _ | exact List.Sublist.refl _ | repeat (first | exact List.Sublist.refl _ | exact List.nil_sublist _ | apply List.Sublist.cons_cons | apply List.Sublist.cons))) ?_
          refine htake 32 rfl (by kernel_rfl) (y_not rfl rfl) rfl rfl rfl (fun _ h => (h.sub (by first | exact List.nil_sublist _ | exact List.Sublist.refl _ | repeat (first | exact List.Sublist.refl _ | exact List.nil_sublist _ | apply List.Sublist.cons_cons | apply List.Sublist.cons)))) H95 ?_
          clear H95; intro a96 H96
          refine htake 33 rfl (by kernel_rfl) (y_pick_t rfl rfl rfl) rfl rfl rfl (fun _ h => (h.sub (by first | exact List.nil_sublist _ | exact List.Sublist.refl _ | repeat (first | exact List.Sublist.refl _ | exact List.nil_sublist _ | apply List.Sublist.cons_cons | apply List.Sublist.cons)))) H96 ?_
          clear H96; intro a97 H97
          refine htake 34 rfl (by kernel_rfl) (y_assign rfl rfl) rfl rfl rfl (fun _ h => (h.sub (by first | exact List.nil_sublist _ | exact List.Sublist.refl _ | repeat (first | exact List.Sublist.refl _ | exact List.nil_sublist _ | apply List.Sublist.cons_cons | apply List.Sublist.cons)))) H97 ?_
          clear H97; intro a98 H98
          refine hdone (by kernel_rfl) ?_
          refine then_n ?_
          refine wp_ret ?_
          -- return 5
          refine ret1 rfl H98 rfl ?_
          exact ⟨_, [], rfl, ⟨by rw [Merk.proves_more]; rfl, rfl⟩, H98.sep.sub (List.nil_sublist _)⟩
      · skip
        refine st_buildSlice rfl Tryd.underlying38 z_size23 z_zero23 rfl rfl rfl (lay_agg (vs := (List.replicate 32 (0 : UInt8)).map u8) rfl (by rfl) (by simp)) rfl rfl rfl H83 ?_
        clear H83; intro b99 a99 wx99 H99
        refine hfin (H99.sep.sub (by first | exact List.nil_sublist _ | exact List.Sublist.refl _ | repeat (first | exact List.Sublist.refl _ | exact List.nil_sublist _ | apply List.Sublist.cons_cons | apply List.Sublist.cons))) ?_
        refine hgo 17 rfl (by kernel_rfl) ?_
        refine st_callg rfl z_call29 rfl rfl rfl rfl H99 (droot (l.take 100) _ _ _ _ rfl hlc (fun x hx => hb x (List.mem_of_mem_take hx)) (by omega) (by rw [List.map_take]; exact (Rd.frm hR H99.sep.frm (by simp)).take _) (hG.frm H99.sep.frm (by simp))) ?_
        clear H99; intro a100 wx100 H100
        refine hfin (H100.sep.sub (by first | exact List.nil_sublist _ | exact List.Sublist.refl _ | repeat (first | exact List.Sublist.refl _ | exact List.nil_sublist _ | apply List.Sublist.cons_cons | apply List.Sublist.cons))) ?_
        refine hgo 27 rfl (by kernel_rfl) ?_
        replace H100 := H100.asRow (b := b83) (size := 32) (m := 0) (by repeat (first | exact Upd.head _ _ _ | apply Upd.tail)) rfl (by unfold maxLen; omega)
        refine st_append rfl z_slice38 z_notint38 rfl rfl (fun _ => (by repeat (first | exact Upd.head _ _ _ | apply Upd.tail))) (fun w hs => Src.slice ((rd_row (by repeat (first | exact List.Mem.head _ | apply List.Mem.tail))) w hs) (hc_len (Merk.proof_32 _ _)) (hc_cell _)) (by unfold maxLen; omega) (by omega) rfl rfl rfl H100 ?_
        clear H100; intro v101 a101 wx101 hnil101 H101
        refine hfin (H101.sep.sub (by first | exact List.nil_sublist _ | exact List.Sublist.refl _ | repeat (first | exact List.Sublist.refl _ | exact List.nil_sublist _ | apply List.Sublist.cons_cons | apply List.Sublist.cons))) ?_
        refine hgo 30 rfl (by kernel_rfl) ?_
        refine st_append rfl z_slice38 z_notint38 rfl rfl (fun _ => (by repeat (first | exact Upd.head _ _ _ | apply Upd.tail))) (fun w hs => Src.slice ((rd_blkA (by repeat (first | exact List.Mem.head _ | apply List.Mem.tail))) w hs) (by rfl) (by simp [Value.oneCell'])) (by unfold maxLen; omega) (by omega) rfl rfl rfl H101 ?_
        clear H101; intro v102 a102 wx102 hnil102 H102
        obtain ⟨Aq, cq, hvq, hRq, hmq⟩ := row_shape (v := v102) H102.sep (by repeat (first | exact List.Mem.head _ | apply List.Mem.tail))
        subst hvq
        refine hfin (H102.sep.sub (by first | exact List.nil_sublist _ | exact List.Sublist.refl _ | repeat (first | exact List.Sublist.refl _ | exact List.nil_sublist _ | apply List.Sublist.cons_cons | apply List.Sublist.cons))) ?_
        refine hgo 31 rfl (by kernel_rfl) ?_
        refine st_callg rfl z_call23 rfl rfl rfl rfl H102 (dprovesM (Merk.root (l.take 100)) (Merk.root_len _) ((l.take 100).length : Int) (i : Int) (by omega) (by omega) ((l.take 100).getD i []) (by omega) (Merk.proof (l.take 100) i ++ [(List.replicate 32 (0 : UInt8))]) (H32.append (Merk.proof_32 _ _) (H32.one rfl)) (by rw [List.length_append, List.length_singleton]; omega) _ _ _ (by simp) (by rw [hc_append, hc_one]; exact Rd.ofSep (rd_row (by repeat (first | exact List.Mem.head _ | apply List.Mem.tail))) H102.sep) (hG.frm H102.sep.frm (by simp))) ?_
        clear H102; intro a103 wx103 H103
        refine hfin (H103.sep.sub (by first | exact List.nil_sublist _ | exact List.Sublist.refl _ | repeat (first | exact List.Sublist.refl _ | exact List.nil_sublist _ | apply List.Sublist.cons_cons | apply List.Sublist.cons))) ?_
        refine htake 32 rfl (by kernel_rfl) (y_not rfl rfl) rfl rfl rfl (fun _ h => (h.sub (by first | exact List.nil_sublist _ | exact List.Sublist.refl _ | repeat (first | exact List.Sublist.refl _ | exact List.nil_sublist _ | apply List.Sublist.cons_cons | apply List.Sublist.cons)))) H103 ?_
        clear H103; intro a104 H104
        refine htake 33 rfl (by kernel_rfl) (y_pick_t rfl rfl rfl) rfl rfl rfl (fun _ h => (h.sub (by first | exact List.nil_sublist _ | exact List.Sublist.refl _ | repeat (first | exact List.Sublist.refl _ | exact List.nil_sublist _ | apply List.Sublist.cons_cons | apply List.Sublist.cons)))) H104 ?_
        clear H104; intro a105 H105
        refine htake 34 rfl (by kernel_rfl) (y_assign rfl rfl) rfl rfl rfl (fun _ h => (h.sub (by first | exact List.nil_sublist _ | exact List.Sublist.refl _ | repeat (first | exact List.Sublist.refl _ | exact List.nil_sublist _ | apply List.Sublist.cons_cons | apply List.Sublist.cons)))) H105 ?_
        clear H105; intro a106 H106
        refine hdone (by kernel_rfl) ?_
        refine then_n ?_
        refine wp_ret ?_
        -- return 6
        refine ret1 rfl H106 rfl ?_
        exact ⟨_, [], rfl, ⟨by rw [Merk.proves_more]; rfl, rfl⟩, H106.sep.sub (List.nil_sublist _)⟩
    · skip
      refine st_buildSlice rfl Tryd.underlying38 z_size23 z_zero23 rfl rfl rfl (lay_agg (vs := (List.replicate 32 (0 : UInt8)).map u8) rfl (by rfl) (by simp)) rfl rfl rfl H58 ?_
      clear H58; intro b107 a107 wx107 H107
      refine hfin (H107.sep.sub (by first | exact List.nil_sublist _ | exact List.Sublist.refl _ | repeat (first | exact List.Sublist.refl _ | exact List.nil_sublist _ | apply List.Sublist.cons_cons | apply List.Sublist.cons))) ?_
      refine hgo2 17 25 rfl rfl (by kernel_rfl) ?_ ?_
      · skip
        refine st_callg rfl z_call29 rfl rfl rfl rfl H107 (droot (l.take 100) _ _ _ _ rfl hlc (fun x hx => hb x (List.mem_of_mem_take hx)) (by omega) (by rw [List.map_take]; exact (Rd.frm hR H107.sep.frm (by simp)).take _) (hG.frm H107.sep.frm (by simp))) ?_
        clear H107; intro a108 wx108 H108
        refine hfin (H108.sep.sub (by first | exact List.nil_sublist _ | exact List.Sublist.refl _ | repeat (first | exact List.Sublist.refl _ | exact List.nil_sublist _ | apply List.Sublist.cons_cons | apply List.Sublist.cons))) ?_
        refine hgo 25 rfl (by kernel_rfl) ?_
        refine st_buildSlice rfl Tryd.underlying38 z_size23 z_zero23 rfl rfl rfl (show _ = some [] from rfl) rfl rfl rfl H108 ?_
        clear H108; intro b109 a109 wx109 H109
        refine hfin (H109.sep.sub (by first | exact List.nil_sublist _ | exact List.Sublist.refl _ | repeat (first | exact List.Sublist.refl _ | exact List.nil_sublist _ | apply List.Sublist.cons_cons | apply List.Sublist.cons))) ?_
        refine hgo 27 rfl (by kernel_rfl) ?_
        replace H109 := H109.asRow (b := b109) (size := 32) (m := 0) (by repeat (first | exact Upd.head _ _ _ | apply Upd.tail)) rfl (by unfold maxLen; omega)
        refine st_append rfl z_slice38 z_notint38 rfl rfl (fun _ => (by repeat (first | exact Upd.head _ _ _ | apply Upd.tail))) (fun w hs => Src.slice ((rd_row (by repeat (first | exact List.Mem.head _ | apply List.Mem.tail))) w hs) (hc_len (Merk.proof_32 _ _)) (hc_cell _)) (by unfold maxLen; omega) (by omega) rfl rfl rfl H109 ?_
        clear H109; intro v110 a110 wx110 hnil110 H110
        refine hfin (H110.sep.sub (by first | exact List.nil_sublist _ | exact List.Sublist.refl _ | repeat (first | exact List.Sublist.refl _ | exact List.nil_sublist _ | apply List.Sublist.cons_cons | apply List.Sublist.cons))) ?_
        refine hgo 30 rfl (by kernel_rfl) ?_
        refine st_append rfl z_slice38 z_notint38 rfl rfl (fun _ => (by repeat (first | exact Upd.head _ _ _ | apply Upd.tail))) (fun w hs => Src.slice ((rd_blkA (by repeat (first | exact List.Mem.head _ | apply List.Mem.tail))) w hs) (by rfl) (by simp [Value.oneCell'])) (by unfold maxLen; omega) (by omega) rfl rfl rfl H110 ?_
        clear H110; intro v111 a111 wx111 hnil111 H111
        obtain ⟨Aq, cq, hvq, hRq, hmq⟩ := row_shape (v := v111) H111.sep (by repeat (first | exact List.Mem.head _ | apply List.Mem.tail))
        subst hvq
        refine hfin (H111.sep.sub (by first | exact List.nil_sublist _ | exact List.Sublist.refl _ | repeat (first | exact List.Sublist.refl _ | exact List.nil_sublist _ | apply List.Sublist.cons_cons | apply List.Sublist.cons))) ?_
        refine hgo 31 rfl (by kernel_rfl) ?_
        refine st_callg rfl z_call23 rfl rfl rfl rfl H111 (dprovesM (Merk.root (l.take 100)) (Merk.root_len _) ((l.take 100).length : Int) (i : Int) (by omega) (by omega) ((l.take 100).getD i []) (by omega) (Merk.proof (l.take 100) i ++ [(List.replicate 32 (0 : UInt8))]) (H32.append (Merk.proof_32 _ _) (H32.one rfl)) (by rw [List.length_append, List.length_singleton]; omega) _ _ _ (by simp) (by rw [hc_append, hc_one]; exact Rd.ofSep (rd_row (by repeat (first | exact List.Mem.head _ | apply List.Mem.tail))) H111.sep) (hG.frm H111.sep.frm (by simp))) ?_
        clear H111; intro a112 wx112 H112
        refine hfin (H112.sep.sub (by first | exact List.nil_sublist _ | exact List.Sublist.refl _ | repeat (first | exact List.Sublist.refl _ | exact List.nil_sublist _ | apply List.Sublist.cons_cons | apply List.Sublist.cons))) ?_
        refine htake 32 rfl (by kernel_rfl) (y_not rfl rfl) rfl rfl rfl (fun _ h => (h.sub (by first | exact List.nil_sublist _ | exact List.Sublist.refl _ | repeat (first | exact List.Sublist.refl _ | exact List.nil_sublist _ | apply List.Sublist.cons_cons | apply List.Sublist.cons)))) H112 ?_
        clear H112; intro a113 H113
        refine htake 33 rfl (by kernel_rfl) (y_pick_t rfl rfl rfl) rfl rfl rfl (fun _ h => (h.sub (by first | exact List.nil_sublist _ | exact List.Sublist.refl _ | repeat (first | exact List.Sublist.refl _ | exact List.nil_sublist _ | apply List.Sublist.cons_cons | apply List.Sublist.cons)))) H113 ?_
        clear H113; intro a114 H114
        refine htake 34 rfl (by kernel_rfl) (y_assign rfl rfl) rfl rfl rfl (fun _ h => (h.sub (by first | exact List.nil_sublist _ | exact List.Sublist.refl _ | repeat (first | exact List.Sublist.refl _ | exact List.nil_sublist _ | apply List.Sublist.cons_cons | apply List.Sublist.cons)))) H114 ?_
        clear H114; intro a115 H115
        refine hdone (by kernel_rfl) ?_
        refine then_n ?_
        refine wp_ret ?_
        -- return 7
        refine ret1 rfl H115 rfl ?_
        exact ⟨_, [], rfl, ⟨by rw [Merk.proves_more]; rfl, rfl⟩, H115.sep.sub (List.nil_sublist _)⟩
      · skip
        refine st_buildSlice rfl Tryd.underlying38 z_size23 z_zero23 rfl rfl rfl (show _ = some [] from rfl) rfl rfl rfl H107 ?_
        clear H107; intro b116 a116 wx116 H116
        refine hfin (H116.sep.sub (by first | exact List.nil_sublist _ | exact List.Sublist.refl _ | repeat (first | exact List.Sublist.refl _ | exact List.nil_sublist _ | apply List.Sublist.cons_cons | apply List.Sublist.cons))) ?_
        refine hgo 17 rfl (by kernel_rfl) ?_
        refine st_callg rfl z_call29 rfl rfl rfl rfl H116 (droot (l.take 100) _ _ _ _ rfl hlc (fun x hx => hb x (List.mem_of_mem_take hx)) (by omega) (by rw [List.map_take]; exact (Rd.frm hR H116.sep.frm (by simp)).take _) (hG.frm H116.sep.frm (by simp))) ?_
        clear H116; intro a117 wx117 H117
        refine hfin (H117.sep.sub (by first | exact List.nil_sublist _ | exact List.Sublist.refl _ | repeat (first | exact List.Sublist.refl _ | exact List.nil_sublist _ | apply List.Sublist.cons_cons | apply List.Sublist.cons))) ?_
        refine hgo 27 rfl (by kernel_rfl) ?_
        replace H117 := H117.asRow (b := b116) (size := 32) (m := 0) (by repeat (first | exact Upd.head _ _ _ | apply Upd.tail)) rfl (by unfold maxLen; omega)
        refine st_append rfl z_slice38 z_notint38 rfl rfl (fun _ => (by repeat (first | exact Upd.head _ _ _ | apply Upd.tail))) (fun w hs => Src.slice ((rd_row (by repeat (first | exact List.Mem.head _ | apply List.Mem.tail))) w hs) (hc_len (Merk.proof_32 _ _)) (hc_cell _)) (by unfold maxLen; omega) (by omega) rfl rfl rfl H117 ?_
        clear H117; intro v118 a118 wx118 hnil118 H118
        refine hfin (H118.sep.sub (by first | exact List.nil_sublist _ | exact List.Sublist.refl _ | repeat (first | exact List.Sublist.refl _ | exact List.nil_sublist _ | apply List.Sublist.cons_cons | apply List.Sublist.cons))) ?_
        refine hgo 30 rfl (by kernel_rfl) ?_
        refine st_append rfl z_slice38 z_notint38 rfl rfl (fun _ => (by repeat (first | exact Upd.head _ _ _ | apply Upd.tail))) (fun w hs => Src.slice ((rd_blkA (by repeat (first | exact List.Mem.head _ | apply List.Mem.tail))) w hs) (by rfl) (by simp [Value.oneCell'])) (by unfold maxLen; omega) (by omega) rfl rfl rfl H118 ?_
        clear H118; intro v119 a119 wx119 hnil119 H119
        obtain ⟨Aq, cq, hvq, hRq, hmq⟩ := row_shape (v := v119) H119.sep (by repeat (first | exact List.Mem.head _ | apply List.Mem.tail))
        subst hvq
        refine hfin (H119.sep.sub (by first | exact List.nil_sublist _ | exact List.Sublist.refl _ | repeat (first | exact List.Sublist.refl _ | exact List.nil_sublist _ | apply List.Sublist.cons_cons | apply List.Sublist.cons))) ?_
        refine hgo 31 rfl (by kernel_rfl) ?_
        refine st_callg rfl z_call23 rfl rfl rfl rfl H119 (dprovesM (Merk.root (l.take 100)) (Merk.root_len _) ((l.take 100).length : Int) (i : Int) (by omega) (by omega) ((l.take 100).getD i []) (by omega) (Merk.proof (l.take 100) i ++ [(List.replicate 32 (0 : UInt8))]) (H32.append (Merk.proof_32 _ _) (H32.one rfl)) (by rw [List.length_append, List.length_singleton]; omega) _ _ _ (by simp) (by rw [hc_append, hc_one]; exact Rd.ofSep (rd_row (by repeat (first | exact List.Mem.head _ | apply List.Mem.tail))) H119.sep) (hG.frm H119.sep.frm (by simp))) ?_
        clear H119; intro a120 wx120 H120
        refine hfin (H120.sep.sub (by first | exact List.nil_sublist _ | exact List.Sublist.refl _ | repeat (first | exact List.Sublist.refl _ | exact List.nil_sublist _ | apply List.Sublist.cons_cons | apply List.Sublist.cons))) ?_
        refine htake 32 rfl (by kernel_rfl) (y_not rfl rfl) rfl rfl rfl (fun _ h => (h.sub (by first | exact List.nil_sublist _ | exact List.Sublist.refl _ | repeat (first | exact List.Sublist.refl _ | exact List.nil_sublist _ | apply List.Sublist.cons_cons | apply List.Sublist.cons)))) H120 ?_
        clear H120; intro a121 H121
        refine htake 33 rfl (by kernel_rfl) (y_pick_t rfl rfl rfl) rfl rfl rfl (fun _ h => (h.sub (by first | exact List.nil_sublist _ | exact List.Sublist.refl _ | repeat (first | exact List.Sublist.refl _ | exact List.nil_sublist _ | apply List.Sublist.cons_cons | apply List.Sublist.cons)))) H121 ?_
        clear H121; intro a122 H122
        refine htake 34 rfl (by kernel_rfl) (y_assign rfl rfl) rfl rfl rfl (fun _ h => (h.sub (by first | exact List.nil_sublist _ | exact List.Sublist.refl _ | repeat (first | exact List.Sublist.refl _ | exact List.nil_sublist _ | apply List.Sublist.cons_cons | apply List.Sublist.cons)))) H122 ?_
        clear H122; intro a123 H123
        refine hdone (by kernel_rfl) ?_
        refine then_n ?_
        refine wp_ret ?_
        -- return 8
        refine ret1 rfl H123 rfl ?_
        exact ⟨_, [], rfl, ⟨by rw [Merk.proves_more]; rfl, rfl⟩, H123.sep.sub (List.nil_sublist _)⟩
set_option maxRecDepth 100000 in
set_option maxHeartbeats 2000000 in
theorem showsOut (l : List (List UInt8)) (A : Option Addr) (c : Nat) (hcl : l.length ≤ c) (hb : ∀ x ∈ l, x.length ≤ 140737488351232) (hl : l.length ≤ 9223372036854775807) (i : Int) (hi : i < 0 ∨ ((l.take 100).length : Int) ≤ i) {w : World} (hR : Rd w A (l.map str)) (hG : Glob 0 Sha.K w) : Calls Tryd.prog 11 #[.slice A l.length c, .int .i64 i] w (Gives (.bool true) [] w) := by
  have hll : (l.take 100).length ≤ 100 := by rw [List.length_take]; omega
  have hlc : (l.take 100).length ≤ c := by rw [List.length_take]; omega
  have hRt : Rd w A ((l.take 100).map str) := by rw [List.map_take]; exact hR.take _
  refine enterL (args := [.slice A l.length c, .int .i64 i]) Tryd.func11 rfl rfl (l := []) (Sep.refl _) ?_
  intro a0 H0
  refine wp_seq ?_
  refine reg ?_
  refine plain (y_assign rfl rfl) rfl rfl rfl H0 ?_
  clear H0; intro a1 H1
  refine fin ?_
  refine then_n ?_
  refine wp_seq ?_
  refine reg ?_
  refine plain (y_move rfl rfl) rfl rfl rfl H1 ?_
  clear H1; intro a2 H2
  refine st_callg rfl z_call27 rfl rfl rfl rfl H2 (dfew l A _ c rfl hcl hl _) ?_
  clear H2; intro a3 wx3 H3
  refine plain (y_assign rfl rfl) rfl rfl rfl H3 ?_
  clear H3; intro a4 H4
  refine fin ?_
  refine then_n ?_
  refine wp_seq ?_
  refine wp_seq ?_
  refine reg ?_
  refine st_callg rfl z_call20 rfl rfl rfl rfl H4 (awake2 (hG.frm H4.sep.frm (by simp))) ?_
  clear H4; intro a5 wx5 H5
  refine plain (y_not rfl rfl) rfl rfl rfl H5 ?_
  clear H5; intro a6 H6
  refine plain (y_move rfl rfl) rfl rfl rfl H6 ?_
  clear H6; intro a7 H7
  refine plain (y_move rfl rfl) rfl rfl rfl H7 ?_
  clear H7; intro a8 H8
  refine plain (y_lss rfl rfl rfl) rfl rfl rfl H8 ?_
  clear H8; intro a9 H9
  refine plain (y_pick_f rfl rfl rfl) rfl rfl rfl H9 ?_
  clear H9; intro a10 H10
  refine plain (y_move rfl rfl) rfl rfl rfl H10 ?_
  clear H10; intro a11 H11
  refine part_d (d := 15) H11 rfl (fun hg12 => ?_) (fun hg12 => ?_)
  · first
    | fail
    | skip
      clear H11; intro H13
      refine skip rfl rfl rfl H13 ?_
      clear H13; intro a14 H14
      refine skip rfl rfl rfl H14 ?_
      clear H14; intro a15 H15
      refine skip rfl rfl rfl H15 ?_
      clear H15; intro a16 H16
      refine skip rfl rfl rfl H16 ?_
      clear H16; intro a17 H17
      refine plain (y_pick_t rfl rfl rfl) rfl rfl rfl H17 ?_
      clear H17; intro a18 H18
      refine fin ?_
      refine then_n ?_
      refine cnd_t H18 rfl ?_
      refine wp_seq ?_
      refine reg ?_
      refine st_callg rfl z_call20 rfl rfl rfl rfl H18 (awake2 (hG.frm H18.sep.frm (by simp))) ?_
      clear H18; intro a20 wx20 H20
      refine plain (y_assign rfl rfl) rfl rfl rfl H20 ?_
      clear H20; intro a21 H21
      refine fin ?_
      refine then_n ?_
      refine wp_ret ?_
      refine then_r ?_
      -- return 1
      refine ret1 rfl H21 rfl ?_
      exact ⟨_, [], rfl, ⟨rfl, rfl⟩, H21.sep.sub (List.nil_sublist _)⟩
  · first
    | fail
    | skip
      clear H11; intro H22
      refine plain (y_move rfl rfl) rfl rfl rfl H22 ?_
      clear H22; intro a23 H23
      refine plain (y_move rfl rfl) rfl rfl rfl H23 ?_
      clear H23; intro a24 H24
      refine plain (y_len rfl Tryd.underlying46 rfl) rfl rfl rfl H24 ?_
      clear H24; intro a25 H25
      refine plain (y_geq rfl rfl rfl) rfl rfl rfl H25 ?_
      clear H25; intro a26 H26
      refine plain (y_pick_f rfl rfl rfl) rfl rfl rfl H26 ?_
      clear H26; intro a27 H27
      refine fin ?_
      refine then_n ?_
      refine cnd_d H27 rfl (fun hc28 => ?_) (fun hc28 => ?_) -- cond 2
      · skip
        refine wp_seq ?_
        refine reg ?_
        refine st_callg rfl z_call20 rfl rfl rfl rfl H27 (awake2 (hG.frm H27.sep.frm (by simp))) ?_
        clear H27; intro a29 wx29 H29
        refine plain (y_assign rfl rfl) rfl rfl rfl H29 ?_
        clear H29; intro a30 H30
        refine fin ?_
        refine then_n ?_
        refine wp_ret ?_
        refine then_r ?_
        -- return 2
        refine ret1 rfl H30 rfl ?_
        exact ⟨_, [], rfl, ⟨rfl, rfl⟩, H30.sep.sub (List.nil_sublist _)⟩
      · (exfalso; omega)
theorem digestShows (l : List (List UInt8)) (A : Option Addr) (c : Nat) (hcl : l.length ≤ c) (hb : ∀ x ∈ l, x.length ≤ 140737488351232) (hl : l.length ≤ 9223372036854775807) (i : Int) {w : World} (hR : Rd w A (l.map str)) (hG : Glob 0 Sha.K w) : Calls Tryd.prog 11 #[.slice A l.length c, .int .i64 i] w (Gives (.bool true) [] w) := by
  by_cases hi : i < 0 ∨ ((l.take 100).length : Int) ≤ i
  · exact showsOut l A c hcl hb hl i hi hR hG
  · obtain ⟨j, rfl⟩ := Int.eq_ofNat_of_zero_le (show 0 ≤ i by omega)
    exact showsIn l A c hcl hb hl j (by omega) hR hG

end Go.Proofs.YtbadncpjbdfinaaDoor.D_LShows
