/- Part of a proof about given Go functions: contracts of functions, or plain laws. -/
import Derived.Test.YtbadncpjbdfinaaDoorSxW
import Derived.Test.YtbadncpjbdfinaaDoorSxI
import Derived.Test.YtbadncpjbdfinaaDoorSha
import Derived.Test.YtbadncpjbdfinaaDoorShaAbc
import Derived.Test.YtbadncpjbdfinaaDoorSxX
import Derived.Test.YtbadncpjbdfinaaDoorSxY
import Derived.Test.YtbadncpjbdfinaaDoorMerk
import Derived.Test.YtbadncpjbdfinaaDoorOct2
import Derived.Test.YtbadncpjbdfinaaDoorSxZ
import Derived.Test.YtbadncpjbdfinaaDoorMerk2
import Derived.Test.YtbadncpjbdfinaaDoorMerkV
import Derived.Test.YtbadncpjbdfinaaDoorProg
import Derived.Test.YtbadncpjbdfinaaDoorDBlock
import Derived.Test.YtbadncpjbdfinaaDoorDSum
import Derived.Test.YtbadncpjbdfinaaDoorDRef
import Derived.Test.YtbadncpjbdfinaaDoorDRSum
import Derived.Test.YtbadncpjbdfinaaDoorDLeaf
import Derived.Test.YtbadncpjbdfinaaDoorDRoot
import Derived.Test.YtbadncpjbdfinaaDoorDRoot2
import Derived.Test.YtbadncpjbdfinaaDoorDProof
import Derived.Test.YtbadncpjbdfinaaDoorDRProof
import Derived.Test.YtbadncpjbdfinaaDoorDLaw
import Derived.Test.YtbadncpjbdfinaaDoorDProves
import Derived.Test.YtbadncpjbdfinaaDoorDRProves
set_option linter.unusedVariables false
set_option linter.unusedSimpArgs false
namespace Go.Proofs.YtbadncpjbdfinaaDoor.D_LProves
open Go.Sx Go.RowKit Go.Proofs.YtbadncpjbdfinaaDoor.D_Block Go.Proofs.YtbadncpjbdfinaaDoor.D_Sum Go.Proofs.YtbadncpjbdfinaaDoor.D_Ref Go.Proofs.YtbadncpjbdfinaaDoor.D_RSum Go.Proofs.YtbadncpjbdfinaaDoor.D_Leaf Go.Proofs.YtbadncpjbdfinaaDoor.D_Root Go.Proofs.YtbadncpjbdfinaaDoor.D_Root2 Go.Proofs.YtbadncpjbdfinaaDoor.D_Proof Go.Proofs.YtbadncpjbdfinaaDoor.D_RProof Go.Proofs.YtbadncpjbdfinaaDoor.D_Law Go.Proofs.YtbadncpjbdfinaaDoor.D_Proves Go.Proofs.YtbadncpjbdfinaaDoor.D_RProves

theorem z_call20 : callB Tryd.prog 20 = true := by kernel_rfl
theorem z_field40_0 : fieldB Tryd.prog 40 0 = some 0 := by kernel_rfl
theorem z_agg23 : aggB Tryd.prog 23 = some true := by kernel_rfl
theorem z_size23 : sizeB Tryd.prog 23 = some 32 := by kernel_rfl
theorem z_field40_1 : fieldB Tryd.prog 40 1 = some 32 := by kernel_rfl
theorem z_agg3 : aggB Tryd.prog 3 = some false := by kernel_rfl
theorem z_field40_2 : fieldB Tryd.prog 40 2 = some 33 := by kernel_rfl
theorem z_field40_3 : fieldB Tryd.prog 40 3 = some 34 := by kernel_rfl
theorem z_agg9 : aggB Tryd.prog 9 = some false := by kernel_rfl
theorem z_field40_4 : fieldB Tryd.prog 40 4 = some 35 := by kernel_rfl
theorem z_agg38 : aggB Tryd.prog 38 = some false := by kernel_rfl
theorem z_call23 : callB Tryd.prog 23 = true := by kernel_rfl
theorem z_call24 : callB Tryd.prog 24 = true := by kernel_rfl

set_option maxRecDepth 100000 in
set_option maxHeartbeats 2000000 in
theorem digestProves (x : Merk.Case) {w : World} (wf : Merk.Wf w x) (hG : Glob 0 Sha.K w) : Calls Tryd.prog 8 #[.agg (Merk.cells x).toArray] w (Gives (.bool true) [] w) := by
  refine enterL (args := [.agg (Merk.cells x).toArray]) Tryd.func8 rfl rfl (l := []) (Sep.refl _) ?_
  intro a0 H0
  refine wp_seq ?_
  refine reg ?_
  refine st_box rfl rfl rfl rfl rfl rfl H0 ?_
  clear H0; intro b1 a1 wx1 H1
  refine plain (y_assign rfl rfl) rfl rfl rfl H1 ?_
  clear H1; intro a2 H2
  refine fin ?_
  refine then_n ?_
  refine wp_seq ?_
  refine qreg (by kernel_rfl) (by kernel_rfl) H2 ?_
  have F3 := H2.fr
  clear H2
  refine qcallg rfl z_call20 rfl rfl rfl rfl F3 (fun w hs => (awake2 (hG.frm hs.frm (by simp)))) ?_
  clear F3; intro a4 H4
  refine qplain (y_move rfl rfl) rfl rfl rfl H4 ?_
  clear H4; intro a5 H5
  refine qplain (y_fieldB rfl z_field40_0 rfl (by first | (simp only [Nat.zero_add, Nat.add_zero, Nat.reduceAdd]; rfl) | rfl)) rfl rfl rfl H5 ?_
  clear H5; intro a6 H6
  refine qplain (y_loadAB rfl z_agg23 z_size23 rfl (by repeat (first | exact List.Mem.head _ | apply List.Mem.tail)) (Merk.cells_root wf) (by rw [List.length_map, wf.1])) rfl rfl rfl H6 ?_
  clear H6; intro a7 H7
  refine qplain (y_fieldB rfl z_field40_1 rfl (by first | (simp only [Nat.zero_add, Nat.add_zero, Nat.reduceAdd]; rfl) | rfl)) rfl rfl rfl H7 ?_
  clear H7; intro a8 H8
  refine qplain (y_loadB rfl z_agg3 rfl (by repeat (first | exact List.Mem.head _ | apply List.Mem.tail)) ((Merk.cells_at wf 0).trans rfl)) rfl rfl rfl H8 ?_
  clear H8; intro a9 H9
  refine qplain (y_fieldB rfl z_field40_2 rfl (by first | (simp only [Nat.zero_add, Nat.add_zero, Nat.reduceAdd]; rfl) | rfl)) rfl rfl rfl H9 ?_
  clear H9; intro a10 H10
  refine qplain (y_loadB rfl z_agg3 rfl (by repeat (first | exact List.Mem.head _ | apply List.Mem.tail)) ((Merk.cells_at wf 1).trans rfl)) rfl rfl rfl H10 ?_
  clear H10; intro a11 H11
  refine qplain (y_fieldB rfl z_field40_3 rfl (by first | (simp only [Nat.zero_add, Nat.add_zero, Nat.reduceAdd]; rfl) | rfl)) rfl rfl rfl H11 ?_
  clear H11; intro a12 H12
  refine qplain (y_loadB rfl z_agg9 rfl (by repeat (first | exact List.Mem.head _ | apply List.Mem.tail)) ((Merk.cells_at wf 2).trans rfl)) rfl rfl rfl H12 ?_
  clear H12; intro a13 H13
  refine qplain (y_fieldB rfl z_field40_4 rfl (by first | (simp only [Nat.zero_add, Nat.add_zero, Nat.reduceAdd]; rfl) | rfl)) rfl rfl rfl H13 ?_
  clear H13; intro a14 H14
  refine qplain (y_loadB rfl z_agg38 rfl (by repeat (first | exact List.Mem.head _ | apply List.Mem.tail)) ((Merk.cells_at wf 3).trans rfl)) rfl rfl rfl H14 ?_
  clear H14; intro a15 H15
  refine qcallg rfl z_call23 rfl rfl rfl rfl H15 (fun w hs => (dproves x.root wf.1 x.n x.i wf.2.1.2 wf.2.2.1.1 x.s (by have := wf.2.2.2.1; omega) x.p wf.2.2.2.2.2.2.1 wf.2.2.2.2.2.1 x.A x.c (Rd.frm wf.2.2.2.2.2.2.2 hs.frm (by simp)) (hG.frm hs.frm (by simp)))) ?_
  clear H15; intro a16 H16
  refine qplain (y_fieldB rfl z_field40_0 rfl (by first | (simp only [Nat.zero_add, Nat.add_zero, Nat.reduceAdd]; rfl) | rfl)) rfl rfl rfl H16 ?_
  clear H16; intro a17 H17
  refine qplain (y_loadAB rfl z_agg23 z_size23 rfl (by repeat (first | exact List.Mem.head _ | apply List.Mem.tail)) (Merk.cells_root wf) (by rw [List.length_map, wf.1])) rfl rfl rfl H17 ?_
  clear H17; intro a18 H18
  refine qplain (y_fieldB rfl z_field40_1 rfl (by first | (simp only [Nat.zero_add, Nat.add_zero, Nat.reduceAdd]; rfl) | rfl)) rfl rfl rfl H18 ?_
  clear H18; intro a19 H19
  refine qplain (y_loadB rfl z_agg3 rfl (by repeat (first | exact List.Mem.head _ | apply List.Mem.tail)) ((Merk.cells_at wf 0).trans rfl)) rfl rfl rfl H19 ?_
  clear H19; intro a20 H20
  refine qplain (y_fieldB rfl z_field40_2 rfl (by first | (simp only [Nat.zero_add, Nat.add_zero, Nat.reduceAdd]; rfl) | rfl)) rfl rfl rfl H20 ?_
  clear H20; intro a21 H21
  refine qplain (y_loadB rfl z_agg3 rfl (by repeat (first | exact List.Mem.head _ | apply List.Mem.tail)) ((Merk.cells_at wf 1).trans rfl)) rfl rfl rfl H21 ?_
  clear H21; intro a22 H22
  refine qplain (y_fieldB rfl z_field40_3 rfl (by first | (simp only [Nat.zero_add, Nat.add_zero, Nat.reduceAdd]; rfl) | rfl)) rfl rfl rfl H22 ?_
  clear H22; intro a23 H23
  refine qplain (y_loadB rfl z_agg9 rfl (by repeat (first | exact List.Mem.head _ | apply List.Mem.tail)) ((Merk.cells_at wf 2).trans rfl)) rfl rfl rfl H23 ?_
  clear H23; intro a24 H24
  refine qplain (y_fieldB rfl z_field40_4 rfl (by first | (simp only [Nat.zero_add, Nat.add_zero, Nat.reduceAdd]; rfl) | rfl)) rfl rfl rfl H24 ?_
  clear H24; intro a25 H25
  refine qplain (y_loadB rfl z_agg38 rfl (by repeat (first | exact List.Mem.head _ | apply List.Mem.tail)) ((Merk.cells_at wf 3).trans rfl)) rfl rfl rfl H25 ?_
  clear H25; intro a26 H26
  refine qcallg rfl z_call24 rfl rfl rfl rfl H26 (fun w hs => (rproves x.root wf.1 x.n x.i wf.2.1.2 wf.2.2.1.1 x.s wf.2.2.2.1 x.p wf.2.2.2.2.2.2.1 wf.2.2.2.2.2.1 x.A x.c wf.2.2.2.2.1 (Rd.frm wf.2.2.2.2.2.2.2 hs.frm (by simp)))) ?_
  clear H26; intro a27 H27
  refine qplain (y_beql rfl Tryd.underlying4 rfl rfl) rfl rfl rfl H27 ?_
  clear H27; intro a28 H28
  refine qplain (y_pick_t rfl rfl rfl) rfl rfl rfl H28 ?_
  clear H28; intro a29 H29
  refine qplain (y_assign rfl rfl) rfl rfl rfl H29 ?_
  clear H29; intro a30 H30
  refine qfin H30 ?_
  clear H30; intro wx31 H31
  refine then_n ?_
  refine wp_ret ?_
  -- return 1
  refine ret1 rfl H31 rfl ?_
  exact ⟨_, [], rfl, ⟨by rw [beq_self_eq_true], rfl⟩, H31.sep.sub (List.nil_sublist _)⟩

end Go.Proofs.YtbadncpjbdfinaaDoor.D_LProves
