/- Part of a proof about given Go functions: contracts of functions, or plain laws. -/
import Derived.Test.YtbadncpjbdfinaaDoorSxW
import Derived.Test.YtbadncpjbdfinaaDoorSxI
import Derived.Test.YtbadncpjbdfinaaDoorSha
import Derived.Test.YtbadncpjbdfinaaDoorProg
import Derived.Test.YtbadncpjbdfinaaDoorDBlock
import Derived.Test.YtbadncpjbdfinaaDoorDSum
import Derived.Test.YtbadncpjbdfinaaDoorDRef
import Derived.Test.YtbadncpjbdfinaaDoorDRSum
import Derived.Test.YtbadncpjbdfinaaDoorDLeaf
import Derived.Test.YtbadncpjbdfinaaDoorShaAbc
import Derived.Test.YtbadncpjbdfinaaDoorSxX
import Derived.Test.YtbadncpjbdfinaaDoorSxY
import Derived.Test.YtbadncpjbdfinaaDoorMerk
import Derived.Test.YtbadncpjbdfinaaDoorOct2
import Derived.Test.YtbadncpjbdfinaaDoorSxZ
import Derived.Test.YtbadncpjbdfinaaDoorMerk2
import Derived.Test.YtbadncpjbdfinaaDoorDRoot
import Derived.Test.YtbadncpjbdfinaaDoorDRoot2
import Derived.Test.YtbadncpjbdfinaaDoorDProof
import Derived.Test.YtbadncpjbdfinaaDoorDRProof
import Derived.Test.YtbadncpjbdfinaaDoorDLaw
set_option linter.unusedVariables false
set_option linter.unusedSimpArgs false
namespace Go.Proofs.YtbadncpjbdfinaaDoor.D_LRoots
open Go.Sx Go.RowKit Go.Proofs.YtbadncpjbdfinaaDoor.D_Block Go.Proofs.YtbadncpjbdfinaaDoor.D_Sum Go.Proofs.YtbadncpjbdfinaaDoor.D_Ref Go.Proofs.YtbadncpjbdfinaaDoor.D_RSum Go.Proofs.YtbadncpjbdfinaaDoor.D_Leaf Go.Proofs.YtbadncpjbdfinaaDoor.D_Root Go.Proofs.YtbadncpjbdfinaaDoor.D_Root2 Go.Proofs.YtbadncpjbdfinaaDoor.D_Proof Go.Proofs.YtbadncpjbdfinaaDoor.D_RProof Go.Proofs.YtbadncpjbdfinaaDoor.D_Law

theorem z_call27 : callB Tryd.prog 27 = true := by kernel_rfl
theorem z_call28 : callB Tryd.prog 28 = true := by kernel_rfl
theorem z_call20 : callB Tryd.prog 20 = true := by kernel_rfl
theorem z_call29 : callB Tryd.prog 29 = true := by kernel_rfl
theorem z_call30 : callB Tryd.prog 30 = true := by kernel_rfl
theorem z_size5 : sizeB Tryd.prog 5 = some 1 := by kernel_rfl
theorem z_call32 : callB Tryd.prog 32 = true := by kernel_rfl
theorem z_call31 : callB Tryd.prog 31 = true := by kernel_rfl

set_option maxRecDepth 100000 in
set_option maxHeartbeats 2000000 in
theorem rootsIn (l : List (List UInt8)) (A : Option Addr) (c : Nat) (hcl : l.length ≤ c) (hb : ∀ x ∈ l, x.length ≤ 140737488351232) (hl : l.length ≤ 9223372036854775807) (i : Nat) (hi : i < (l.take 100).length) {w : World} (hR : Rd w A (l.map str)) (hG : Glob 0 Sha.K w) : Calls Tryd.prog 10 #[.slice A l.length c, .int .i64 (i : Int)] w (Gives (.bool true) [] w) := by
  have hll : (l.take 100).length ≤ 100 := by rw [List.length_take]; omega
  have hlc : (l.take 100).length ≤ c := by rw [List.length_take]; omega
  refine enterL (args := [.slice A l.length c, .int .i64 (i : Int)]) Tryd.func10 rfl rfl (l := []) (Sep.refl _) ?_
  intro a0 H0
  refine wp_seq ?_
  refine reg ?_
  refine plain (y_assign rfl rfl) rfl rfl rfl H0 ?_
  clear H0; intro a1 H1
  refine fin ?_
  refine then_n ?_
  refine wp_seq ?_
  refine reg ?_
  refine plain (y_move rfl rfl) rfl rfl rfl H1 ?_
  clear H1; intro a2 H2
  refine st_callg rfl z_call27 rfl rfl rfl rfl H2 (dfew l A _ c rfl hcl hl _) ?_
  clear H2; intro a3 w3 H3
  refine plain (y_assign rfl rfl) rfl rfl rfl H3 ?_
  clear H3; intro a4 H4
  refine fin ?_
  refine then_n ?_
  refine wp_seq ?_
  refine reg ?_
  refine plain (y_move rfl rfl) rfl rfl rfl H4 ?_
  clear H4; intro a5 H5
  refine plain (y_move rfl rfl) rfl rfl rfl H5 ?_
  clear H5; intro a6 H6
  refine st_call rfl z_call28 rfl rfl rfl rfl H6 (dproof (l.take 100) A c hlc (fun x hx => hb x (List.mem_of_mem_take hx)) (by omega) i hi (by rw [List.map_take]; exact (Rd.frm hR H6.sep.frm (by simp)).take _) (hG.frm H6.sep.frm (by simp))) ?_
  clear H6; intro v7 l7 a7 w7 hf7 H7
  obtain ⟨vp, rfl, rfl⟩ := hf7
  simp only [List.cons_append, List.nil_append] at H7
  obtain ⟨Ap, cp, hvp, hRp, hmp⟩ := row_shape (v := vp) H7.sep (List.Mem.head _)
  subst hvp
  refine plain (y_move rfl rfl) rfl rfl rfl H7 ?_
  clear H7; intro a8 H8
  refine plain (y_extract rfl rfl rfl) rfl rfl rfl H8 ?_
  clear H8; intro a9 H9
  refine plain (y_extract rfl rfl rfl) rfl rfl rfl H9 ?_
  clear H9; intro a10 H10
  refine plain (y_assign rfl rfl) rfl rfl rfl H10 ?_
  clear H10; intro a11 H11
  refine plain (y_assign rfl rfl) rfl rfl rfl H11 ?_
  clear H11; intro a12 H12
  refine fin ?_
  refine then_n ?_
  refine wp_seq ?_
  refine wp_seq ?_
  refine reg ?_
  refine st_callg rfl z_call20 rfl rfl rfl rfl H12 (awake2 (hG.frm H12.sep.frm (by simp))) ?_
  clear H12; intro a13 w13 H13
  refine plain (y_not rfl rfl) rfl rfl rfl H13 ?_
  clear H13; intro a14 H14
  refine plain (y_move rfl rfl) rfl rfl rfl H14 ?_
  clear H14; intro a15 H15
  refine plain (y_move rfl rfl) rfl rfl rfl H15 ?_
  clear H15; intro a16 H16
  refine st_callg rfl z_call29 rfl rfl rfl rfl H16 (droot (l.take 100) _ _ _ _ rfl hlc (fun x hx => hb x (List.mem_of_mem_take hx)) (by omega) (by rw [List.map_take]; exact (Rd.frm hR H16.sep.frm (by simp)).take _) (hG.frm H16.sep.frm (by simp))) ?_
  clear H16; intro a17 w17 H17
  refine plain (y_move rfl rfl) rfl rfl rfl H17 ?_
  clear H17; intro a18 H18
  refine st_callg rfl z_call30 rfl rfl rfl rfl H18 (rroot (l.take 100) _ _ _ _ rfl hlc (fun x hx => hb x (List.mem_of_mem_take hx)) (by omega) (by rw [List.map_take]; exact (Rd.frm hR H18.sep.frm (by simp)).take _)) ?_
  clear H18; intro a19 w19 H19
  refine plain (y_hneq rfl Tryd.eqGuardType23 Tryd.underlying23 Tryd.underlying5 z_size5 rfl rfl (Merk.root_len _) (Merk.root_len _)) rfl rfl rfl H19 ?_
  clear H19; intro a20 H20
  refine plain (y_pick_f rfl rfl rfl) rfl rfl rfl H20 ?_
  clear H20; intro a21 H21
  refine fin ?_
  refine then_n ?_
  refine cnd_d H21 rfl (fun hc22 => ?_) (fun hc22 => ?_) -- cond 1
  · exact absurd rfl hc22
  · skip
    refine wp_skip ?_
    refine then_n ?_
    refine wp_seq ?_
    refine wp_seq ?_
    refine reg ?_
    refine plain (y_move rfl rfl) rfl rfl rfl H21 ?_
    clear H21; intro a23 H23
    refine plain (y_lss rfl rfl rfl) rfl rfl rfl H23 ?_
    clear H23; intro a24 H24
    refine plain (y_move rfl rfl) rfl rfl rfl H24 ?_
    clear H24; intro a25 H25
    have H27 := H25.know (d := 26) (v := .bool false) rfl (congrArg Value.bool (decide_eq_false (by omega)))
    clear H25
    refine plain (y_move rfl rfl) rfl rfl rfl H27 ?_
    clear H27; intro a28 H28
    refine plain (y_move rfl rfl) rfl rfl rfl H28 ?_
    clear H28; intro a29 H29
    refine plain (y_len rfl Tryd.underlying46 rfl) rfl rfl rfl H29 ?_
    clear H29; intro a30 H30
    refine plain (y_geq rfl rfl rfl) rfl rfl rfl H30 ?_
    clear H30; intro a31 H31
    refine plain (y_pick_f rfl rfl rfl) rfl rfl rfl H31 ?_
    clear H31; intro a32 H32
    refine fin ?_
    refine then_n ?_
    refine cnd_d H32 rfl (fun hc33 => ?_) (fun hc33 => ?_) -- cond 2
    · (exfalso; omega)
    · skip
      refine wp_skip ?_
      refine then_n ?_
      refine wp_seq ?_
      refine reg ?_
      refine plain (y_move rfl rfl) rfl rfl rfl H32 ?_
      clear H32; intro a34 H34
      refine plain (y_eql rfl rfl rfl) rfl rfl rfl H34 ?_
      clear H34; intro a35 H35
      refine plain (y_move rfl rfl) rfl rfl rfl H35 ?_
      clear H35; intro a36 H36
      have H38 := H36.know (d := 41) (v := .bool true) rfl (congrArg Value.bool (decide_eq_true (rfl)))
      clear H36
      refine plain (y_move rfl rfl) rfl rfl rfl H38 ?_
      clear H38; intro a39 H39
      refine plain (y_move rfl rfl) rfl rfl rfl H39 ?_
      clear H39; intro a40 H40
      refine plain (y_move rfl rfl) rfl rfl rfl H40 ?_
      clear H40; intro a41 H41
      refine st_call rfl z_call32 rfl rfl rfl rfl H41 (rproof (l.take 100) _ _ _ i _ rfl hlc (fun x hx => hb x (List.mem_of_mem_take hx)) (by omega) hi (by rw [List.map_take]; exact (Rd.frm hR H41.sep.frm (by simp)).take _)) ?_
      clear H41; intro v42 l42 a42 w42 hf42 H42
      obtain rfl := hf42
      simp only [List.cons_append, List.nil_append] at H42
      obtain ⟨Aq, cq, hvq, hRq, hmq⟩ := row_shape (v := v42) H42.sep (List.Mem.head _)
      subst hvq
      refine st_callg rfl z_call31 rfl rfl rfl rfl H42 (sameH (Merk.proof (l.take 100) i) (Merk.proof (l.take 100) i) _ _ _ _ _ _ rfl rfl (Merk.proof_32 _ _) (Merk.proof_32 _ _) (Rd.ofSep (rd_row (by repeat (first | exact List.Mem.head _ | apply List.Mem.tail))) H42.sep) (Rd.ofSep (rd_row (by repeat (first | exact List.Mem.head _ | apply List.Mem.tail))) H42.sep) (by have := Merk.proof_le (l.take 100) i; omega)) ?_
      clear H42; intro a43 w43 H43
      refine plain (y_pick_t rfl rfl rfl) rfl rfl rfl H43 ?_
      clear H43; intro a44 H44
      refine plain (y_assign rfl rfl) rfl rfl rfl H44 ?_
      clear H44; intro a45 H45
      refine fin ?_
      refine then_n ?_
      refine wp_ret ?_
      -- return 1
      refine ret1 rfl H45 rfl ?_
      exact ⟨_, [], rfl, ⟨congrArg Value.bool (decide_eq_true rfl), rfl⟩, H45.sep.sub (List.nil_sublist _)⟩
set_option maxRecDepth 100000 in
set_option maxHeartbeats 2000000 in
theorem rootsOut (l : List (List UInt8)) (A : Option Addr) (c : Nat) (hcl : l.length ≤ c) (hb : ∀ x ∈ l, x.length ≤ 140737488351232) (hl : l.length ≤ 9223372036854775807) (i : Int) (hi : i < 0 ∨ ((l.take 100).length : Int) ≤ i) {w : World} (hR : Rd w A (l.map str)) (hG : Glob 0 Sha.K w) : Calls Tryd.prog 10 #[.slice A l.length c, .int .i64 i] w (Gives (.bool true) [] w) := by
  have hll : (l.take 100).length ≤ 100 := by rw [List.length_take]; omega
  have hlc : (l.take 100).length ≤ c := by rw [List.length_take]; omega
  refine enterL (args := [.slice A l.length c, .int .i64 i]) Tryd.func10 rfl rfl (l := []) (Sep.refl _) ?_
  intro a0 H0
  refine wp_seq ?_
  refine reg ?_
  refine plain (y_assign rfl rfl) rfl rfl rfl H0 ?_
  clear H0; intro a1 H1
  refine fin ?_
  refine then_n ?_
  refine wp_seq ?_
  refine reg ?_
  refine plain (y_move rfl rfl) rfl rfl rfl H1 ?_
  clear H1; intro a2 H2
  refine st_callg rfl z_call27 rfl rfl rfl rfl H2 (dfew l A _ c rfl hcl hl _) ?_
  clear H2; intro a3 w3 H3
  refine plain (y_assign rfl rfl) rfl rfl rfl H3 ?_
  clear H3; intro a4 H4
  refine fin ?_
  refine then_n ?_
  refine wp_seq ?_
  refine reg ?_
  refine plain (y_move rfl rfl) rfl rfl rfl H4 ?_
  clear H4; intro a5 H5
  refine plain (y_move rfl rfl) rfl rfl rfl H5 ?_
  clear H5; intro a6 H6
  refine st_callg rfl z_call28 rfl rfl rfl rfl H6 (dproofX _ c A (by omega) i hi _) ?_
  clear H6; intro a7 w7 H7
  refine plain (y_move rfl rfl) rfl rfl rfl H7 ?_
  clear H7; intro a8 H8
  refine plain (y_extract rfl rfl rfl) rfl rfl rfl H8 ?_
  clear H8; intro a9 H9
  refine plain (y_extract rfl rfl rfl) rfl rfl rfl H9 ?_
  clear H9; intro a10 H10
  refine plain (y_assign rfl rfl) rfl rfl rfl H10 ?_
  clear H10; intro a11 H11
  refine plain (y_assign rfl rfl) rfl rfl rfl H11 ?_
  clear H11; intro a12 H12
  refine fin ?_
  refine then_n ?_
  refine wp_seq ?_
  refine wp_seq ?_
  refine reg ?_
  refine st_callg rfl z_call20 rfl rfl rfl rfl H12 (awake2 (hG.frm H12.sep.frm (by simp))) ?_
  clear H12; intro a13 w13 H13
  refine plain (y_not rfl rfl) rfl rfl rfl H13 ?_
  clear H13; intro a14 H14
  refine plain (y_move rfl rfl) rfl rfl rfl H14 ?_
  clear H14; intro a15 H15
  refine plain (y_move rfl rfl) rfl rfl rfl H15 ?_
  clear H15; intro a16 H16
  refine st_callg rfl z_call29 rfl rfl rfl rfl H16 (droot (l.take 100) _ _ _ _ rfl hlc (fun x hx => hb x (List.mem_of_mem_take hx)) (by omega) (by rw [List.map_take]; exact (Rd.frm hR H16.sep.frm (by simp)).take _) (hG.frm H16.sep.frm (by simp))) ?_
  clear H16; intro a17 w17 H17
  refine plain (y_move rfl rfl) rfl rfl rfl H17 ?_
  clear H17; intro a18 H18
  refine st_callg rfl z_call30 rfl rfl rfl rfl H18 (rroot (l.take 100) _ _ _ _ rfl hlc (fun x hx => hb x (List.mem_of_mem_take hx)) (by omega) (by rw [List.map_take]; exact (Rd.frm hR H18.sep.frm (by simp)).take _)) ?_
  clear H18; intro a19 w19 H19
  refine plain (y_hneq rfl Tryd.eqGuardType23 Tryd.underlying23 Tryd.underlying5 z_size5 rfl rfl (Merk.root_len _) (Merk.root_len _)) rfl rfl rfl H19 ?_
  clear H19; intro a20 H20
  refine plain (y_pick_f rfl rfl rfl) rfl rfl rfl H20 ?_
  clear H20; intro a21 H21
  refine fin ?_
  refine then_n ?_
  refine cnd_d H21 rfl (fun hc22 => ?_) (fun hc22 => ?_) -- cond 1
  · exact absurd rfl hc22
  · skip
    refine wp_skip ?_
    refine then_n ?_
    refine wp_seq ?_
    refine wp_seq ?_
    refine reg ?_
    refine plain (y_move rfl rfl) rfl rfl rfl H21 ?_
    clear H21; intro a23 H23
    refine plain (y_lss rfl rfl rfl) rfl rfl rfl H23 ?_
    clear H23; intro a24 H24
    refine plain (y_move rfl rfl) rfl rfl rfl H24 ?_
    clear H24; intro a25 H25
    refine part_d (d := 26) H25 rfl (fun hg26 => ?_) (fun hg26 => ?_)
    · first
      | fail
      | skip
        clear H25; intro H27
        refine skip rfl rfl rfl H27 ?_
        clear H27; intro a28 H28
        refine skip rfl rfl rfl H28 ?_
        clear H28; intro a29 H29
        refine skip rfl rfl rfl H29 ?_
        clear H29; intro a30 H30
        refine skip rfl rfl rfl H30 ?_
        clear H30; intro a31 H31
        refine plain (y_pick_t rfl rfl rfl) rfl rfl rfl H31 ?_
        clear H31; intro a32 H32
        refine fin ?_
        refine then_n ?_
        refine cnd_t H32 rfl ?_
        refine wp_seq ?_
        refine reg ?_
        refine plain (y_move rfl rfl) rfl rfl rfl H32 ?_
        clear H32; intro a34 H34
        refine plain (y_eql rfl rfl rfl) rfl rfl rfl H34 ?_
        clear H34; intro a35 H35
        refine plain (y_move rfl rfl) rfl rfl rfl H35 ?_
        clear H35; intro a36 H36
        have H38 := H36.know (d := 34) (v := .bool true) rfl (congrArg Value.bool (decide_eq_true (rfl)))
        clear H36
        refine plain (y_move rfl rfl) rfl rfl rfl H38 ?_
        clear H38; intro a39 H39
        refine plain (y_len rfl Tryd.underlying38 rfl) rfl rfl rfl H39 ?_
        clear H39; intro a40 H40
        refine plain (y_eql rfl rfl rfl) rfl rfl rfl H40 ?_
        clear H40; intro a41 H41
        refine plain (y_pick_t rfl rfl rfl) rfl rfl rfl H41 ?_
        clear H41; intro a42 H42
        refine plain (y_assign rfl rfl) rfl rfl rfl H42 ?_
        clear H42; intro a43 H43
        refine fin ?_
        refine then_n ?_
        refine wp_ret ?_
        refine then_r ?_
        -- return 1
        refine ret1 rfl H43 rfl ?_
        exact ⟨_, [], rfl, ⟨congrArg Value.bool (decide_eq_true rfl), rfl⟩, H43.sep.sub (List.nil_sublist _)⟩
    · first
      | fail
      | skip
        clear H25; intro H44
        refine plain (y_move rfl rfl) rfl rfl rfl H44 ?_
        clear H44; intro a45 H45
        refine plain (y_move rfl rfl) rfl rfl rfl H45 ?_
        clear H45; intro a46 H46
        refine plain (y_len rfl Tryd.underlying46 rfl) rfl rfl rfl H46 ?_
        clear H46; intro a47 H47
        refine plain (y_geq rfl rfl rfl) rfl rfl rfl H47 ?_
        clear H47; intro a48 H48
        refine plain (y_pick_f rfl rfl rfl) rfl rfl rfl H48 ?_
        clear H48; intro a49 H49
        refine fin ?_
        refine then_n ?_
        refine cnd_d H49 rfl (fun hc50 => ?_) (fun hc50 => ?_) -- cond 3
        · skip
          refine wp_seq ?_
          refine reg ?_
          refine plain (y_move rfl rfl) rfl rfl rfl H49 ?_
          clear H49; intro a51 H51
          refine plain (y_eql rfl rfl rfl) rfl rfl rfl H51 ?_
          clear H51; intro a52 H52
          refine plain (y_move rfl rfl) rfl rfl rfl H52 ?_
          clear H52; intro a53 H53
          have H55 := H53.know (d := 34) (v := .bool true) rfl (congrArg Value.bool (decide_eq_true (rfl)))
          clear H53
          refine plain (y_move rfl rfl) rfl rfl rfl H55 ?_
          clear H55; intro a56 H56
          refine plain (y_len rfl Tryd.underlying38 rfl) rfl rfl rfl H56 ?_
          clear H56; intro a57 H57
          refine plain (y_eql rfl rfl rfl) rfl rfl rfl H57 ?_
          clear H57; intro a58 H58
          refine plain (y_pick_t rfl rfl rfl) rfl rfl rfl H58 ?_
          clear H58; intro a59 H59
          refine plain (y_assign rfl rfl) rfl rfl rfl H59 ?_
          clear H59; intro a60 H60
          refine fin ?_
          refine then_n ?_
          refine wp_ret ?_
          refine then_r ?_
          -- return 2
          refine ret1 rfl H60 rfl ?_
          exact ⟨_, [], rfl, ⟨congrArg Value.bool (decide_eq_true rfl), rfl⟩, H60.sep.sub (List.nil_sublist _)⟩
        · (exfalso; omega)
theorem digestRoots (l : List (List UInt8)) (A : Option Addr) (c : Nat) (hcl : l.length ≤ c) (hb : ∀ x ∈ l, x.length ≤ 140737488351232) (hl : l.length ≤ 9223372036854775807) (i : Int) {w : World} (hR : Rd w A (l.map str)) (hG : Glob 0 Sha.K w) : Calls Tryd.prog 10 #[.slice A l.length c, .int .i64 i] w (Gives (.bool true) [] w) := by
  by_cases hi : i < 0 ∨ ((l.take 100).length : Int) ≤ i
  · exact rootsOut l A c hcl hb hl i hi hR hG
  · obtain ⟨j, rfl⟩ := Int.eq_ofNat_of_zero_le (show 0 ≤ i by omega)
    exact rootsIn l A c hcl hb hl j (by omega) hR hG

end Go.Proofs.YtbadncpjbdfinaaDoor.D_LRoots
