/- Part of a proof about given Go functions: contracts of functions, or plain laws. -/
import Derived.Test.YtbdkgmkaakoigaaDoorInboxW
import Derived.Test.YtbdkgmkaakoigaaDoorSxK
import Derived.Test.YtbdkgmkaakoigaaDoorSxI
import Derived.Test.YtbdkgmkaakoigaaDoorInboxA
import Derived.Test.YtbdkgmkaakoigaaDoorSxTx
import Derived.Test.YtbdkgmkaakoigaaDoorProg
import Derived.Test.YtbdkgmkaakoigaaDoorW1
import Derived.Test.YtbdkgmkaakoigaaDoorInboxX
set_option linter.unusedVariables false
set_option linter.unusedSimpArgs false
namespace Go.Proofs.YtbdkgmkaakoigaaDoor.I_Same
open Go.Sx Go.RowKit Go.Proofs.YtbdkgmkaakoigaaDoor.I_Block Go.Proofs.YtbdkgmkaakoigaaDoor.I_Sum Go.Proofs.YtbdkgmkaakoigaaDoor.I_Ref Go.Proofs.YtbdkgmkaakoigaaDoor.I_RSum Go.Proofs.YtbdkgmkaakoigaaDoor.I_Num Go.Proofs.YtbdkgmkaakoigaaDoor.I_Lay Go.Proofs.YtbdkgmkaakoigaaDoor.I_Leaf Go.Proofs.YtbdkgmkaakoigaaDoor.I_Item Go.Proofs.YtbdkgmkaakoigaaDoor.I_RefI Go.Proofs.YtbdkgmkaakoigaaDoor.I_Eq

theorem z_size38 : sizeB Tryd.prog 38 = some 35 := by kernel_rfl
end Go.Proofs.YtbdkgmkaakoigaaDoor.I_Same

set_option linter.unusedVariables false
set_option linter.unusedSimpArgs false
namespace Go.Proofs.YtbdkgmkaakoigaaDoor.I_Nums
open Go.Sx Go.RowKit Go.Proofs.YtbdkgmkaakoigaaDoor.I_Block Go.Proofs.YtbdkgmkaakoigaaDoor.I_Sum Go.Proofs.YtbdkgmkaakoigaaDoor.I_Ref Go.Proofs.YtbdkgmkaakoigaaDoor.I_RSum Go.Proofs.YtbdkgmkaakoigaaDoor.I_Num Go.Proofs.YtbdkgmkaakoigaaDoor.I_Lay Go.Proofs.YtbdkgmkaakoigaaDoor.I_Leaf Go.Proofs.YtbdkgmkaakoigaaDoor.I_Item Go.Proofs.YtbdkgmkaakoigaaDoor.I_RefI Go.Proofs.YtbdkgmkaakoigaaDoor.I_Eq

theorem z_size3 : sizeB Tryd.prog 3 = some 1 := by kernel_rfl
theorem z_agg3 : aggB Tryd.prog 3 = some false := by kernel_rfl

end Go.Proofs.YtbdkgmkaakoigaaDoor.I_Nums

set_option linter.unusedVariables false
set_option linter.unusedSimpArgs false
namespace Go.Proofs.YtbdkgmkaakoigaaDoor.I_L2
open Go.Sx Go.RowKit Go.Proofs.YtbdkgmkaakoigaaDoor.I_Block Go.Proofs.YtbdkgmkaakoigaaDoor.I_Sum Go.Proofs.YtbdkgmkaakoigaaDoor.I_Ref Go.Proofs.YtbdkgmkaakoigaaDoor.I_RSum Go.Proofs.YtbdkgmkaakoigaaDoor.I_Num Go.Proofs.YtbdkgmkaakoigaaDoor.I_Lay Go.Proofs.YtbdkgmkaakoigaaDoor.I_Leaf Go.Proofs.YtbdkgmkaakoigaaDoor.I_Item Go.Proofs.YtbdkgmkaakoigaaDoor.I_RefI Go.Proofs.YtbdkgmkaakoigaaDoor.I_Eq Go.Proofs.YtbdkgmkaakoigaaDoor.I_Put Go.Proofs.YtbdkgmkaakoigaaDoor.I_Msg Go.Proofs.YtbdkgmkaakoigaaDoor.I_Reach Go.Proofs.YtbdkgmkaakoigaaDoor.I_Aw Go.Proofs.YtbdkgmkaakoigaaDoor.I_For Go.Proofs.YtbdkgmkaakoigaaDoor.I_RFor Go.Proofs.YtbdkgmkaakoigaaDoor.I_RMsg Go.Proofs.YtbdkgmkaakoigaaDoor.I_Same Go.Proofs.YtbdkgmkaakoigaaDoor.I_Nums

theorem z_field24_0 : fieldB Tryd.prog 24 0 = some 0 := by kernel_rfl
theorem z_agg3 : aggB Tryd.prog 3 = some false := by kernel_rfl
theorem q_ix_c3_0 {a0 a1 a2 : Value} : (a0 :: a1 :: a2 :: [])[0]? = some a0 := ix_0
theorem z_field24_1 : fieldB Tryd.prog 24 1 = some 1 := by kernel_rfl
theorem q_ix_c3_1 {a0 a1 a2 : Value} : (a0 :: a1 :: a2 :: [])[1]? = some a1 := (ix_c (o := 0) ix_0)
theorem z_field24_2 : fieldB Tryd.prog 24 2 = some 2 := by kernel_rfl
theorem q_ix_c3_2 {a0 a1 a2 : Value} : (a0 :: a1 :: a2 :: [])[2]? = some a2 := (ix_c (o := 1) (ix_c (o := 0) ix_0))
theorem z_call9 : callB Tryd.prog 9 = true := by kernel_rfl
theorem z_call8 : callB Tryd.prog 8 = true := by kernel_rfl

set_option maxRecDepth 100000 in
set_option maxHeartbeats 1000000 in
theorem inboxWaits (l : List Inbox.Entry) (hl : ∀ e ∈ l, e.acc.length = 32) (A : Option Addr) (c : Nat) (hm2 : l.length ≤ 9223372036854775807) (p q : Inbox.Q) (wp : Note.I64 p.n ∧ Note.I64 p.t ∧ Note.I64 p.wt) (wq : Note.I64 q.n ∧ Note.I64 q.t ∧ Note.I64 q.wt) {w : World} (hR : Rd w A (Inbox.ec l)) (hG : Glob 0 Sha.K w) : Calls Tryd.prog 6 #[.slice A l.length c, .agg [i64 p.n, i64 p.t, i64 p.wt].toArray, .agg [i64 q.n, i64 q.t, i64 q.wt].toArray] w (Gives (.bool true) [] w) := by
  have hle := Inbox.reach_le l p.n p.t p.wt
  have lz32 : (List.replicate 32 (0 : UInt8)).length = 32 := List.length_replicate
  refine enterL (args := [.slice A l.length c, .agg [i64 p.n, i64 p.t, i64 p.wt].toArray, .agg [i64 q.n, i64 q.t, i64 q.wt].toArray]) Tryd.func6 rfl rfl (l := []) (Sep.refl _) ?_
  intro a0 H0
  refine wp_seq ?_
  refine reg ?_
  refine st_box rfl rfl (agg_cells _) rfl rfl rfl H0 ?_
  clear H0; intro b1 a1 wx1 H1
  refine st_box rfl rfl (agg_cells _) rfl rfl rfl H1 ?_
  clear H1; intro b2 a2 wx2 H2
  refine plain (y_assign rfl rfl) rfl rfl rfl H2 ?_
  clear H2; intro a3 H3
  refine fin ?_
  refine then_n ?_
  refine wp_seq ?_
  refine qreg (by kernel_rfl) (by kernel_rfl) H3 ?_
  have F4 := H3.fr
  clear H3
  refine qplain (y_move rfl rfl) rfl rfl rfl F4 ?_
  clear F4; intro a5 H5
  refine qplain (y_fieldB rfl z_field24_0 rfl (by first | (simp only [Nat.zero_add, Nat.add_zero, Nat.reduceAdd]; rfl) | rfl)) rfl rfl rfl H5 ?_
  clear H5; intro a6 H6
  refine qplain (y_loadB rfl z_agg3 rfl (by repeat (first | exact Mh | apply Mt)) q_ix_c3_0) rfl rfl rfl H6 ?_
  clear H6; intro a7 H7
  refine qplain (y_fieldB rfl z_field24_1 rfl (by first | (simp only [Nat.zero_add, Nat.add_zero, Nat.reduceAdd]; rfl) | rfl)) rfl rfl rfl H7 ?_
  clear H7; intro a8 H8
  refine qplain (y_loadB rfl z_agg3 rfl (by repeat (first | exact Mh | apply Mt)) q_ix_c3_1) rfl rfl rfl H8 ?_
  clear H8; intro a9 H9
  refine qplain (y_fieldB rfl z_field24_2 rfl (by first | (simp only [Nat.zero_add, Nat.add_zero, Nat.reduceAdd]; rfl) | rfl)) rfl rfl rfl H9 ?_
  clear H9; intro a10 H10
  refine qplain (y_loadB rfl z_agg3 rfl (by repeat (first | exact Mh | apply Mt)) q_ix_c3_2) rfl rfl rfl H10 ?_
  clear H10; intro a11 H11
  refine qcallg rfl z_call9 rfl rfl rfl rfl H11 (fun w hs => (ireach l hl A l.length c rfl hm2 p.n p.t p.wt wp.1 wp.2.1 wp.2.2 (Rd.frm hR hs.frm (by simp)))) ?_
  clear H11; intro a12 H12
  refine qplain (y_move rfl rfl) rfl rfl rfl H12 ?_
  clear H12; intro a13 H13
  refine qplain (y_fieldB rfl z_field24_0 rfl (by first | (simp only [Nat.zero_add, Nat.add_zero, Nat.reduceAdd]; rfl) | rfl)) rfl rfl rfl H13 ?_
  clear H13; intro a14 H14
  refine qplain (y_loadB rfl z_agg3 rfl (by repeat (first | exact Mh | apply Mt)) q_ix_c3_0) rfl rfl rfl H14 ?_
  clear H14; intro a15 H15
  refine qplain (y_fieldB rfl z_field24_1 rfl (by first | (simp only [Nat.zero_add, Nat.add_zero, Nat.reduceAdd]; rfl) | rfl)) rfl rfl rfl H15 ?_
  clear H15; intro a16 H16
  refine qplain (y_loadB rfl z_agg3 rfl (by repeat (first | exact Mh | apply Mt)) q_ix_c3_1) rfl rfl rfl H16 ?_
  clear H16; intro a17 H17
  refine qplain (y_fieldB rfl z_field24_2 rfl (by first | (simp only [Nat.zero_add, Nat.add_zero, Nat.reduceAdd]; rfl) | rfl)) rfl rfl rfl H17 ?_
  clear H17; intro a18 H18
  refine qplain (y_loadB rfl z_agg3 rfl (by repeat (first | exact Mh | apply Mt)) q_ix_c3_2) rfl rfl rfl H18 ?_
  clear H18; intro a19 H19
  refine qcallg rfl z_call9 rfl rfl rfl rfl H19 (fun w hs => (ireach l hl A l.length c rfl hm2 q.n q.t q.wt wq.1 wq.2.1 wq.2.2 (Rd.frm hR hs.frm (by simp)))) ?_
  clear H19; intro a20 H20
  refine qplain (y_assign rfl rfl) rfl rfl rfl H20 ?_
  clear H20; intro a21 H21
  refine qplain (y_assign rfl rfl) rfl rfl rfl H21 ?_
  clear H21; intro a22 H22
  refine qfin H22 ?_
  clear H22; intro wx23 H23
  refine then_n ?_
  refine wp_seq ?_
  refine wp_seq ?_
  refine reg ?_
  refine st_callg rfl z_call8 rfl rfl rfl rfl H23 (iawake (hG.frm H23.sep.frm (by simp))) ?_
  clear H23; intro a24 wx24 H24
  refine plain (y_not rfl rfl) rfl rfl rfl H24 ?_
  clear H24; intro a25 H25
  refine plain (y_move rfl rfl) rfl rfl rfl H25 ?_
  clear H25; intro a26 H26
  refine plain (y_move rfl rfl) rfl rfl rfl H26 ?_
  clear H26; intro a27 H27
  refine plain (y_lss rfl rfl rfl) rfl rfl rfl H27 ?_
  clear H27; intro a28 H28
  refine plain (y_pick_f rfl rfl rfl) rfl rfl rfl H28 ?_
  clear H28; intro a29 H29
  refine plain (y_move rfl rfl) rfl rfl rfl H29 ?_
  clear H29; intro a30 H30
  refine Sx.part (d := 31) H30 rfl (fun hg31 => ?_) (fun hg31 => ?_)
  · first
    | fail
    | skip
      clear H30; intro H32
      try simp only [decide_eq_true_eq, decide_eq_false_iff_not, Bool.not_eq_true', Bool.not_eq_false', Bool.and_eq_true, Bool.not_eq_true, Bool.not_eq_false] at hg31
      refine skip rfl rfl rfl H32 ?_
      clear H32; intro a33 H33
      refine skip rfl rfl rfl H33 ?_
      clear H33; intro a34 H34
      refine skip rfl rfl rfl H34 ?_
      clear H34; intro a35 H35
      refine skip rfl rfl rfl H35 ?_
      clear H35; intro a36 H36
      refine plain (y_pick_t rfl rfl rfl) rfl rfl rfl H36 ?_
      clear H36; intro a37 H37
      refine plain (y_move rfl rfl) rfl rfl rfl H37 ?_
      clear H37; intro a38 H38
      refine skip rfl rfl rfl H38 ?_
      clear H38; intro a39 H39
      refine skip rfl rfl rfl H39 ?_
      clear H39; intro a40 H40
      refine skip rfl rfl rfl H40 ?_
      clear H40; intro a41 H41
      refine skip rfl rfl rfl H41 ?_
      clear H41; intro a42 H42
      refine skip rfl rfl rfl H42 ?_
      clear H42; intro a43 H43
      refine plain (y_pick_t rfl rfl rfl) rfl rfl rfl H43 ?_
      clear H43; intro a44 H44
      refine fin ?_
      refine then_n ?_
      refine cnd_t H44 rfl ?_
      refine wp_seq ?_
      refine reg ?_
      refine plain (y_assign rfl rfl) rfl rfl rfl H44 ?_
      clear H44; intro a46 H46
      refine fin ?_
      refine then_n ?_
      refine wp_ret ?_
      refine then_r ?_
      -- return 1
      refine ret1 rfl H46 rfl ?_
      first | (exfalso; omega) | exact ⟨_, [], rfl, ⟨rfl, rfl⟩, H46.sep.sub (List.nil_sublist _)⟩ | exact ⟨_, [], rfl, ⟨congrArg Value.bool (decide_eq_true (by have := Inbox.reach_mono l (n := p.n) (n' := q.n) (t := p.t) (t' := q.t) (w := p.wt) (w' := q.wt) (by omega) (by omega) (by omega) (by omega); omega)), rfl⟩, H46.sep.sub (List.nil_sublist _)⟩
  · first
    | fail
    | skip
      clear H30; intro H47
      try simp only [decide_eq_true_eq, decide_eq_false_iff_not, Bool.not_eq_true', Bool.not_eq_false', Bool.and_eq_true, Bool.not_eq_true, Bool.not_eq_false] at hg31
      refine plain (y_move rfl rfl) rfl rfl rfl H47 ?_
      clear H47; intro a48 H48
      refine plain (y_move rfl rfl) rfl rfl rfl H48 ?_
      clear H48; intro a49 H49
      refine plain (y_len rfl Tryd.underlying22 rfl) rfl rfl rfl H49 ?_
      clear H49; intro a50 H50
      refine plain (y_gtr rfl rfl rfl) rfl rfl rfl H50 ?_
      clear H50; intro a51 H51
      refine plain (y_pick_f rfl rfl rfl) rfl rfl rfl H51 ?_
      clear H51; intro a52 H52
      refine plain (y_move rfl rfl) rfl rfl rfl H52 ?_
      clear H52; intro a53 H53
      refine Sx.part (d := 37) H53 rfl (fun hg54 => ?_) (fun hg54 => ?_)
      · first
        | fail
        | skip
          clear H53; intro H55
          try simp only [decide_eq_true_eq, decide_eq_false_iff_not, Bool.not_eq_true', Bool.not_eq_false', Bool.and_eq_true, Bool.not_eq_true, Bool.not_eq_false] at hg54
          refine skip rfl rfl rfl H55 ?_
          clear H55; intro a56 H56
          refine skip rfl rfl rfl H56 ?_
          clear H56; intro a57 H57
          refine skip rfl rfl rfl H57 ?_
          clear H57; intro a58 H58
          refine skip rfl rfl rfl H58 ?_
          clear H58; intro a59 H59
          refine skip rfl rfl rfl H59 ?_
          clear H59; intro a60 H60
          refine plain (y_pick_t rfl rfl rfl) rfl rfl rfl H60 ?_
          clear H60; intro a61 H61
          refine fin ?_
          refine then_n ?_
          refine cnd_t H61 rfl ?_
          refine wp_seq ?_
          refine reg ?_
          refine plain (y_assign rfl rfl) rfl rfl rfl H61 ?_
          clear H61; intro a63 H63
          refine fin ?_
          refine then_n ?_
          refine wp_ret ?_
          refine then_r ?_
          -- return 2
          refine ret1 rfl H63 rfl ?_
          first | (exfalso; omega) | exact ⟨_, [], rfl, ⟨rfl, rfl⟩, H63.sep.sub (List.nil_sublist _)⟩ | exact ⟨_, [], rfl, ⟨congrArg Value.bool (decide_eq_true (by have := Inbox.reach_mono l (n := p.n) (n' := q.n) (t := p.t) (t' := q.t) (w := p.wt) (w' := q.wt) (by omega) (by omega) (by omega) (by omega); omega)), rfl⟩, H63.sep.sub (List.nil_sublist _)⟩
      · first
        | fail
        | skip
          clear H53; intro H64
          try simp only [decide_eq_true_eq, decide_eq_false_iff_not, Bool.not_eq_true', Bool.not_eq_false', Bool.and_eq_true, Bool.not_eq_true, Bool.not_eq_false] at hg54
          refine plain (y_move rfl rfl) rfl rfl rfl H64 ?_
          clear H64; intro a65 H65
          refine plain (y_fieldB rfl z_field24_0 rfl (by first | (simp only [Nat.zero_add, Nat.add_zero, Nat.reduceAdd]; rfl) | rfl)) rfl rfl rfl H65 ?_
          clear H65; intro a66 H66
          refine plain (y_loadB rfl z_agg3 rfl (by repeat (first | exact Mh | apply Mt)) q_ix_c3_0) rfl rfl rfl H66 ?_
          clear H66; intro a67 H67
          refine plain (y_max2 rfl rfl rfl) rfl rfl rfl H67 ?_
          clear H67; intro a68 H68
          refine plain (y_gtr rfl rfl rfl) rfl rfl rfl H68 ?_
          clear H68; intro a69 H69
          refine plain (y_pick_f rfl rfl rfl) rfl rfl rfl H69 ?_
          clear H69; intro a70 H70
          refine fin ?_
          refine then_n ?_
          refine cnd H70 rfl (fun hc71 => ?_) (fun hc71 => ?_) -- cond 3
          · skip
            try simp only [decide_eq_true_eq, decide_eq_false_iff_not, Bool.not_eq_true', Bool.not_eq_false', Bool.and_eq_true, Bool.not_eq_true, Bool.not_eq_false] at hc71
            refine wp_seq ?_
            refine reg ?_
            refine plain (y_assign rfl rfl) rfl rfl rfl H70 ?_
            clear H70; intro a72 H72
            refine fin ?_
            refine then_n ?_
            refine wp_ret ?_
            refine then_r ?_
            -- return 3
            refine ret1 rfl H72 rfl ?_
            first | (exfalso; omega) | exact ⟨_, [], rfl, ⟨rfl, rfl⟩, H72.sep.sub (List.nil_sublist _)⟩ | exact ⟨_, [], rfl, ⟨congrArg Value.bool (decide_eq_true (by have := Inbox.reach_mono l (n := p.n) (n' := q.n) (t := p.t) (t' := q.t) (w := p.wt) (w' := q.wt) (by omega) (by omega) (by omega) (by omega); omega)), rfl⟩, H72.sep.sub (List.nil_sublist _)⟩
          · skip
            try simp only [decide_eq_true_eq, decide_eq_false_iff_not, Bool.not_eq_true', Bool.not_eq_false', Bool.and_eq_true, Bool.not_eq_true, Bool.not_eq_false] at hc71
            refine wp_skip ?_
            refine then_n ?_
            refine wp_seq ?_
            refine reg ?_
            refine plain (y_fieldB rfl z_field24_0 rfl (by first | (simp only [Nat.zero_add, Nat.add_zero, Nat.reduceAdd]; rfl) | rfl)) rfl rfl rfl H70 ?_
            clear H70; intro a73 H73
            refine plain (y_loadB rfl z_agg3 rfl (by repeat (first | exact Mh | apply Mt)) q_ix_c3_0) rfl rfl rfl H73 ?_
            clear H73; intro a74 H74
            refine plain (y_fieldB rfl z_field24_0 rfl (by first | (simp only [Nat.zero_add, Nat.add_zero, Nat.reduceAdd]; rfl) | rfl)) rfl rfl rfl H74 ?_
            clear H74; intro a75 H75
            refine plain (y_loadB rfl z_agg3 rfl (by repeat (first | exact Mh | apply Mt)) q_ix_c3_0) rfl rfl rfl H75 ?_
            clear H75; intro a76 H76
            refine plain (y_gtr rfl rfl rfl) rfl rfl rfl H76 ?_
            clear H76; intro a77 H77
            refine plain (y_move rfl rfl) rfl rfl rfl H77 ?_
            clear H77; intro a78 H78
            refine Sx.part (d := 49) H78 rfl (fun hg79 => ?_) (fun hg79 => ?_)
            · first
              | fail
              | skip
                clear H78; intro H80
                try simp only [decide_eq_true_eq, decide_eq_false_iff_not, Bool.not_eq_true', Bool.not_eq_false', Bool.and_eq_true, Bool.not_eq_true, Bool.not_eq_false] at hg79
                refine skip rfl rfl rfl H80 ?_
                clear H80; intro a81 H81
                refine skip rfl rfl rfl H81 ?_
                clear H81; intro a82 H82
                refine skip rfl rfl rfl H82 ?_
                clear H82; intro a83 H83
                refine skip rfl rfl rfl H83 ?_
                clear H83; intro a84 H84
                refine skip rfl rfl rfl H84 ?_
                clear H84; intro a85 H85
                refine plain (y_pick_t rfl rfl rfl) rfl rfl rfl H85 ?_
                clear H85; intro a86 H86
                refine plain (y_move rfl rfl) rfl rfl rfl H86 ?_
                clear H86; intro a87 H87
                refine skip rfl rfl rfl H87 ?_
                clear H87; intro a88 H88
                refine skip rfl rfl rfl H88 ?_
                clear H88; intro a89 H89
                refine skip rfl rfl rfl H89 ?_
                clear H89; intro a90 H90
                refine skip rfl rfl rfl H90 ?_
                clear H90; intro a91 H91
                refine skip rfl rfl rfl H91 ?_
                clear H91; intro a92 H92
                refine plain (y_pick_t rfl rfl rfl) rfl rfl rfl H92 ?_
                clear H92; intro a93 H93
                refine plain (y_move rfl rfl) rfl rfl rfl H93 ?_
                clear H93; intro a94 H94
                refine skip rfl rfl rfl H94 ?_
                clear H94; intro a95 H95
                refine skip rfl rfl rfl H95 ?_
                clear H95; intro a96 H96
                refine skip rfl rfl rfl H96 ?_
                clear H96; intro a97 H97
                refine plain (y_pick_t rfl rfl rfl) rfl rfl rfl H97 ?_
                clear H97; intro a98 H98
                refine plain (y_move rfl rfl) rfl rfl rfl H98 ?_
                clear H98; intro a99 H99
                refine skip rfl rfl rfl H99 ?_
                clear H99; intro a100 H100
                refine skip rfl rfl rfl H100 ?_
                clear H100; intro a101 H101
                refine skip rfl rfl rfl H101 ?_
                clear H101; intro a102 H102
                refine plain (y_pick_t rfl rfl rfl) rfl rfl rfl H102 ?_
                clear H102; intro a103 H103
                refine plain (y_assign rfl rfl) rfl rfl rfl H103 ?_
                clear H103; intro a104 H104
                refine fin ?_
                refine then_n ?_
                refine wp_ret ?_
                -- return 4
                refine ret1 rfl H104 rfl ?_
                first | (exfalso; omega) | exact ⟨_, [], rfl, ⟨rfl, rfl⟩, H104.sep.sub (List.nil_sublist _)⟩ | exact ⟨_, [], rfl, ⟨congrArg Value.bool (decide_eq_true (by have := Inbox.reach_mono l (n := p.n) (n' := q.n) (t := p.t) (t' := q.t) (w := p.wt) (w' := q.wt) (by omega) (by omega) (by omega) (by omega); omega)), rfl⟩, H104.sep.sub (List.nil_sublist _)⟩
            · first
              | fail
              | skip
                clear H78; intro H105
                try simp only [decide_eq_true_eq, decide_eq_false_iff_not, Bool.not_eq_true', Bool.not_eq_false', Bool.and_eq_true, Bool.not_eq_true, Bool.not_eq_false] at hg79
                refine plain (y_fieldB rfl z_field24_1 rfl (by first | (simp only [Nat.zero_add, Nat.add_zero, Nat.reduceAdd]; rfl) | rfl)) rfl rfl rfl H105 ?_
                clear H105; intro a106 H106
                refine plain (y_loadB rfl z_agg3 rfl (by repeat (first | exact Mh | apply Mt)) q_ix_c3_1) rfl rfl rfl H106 ?_
                clear H106; intro a107 H107
                refine plain (y_fieldB rfl z_field24_1 rfl (by first | (simp only [Nat.zero_add, Nat.add_zero, Nat.reduceAdd]; rfl) | rfl)) rfl rfl rfl H107 ?_
                clear H107; intro a108 H108
                refine plain (y_loadB rfl z_agg3 rfl (by repeat (first | exact Mh | apply Mt)) q_ix_c3_1) rfl rfl rfl H108 ?_
                clear H108; intro a109 H109
                refine plain (y_gtr rfl rfl rfl) rfl rfl rfl H109 ?_
                clear H109; intro a110 H110
                refine plain (y_pick_f rfl rfl rfl) rfl rfl rfl H110 ?_
                clear H110; intro a111 H111
                refine plain (y_move rfl rfl) rfl rfl rfl H111 ?_
                clear H111; intro a112 H112
                refine Sx.part (d := 56) H112 rfl (fun hg113 => ?_) (fun hg113 => ?_)
                · first
                  | fail
                  | skip
                    clear H112; intro H114
                    try simp only [decide_eq_true_eq, decide_eq_false_iff_not, Bool.not_eq_true', Bool.not_eq_false', Bool.and_eq_true, Bool.not_eq_true, Bool.not_eq_false] at hg113
                    refine skip rfl rfl rfl H114 ?_
                    clear H114; intro a115 H115
                    refine skip rfl rfl rfl H115 ?_
                    clear H115; intro a116 H116
                    refine skip rfl rfl rfl H116 ?_
                    clear H116; intro a117 H117
                    refine skip rfl rfl rfl H117 ?_
                    clear H117; intro a118 H118
                    refine skip rfl rfl rfl H118 ?_
                    clear H118; intro a119 H119
                    refine plain (y_pick_t rfl rfl rfl) rfl rfl rfl H119 ?_
                    clear H119; intro a120 H120
                    refine plain (y_move rfl rfl) rfl rfl rfl H120 ?_
                    clear H120; intro a121 H121
                    refine skip rfl rfl rfl H121 ?_
                    clear H121; intro a122 H122
                    refine skip rfl rfl rfl H122 ?_
                    clear H122; intro a123 H123
                    refine skip rfl rfl rfl H123 ?_
                    clear H123; intro a124 H124
                    refine plain (y_pick_t rfl rfl rfl) rfl rfl rfl H124 ?_
                    clear H124; intro a125 H125
                    refine plain (y_move rfl rfl) rfl rfl rfl H125 ?_
                    clear H125; intro a126 H126
                    refine skip rfl rfl rfl H126 ?_
                    clear H126; intro a127 H127
                    refine skip rfl rfl rfl H127 ?_
                    clear H127; intro a128 H128
                    refine skip rfl rfl rfl H128 ?_
                    clear H128; intro a129 H129
                    refine plain (y_pick_t rfl rfl rfl) rfl rfl rfl H129 ?_
                    clear H129; intro a130 H130
                    refine plain (y_assign rfl rfl) rfl rfl rfl H130 ?_
                    clear H130; intro a131 H131
                    refine fin ?_
                    refine then_n ?_
                    refine wp_ret ?_
                    -- return 5
                    refine ret1 rfl H131 rfl ?_
                    first | (exfalso; omega) | exact ⟨_, [], rfl, ⟨rfl, rfl⟩, H131.sep.sub (List.nil_sublist _)⟩ | exact ⟨_, [], rfl, ⟨congrArg Value.bool (decide_eq_true (by have := Inbox.reach_mono l (n := p.n) (n' := q.n) (t := p.t) (t' := q.t) (w := p.wt) (w' := q.wt) (by omega) (by omega) (by omega) (by omega); omega)), rfl⟩, H131.sep.sub (List.nil_sublist _)⟩
                · first
                  | fail
                  | skip
                    clear H112; intro H132
                    try simp only [decide_eq_true_eq, decide_eq_false_iff_not, Bool.not_eq_true', Bool.not_eq_false', Bool.and_eq_true, Bool.not_eq_true, Bool.not_eq_false] at hg113
                    refine plain (y_fieldB rfl z_field24_2 rfl (by first | (simp only [Nat.zero_add, Nat.add_zero, Nat.reduceAdd]; rfl) | rfl)) rfl rfl rfl H132 ?_
                    clear H132; intro a133 H133
                    refine plain (y_loadB rfl z_agg3 rfl (by repeat (first | exact Mh | apply Mt)) q_ix_c3_2) rfl rfl rfl H133 ?_
                    clear H133; intro a134 H134
                    refine plain (y_fieldB rfl z_field24_2 rfl (by first | (simp only [Nat.zero_add, Nat.add_zero, Nat.reduceAdd]; rfl) | rfl)) rfl rfl rfl H134 ?_
                    clear H134; intro a135 H135
                    refine plain (y_loadB rfl z_agg3 rfl (by repeat (first | exact Mh | apply Mt)) q_ix_c3_2) rfl rfl rfl H135 ?_
                    clear H135; intro a136 H136
                    refine plain (y_lss rfl rfl rfl) rfl rfl rfl H136 ?_
                    clear H136; intro a137 H137
                    refine plain (y_pick_f rfl rfl rfl) rfl rfl rfl H137 ?_
                    clear H137; intro a138 H138
                    refine plain (y_move rfl rfl) rfl rfl rfl H138 ?_
                    clear H138; intro a139 H139
                    refine Sx.part (d := 63) H139 rfl (fun hg140 => ?_) (fun hg140 => ?_)
                    · first
                      | fail
                      | skip
                        clear H139; intro H141
                        try simp only [decide_eq_true_eq, decide_eq_false_iff_not, Bool.not_eq_true', Bool.not_eq_false', Bool.and_eq_true, Bool.not_eq_true, Bool.not_eq_false] at hg140
                        refine skip rfl rfl rfl H141 ?_
                        clear H141; intro a142 H142
                        refine skip rfl rfl rfl H142 ?_
                        clear H142; intro a143 H143
                        refine skip rfl rfl rfl H143 ?_
                        clear H143; intro a144 H144
                        refine plain (y_pick_t rfl rfl rfl) rfl rfl rfl H144 ?_
                        clear H144; intro a145 H145
                        refine plain (y_move rfl rfl) rfl rfl rfl H145 ?_
                        clear H145; intro a146 H146
                        refine skip rfl rfl rfl H146 ?_
                        clear H146; intro a147 H147
                        refine skip rfl rfl rfl H147 ?_
                        clear H147; intro a148 H148
                        refine skip rfl rfl rfl H148 ?_
                        clear H148; intro a149 H149
                        refine plain (y_pick_t rfl rfl rfl) rfl rfl rfl H149 ?_
                        clear H149; intro a150 H150
                        refine plain (y_assign rfl rfl) rfl rfl rfl H150 ?_
                        clear H150; intro a151 H151
                        refine fin ?_
                        refine then_n ?_
                        refine wp_ret ?_
                        -- return 6
                        refine ret1 rfl H151 rfl ?_
                        first | (exfalso; omega) | exact ⟨_, [], rfl, ⟨rfl, rfl⟩, H151.sep.sub (List.nil_sublist _)⟩ | exact ⟨_, [], rfl, ⟨congrArg Value.bool (decide_eq_true (by have := Inbox.reach_mono l (n := p.n) (n' := q.n) (t := p.t) (t' := q.t) (w := p.wt) (w' := q.wt) (by omega) (by omega) (by omega) (by omega); omega)), rfl⟩, H151.sep.sub (List.nil_sublist _)⟩
                    · first
                      | fail
                      | skip
                        clear H139; intro H152
                        try simp only [decide_eq_true_eq, decide_eq_false_iff_not, Bool.not_eq_true', Bool.not_eq_false', Bool.and_eq_true, Bool.not_eq_true, Bool.not_eq_false] at hg140
                        refine plain (y_fieldB rfl z_field24_2 rfl (by first | (simp only [Nat.zero_add, Nat.add_zero, Nat.reduceAdd]; rfl) | rfl)) rfl rfl rfl H152 ?_
                        clear H152; intro a153 H153
                        refine plain (y_loadB rfl z_agg3 rfl (by repeat (first | exact Mh | apply Mt)) q_ix_c3_2) rfl rfl rfl H153 ?_
                        clear H153; intro a154 H154
                        refine plain (y_lss rfl rfl rfl) rfl rfl rfl H154 ?_
                        clear H154; intro a155 H155
                        refine plain (y_pick_f rfl rfl rfl) rfl rfl rfl H155 ?_
                        clear H155; intro a156 H156
                        refine plain (y_move rfl rfl) rfl rfl rfl H156 ?_
                        clear H156; intro a157 H157
                        refine Sx.part (d := 68) H157 rfl (fun hg158 => ?_) (fun hg158 => ?_)
                        · first
                          | fail
                          | skip
                            clear H157; intro H159
                            try simp only [decide_eq_true_eq, decide_eq_false_iff_not, Bool.not_eq_true', Bool.not_eq_false', Bool.and_eq_true, Bool.not_eq_true, Bool.not_eq_false] at hg158
                            refine skip rfl rfl rfl H159 ?_
                            clear H159; intro a160 H160
                            refine skip rfl rfl rfl H160 ?_
                            clear H160; intro a161 H161
                            refine skip rfl rfl rfl H161 ?_
                            clear H161; intro a162 H162
                            refine plain (y_pick_t rfl rfl rfl) rfl rfl rfl H162 ?_
                            clear H162; intro a163 H163
                            refine plain (y_assign rfl rfl) rfl rfl rfl H163 ?_
                            clear H163; intro a164 H164
                            refine fin ?_
                            refine then_n ?_
                            refine wp_ret ?_
                            -- return 7
                            refine ret1 rfl H164 rfl ?_
                            first | (exfalso; omega) | exact ⟨_, [], rfl, ⟨rfl, rfl⟩, H164.sep.sub (List.nil_sublist _)⟩ | exact ⟨_, [], rfl, ⟨congrArg Value.bool (decide_eq_true (by have := Inbox.reach_mono l (n := p.n) (n' := q.n) (t := p.t) (t' := q.t) (w := p.wt) (w' := q.wt) (by omega) (by omega) (by omega) (by omega); omega)), rfl⟩, H164.sep.sub (List.nil_sublist _)⟩
                        · first
                          | fail
                          | skip
                            clear H157; intro H165
                            try simp only [decide_eq_true_eq, decide_eq_false_iff_not, Bool.not_eq_true', Bool.not_eq_false', Bool.and_eq_true, Bool.not_eq_true, Bool.not_eq_false] at hg158
                            refine plain (y_move rfl rfl) rfl rfl rfl H165 ?_
                            clear H165; intro a166 H166
                            refine plain (y_move rfl rfl) rfl rfl rfl H166 ?_
                            clear H166; intro a167 H167
                            refine plain (y_leq rfl rfl rfl) rfl rfl rfl H167 ?_
                            clear H167; intro a168 H168
                            refine plain (y_pick_f rfl rfl rfl) rfl rfl rfl H168 ?_
                            clear H168; intro a169 H169
                            refine plain (y_assign rfl rfl) rfl rfl rfl H169 ?_
                            clear H169; intro a170 H170
                            refine fin ?_
                            refine then_n ?_
                            refine wp_ret ?_
                            -- return 8
                            refine ret1 rfl H170 rfl ?_
                            first | (exfalso; omega) | exact ⟨_, [], rfl, ⟨rfl, rfl⟩, H170.sep.sub (List.nil_sublist _)⟩ | exact ⟨_, [], rfl, ⟨congrArg Value.bool (decide_eq_true (by have := Inbox.reach_mono l (n := p.n) (n' := q.n) (t := p.t) (t' := q.t) (w := p.wt) (w' := q.wt) (by omega) (by omega) (by omega) (by omega); omega)), rfl⟩, H170.sep.sub (List.nil_sublist _)⟩

end Go.Proofs.YtbdkgmkaakoigaaDoor.I_L2

set_option linter.unusedVariables false
set_option linter.unusedSimpArgs false
namespace Go.Proofs.YtbdkgmkaakoigaaDoor.I_Rd
open Go.Sx Go.RowKit

theorem rd_Entry {H : Type} {enc : TypeId × Value → H} {W : World} {sp : Nat → Bool} {held : Bool} {cs : List Value} (h : Trw enc Tryd.prog W sp held 38 cs) : ∃ (x : Inbox.Entry), cs = Inbox.Entry.cells x ∧ Inbox.Entry.Wf x := by
  have hp := h.pieces Tryd.underlying38 [1, 1, 1, 32] (by kernel_rfl)
  obtain ⟨v0, e0, w0⟩ := (h.field Tryd.underlying38 0 rfl (o := 0) rfl (T := 3) rfl (k := 1) (by kernel_rfl)).i64 Tryd.underlying3
  obtain ⟨v1, e1, w1⟩ := (h.field Tryd.underlying38 1 rfl (o := 1) rfl (T := 9) rfl (k := 1) (by kernel_rfl)).str Tryd.underlying9
  obtain ⟨v2, e2, w2⟩ := (h.field Tryd.underlying38 2 rfl (o := 2) rfl (T := 3) rfl (k := 1) (by kernel_rfl)).i64 Tryd.underlying3
  obtain ⟨v3, e3, w3⟩ := (h.field Tryd.underlying38 3 rfl (o := 3) rfl (T := 33) rfl (k := 32) (by kernel_rfl)).bytes Tryd.underlying33 Tryd.underlying5 (by kernel_rfl) (by kernel_rfl)
  refine ⟨⟨v0, v1, v2, v3⟩, ?_, w0, w1, w2, w3⟩
  rw [hp]
  simp only [Sx.pieces, Nat.zero_add, Nat.reduceAdd, e0, e1, e2, e3]
  first | rfl | simp [Inbox.Entry.cells]
theorem rd_Q {H : Type} {enc : TypeId × Value → H} {W : World} {sp : Nat → Bool} {held : Bool} {cs : List Value} (h : Trw enc Tryd.prog W sp held 24 cs) : ∃ (x : Inbox.Q), cs = Inbox.Q.cells x ∧ (Note.I64 x.n ∧ Note.I64 x.t ∧ Note.I64 x.wt) := by
  have hp := h.pieces Tryd.underlying24 [1, 1, 1] (by kernel_rfl)
  obtain ⟨v0, e0, w0⟩ := (h.field Tryd.underlying24 0 rfl (o := 0) rfl (T := 3) rfl (k := 1) (by kernel_rfl)).i64 Tryd.underlying3
  obtain ⟨v1, e1, w1⟩ := (h.field Tryd.underlying24 1 rfl (o := 1) rfl (T := 3) rfl (k := 1) (by kernel_rfl)).i64 Tryd.underlying3
  obtain ⟨v2, e2, w2⟩ := (h.field Tryd.underlying24 2 rfl (o := 2) rfl (T := 3) rfl (k := 1) (by kernel_rfl)).i64 Tryd.underlying3
  refine ⟨⟨v0, v1, v2⟩, ?_, w0, w1, w2⟩
  rw [hp]
  simp only [Sx.pieces, Nat.zero_add, Nat.reduceAdd, e0, e1, e2]
  first | rfl | simp [Inbox.Q.cells]

end Go.Proofs.YtbdkgmkaakoigaaDoor.I_Rd
