/- Part of a proof about given Go functions: contracts of functions, or plain laws. -/
import Derived.Test.YtbdkgmkaakoigaaDoorNoteV
import Derived.Test.YtbdkgmkaakoigaaDoorSxI
import Derived.Test.YtbdkgmkaakoigaaDoorProg
import Derived.Test.YtbdkgmkaakoigaaDoorW1
import Derived.Test.YtbdkgmkaakoigaaDoorInboxW
import Derived.Test.YtbdkgmkaakoigaaDoorSxK
import Derived.Test.YtbdkgmkaakoigaaDoorInboxA
import Derived.Test.YtbdkgmkaakoigaaDoorSxTx
import Derived.Test.YtbdkgmkaakoigaaDoorInboxX
import Derived.Test.YtbdkgmkaakoigaaDoorInboxY
import Derived.Test.YtbdkgmkaakoigaaDoorSxTb
set_option linter.unusedVariables false
set_option linter.unusedSimpArgs false
namespace Go.Proofs.YtbdkgmkaakoigaaDoor.I_Item
open Go.Sx Go.RowKit Go.Proofs.YtbdkgmkaakoigaaDoor.I_Num Go.Proofs.YtbdkgmkaakoigaaDoor.I_Lay

theorem z_field51_1 : fieldB Tryd.prog 51 1 = some 1 := by kernel_rfl
theorem z_agg3 : aggB Tryd.prog 3 = some false := by kernel_rfl
theorem q_ix_c4_1 {a0 a1 a2 a3 : Value} : (a0 :: a1 :: a2 :: a3 :: [])[1]? = some a1 := (ix_c (o := 0) ix_0)
theorem z_field51_2 : fieldB Tryd.prog 51 2 = some 2 := by kernel_rfl
theorem q_ix_c4_2 {a0 a1 a2 a3 : Value} : (a0 :: a1 :: a2 :: a3 :: [])[2]? = some a2 := (ix_c (o := 1) (ix_c (o := 0) ix_0))
theorem z_size3 : sizeB Tryd.prog 3 = some 1 := by kernel_rfl
theorem z_zero3 : zeroL Tryd.prog 3 = some ([.int .i64 0]) := by kernel_rfl
theorem z_call41 : callB Tryd.prog 41 = true := by kernel_rfl
theorem z_field51_3 : fieldB Tryd.prog 51 3 = some 3 := by kernel_rfl
theorem z_agg9 : aggB Tryd.prog 9 = some false := by kernel_rfl
theorem q_ix_c4_3 {a0 a1 a2 a3 : Value} : (a0 :: a1 :: a2 :: a3 :: [])[3]? = some a3 := (ix_c (o := 2) (ix_c (o := 1) (ix_c (o := 0) ix_0)))
theorem z_field51_0 : fieldB Tryd.prog 51 0 = some 0 := by kernel_rfl
theorem q_ix_c4_0 {a0 a1 a2 a3 : Value} : (a0 :: a1 :: a2 :: a3 :: [])[0]? = some a0 := ix_0
theorem z_agg51 : aggB Tryd.prog 51 = some true := by kernel_rfl
theorem z_size51 : sizeB Tryd.prog 51 = some 4 := by kernel_rfl
theorem q_ld_c4_0_4 {a0 a1 a2 a3 : Value} : ((a0 :: a1 :: a2 :: a3 :: []).drop 0).take 4 = a0 :: a1 :: a2 :: a3 :: [] := (ld_a (len_c (n := 3) (len_c (n := 2) (len_c (n := 1) (len_c (n := 0) len_n)))))
theorem q_len_c4 {a0 a1 a2 a3 : Value} : (a0 :: a1 :: a2 :: a3 :: []).length = 4 := (len_c (n := 3) (len_c (n := 2) (len_c (n := 1) (len_c (n := 0) len_n))))
theorem z_call32 : callB Tryd.prog 32 = true := by kernel_rfl
theorem z_call34 : callB Tryd.prog 34 = true := by kernel_rfl
theorem z_size9 : sizeB Tryd.prog 9 = some 1 := by kernel_rfl
theorem z_zero9 : zeroL Tryd.prog 9 = some ([.string ⟨#[]⟩]) := by kernel_rfl
theorem z_slice40 : sliceB Tryd.prog 40 = some (9, 1, 16) := by kernel_rfl
theorem z_notint40 : notIntB Tryd.prog 40 = true := by kernel_rfl
theorem z_call33 : callB Tryd.prog 33 = true := by kernel_rfl

set_option maxRecDepth 100000 in
set_option maxHeartbeats 1000000 in
theorem nitem (i : Note.Item) (wf : Note.Item.Wf i) (w : World) : Calls Tryd.prog 32 #[.agg (Note.Item.cells i).toArray] w (Gives (.bool i.ok) [] w) := by
  have lz32 : (List.replicate 32 (0 : UInt8)).length = 32 := List.length_replicate
  refine enterL (args := [.agg (Note.Item.cells i).toArray]) Tryd.func32 rfl rfl (l := []) (Sep.refl _) ?_
  intro a0 H0
  refine wp_seq ?_
  refine reg ?_
  refine st_box rfl rfl (agg_cells _) rfl rfl rfl H0 ?_
  clear H0; intro b1 a1 wx1 H1
  refine plain (y_assign rfl rfl) rfl rfl rfl H1 ?_
  clear H1; intro a2 H2
  refine fin ?_
  refine then_n ?_
  refine wp_seq ?_
  refine wp_seq ?_
  refine reg ?_
  refine plain (y_fieldB rfl z_field51_1 rfl (by first | (simp only [Nat.zero_add, Nat.add_zero, Nat.reduceAdd]; rfl) | rfl)) rfl rfl rfl H2 ?_
  clear H2; intro a3 H3
  refine plain (y_loadB rfl z_agg3 rfl (by repeat (first | exact Mh | apply Mt)) q_ix_c4_1) rfl rfl rfl H3 ?_
  clear H3; intro a4 H4
  refine plain (y_fieldB rfl z_field51_2 rfl (by first | (simp only [Nat.zero_add, Nat.add_zero, Nat.reduceAdd]; rfl) | rfl)) rfl rfl rfl H4 ?_
  clear H4; intro a5 H5
  refine plain (y_loadB rfl z_agg3 rfl (by repeat (first | exact Mh | apply Mt)) q_ix_c4_2) rfl rfl rfl H5 ?_
  clear H5; intro a6 H6
  refine st_buildSlice1 (xs := [.tmp 4, .tmp 6]) rfl Tryd.underlying45 z_size3 z_zero3 rfl rfl rfl rfl rfl rfl rfl rfl rfl H6 ?_
  clear H6; intro b7 a7 wx7 H7
  refine st_callg rfl z_call41 rfl rfl rfl rfl H7 (nnum [i.who, i.n] _ _ _ rfl (by simp) (Rd.ofSep (rd_blkA (by repeat (first | exact Mh | apply Mt))) H7.sep)) ?_
  clear H7; intro a8 wx8 H8
  rw [Note.nums2] at H8
  refine plain ((by first | exact y_not_d rfl rfl | exact y_not rfl rfl)) rfl rfl rfl H8 ?_
  clear H8; intro a9 H9
  refine plain (y_move rfl rfl) rfl rfl rfl H9 ?_
  clear H9; intro a10 H10
  refine Sx.part (d := 10) H10 rfl (fun hg11 => ?_) (fun hg11 => ?_)
  · first
    | fail
    | skip
      clear H10; intro H12
      try simp only [decide_eq_true_eq, decide_eq_false_iff_not, Bool.not_eq_true', Bool.not_eq_false', Bool.and_eq_true, Bool.not_eq_true, Bool.not_eq_false] at hg11
      refine skip rfl rfl rfl H12 ?_
      clear H12; intro a13 H13
      refine skip rfl rfl rfl H13 ?_
      clear H13; intro a14 H14
      refine skip rfl rfl rfl H14 ?_
      clear H14; intro a15 H15
      refine plain (y_pick_t rfl rfl rfl) rfl rfl rfl H15 ?_
      clear H15; intro a16 H16
      refine plain (y_move rfl rfl) rfl rfl rfl H16 ?_
      clear H16; intro a17 H17
      refine skip rfl rfl rfl H17 ?_
      clear H17; intro a18 H18
      refine skip rfl rfl rfl H18 ?_
      clear H18; intro a19 H19
      refine skip rfl rfl rfl H19 ?_
      clear H19; intro a20 H20
      refine skip rfl rfl rfl H20 ?_
      clear H20; intro a21 H21
      refine plain (y_pick_t rfl rfl rfl) rfl rfl rfl H21 ?_
      clear H21; intro a22 H22
      refine fin ?_
      refine then_n ?_
      refine cnd_t H22 rfl ?_
      refine wp_seq ?_
      refine reg ?_
      refine plain (y_assign rfl rfl) rfl rfl rfl H22 ?_
      clear H22; intro a24 H24
      refine fin ?_
      refine then_n ?_
      refine wp_ret ?_
      refine then_r ?_
      -- return 1
      refine ret1 rfl H24 rfl ?_
      try simp only [Note.text0] at *
      refine ⟨_, [], rfl, ⟨?_, rfl⟩, H24.sep.sub (List.nil_sublist _)⟩
      clear H24
      rw [Note.Item.ok_is]
      first | exact congrArg Value.bool (decide_eq_decide.2 (by omega)) | exact congrArg Value.bool (decide_eq_false (by omega)).symm | exact congrArg Value.bool (decide_eq_true (by omega)).symm
  · first
    | fail
    | skip
      clear H10; intro H25
      try simp only [decide_eq_true_eq, decide_eq_false_iff_not, Bool.not_eq_true', Bool.not_eq_false', Bool.and_eq_true, Bool.not_eq_true, Bool.not_eq_false] at hg11
      refine plain (y_fieldB rfl z_field51_1 rfl (by first | (simp only [Nat.zero_add, Nat.add_zero, Nat.reduceAdd]; rfl) | rfl)) rfl rfl rfl H25 ?_
      clear H25; intro a26 H26
      refine plain (y_loadB rfl z_agg3 rfl (by repeat (first | exact Mh | apply Mt)) q_ix_c4_1) rfl rfl rfl H26 ?_
      clear H26; intro a27 H27
      refine plain (y_gtr rfl rfl rfl) rfl rfl rfl H27 ?_
      clear H27; intro a28 H28
      refine plain (y_pick_f rfl rfl rfl) rfl rfl rfl H28 ?_
      clear H28; intro a29 H29
      refine plain (y_move rfl rfl) rfl rfl rfl H29 ?_
      clear H29; intro a30 H30
      refine Sx.part (d := 15) H30 rfl (fun hg31 => ?_) (fun hg31 => ?_)
      · first
        | fail
        | skip
          clear H30; intro H32
          try simp only [decide_eq_true_eq, decide_eq_false_iff_not, Bool.not_eq_true', Bool.not_eq_false', Bool.and_eq_true, Bool.not_eq_true, Bool.not_eq_false] at hg31
          refine skip rfl rfl rfl H32 ?_
          clear H32; intro a33 H33
          refine skip rfl rfl rfl H33 ?_
          clear H33; intro a34 H34
          refine skip rfl rfl rfl H34 ?_
          clear H34; intro a35 H35
          refine skip rfl rfl rfl H35 ?_
          clear H35; intro a36 H36
          refine plain (y_pick_t rfl rfl rfl) rfl rfl rfl H36 ?_
          clear H36; intro a37 H37
          refine fin ?_
          refine then_n ?_
          refine cnd_t H37 rfl ?_
          refine wp_seq ?_
          refine reg ?_
          refine plain (y_assign rfl rfl) rfl rfl rfl H37 ?_
          clear H37; intro a39 H39
          refine fin ?_
          refine then_n ?_
          refine wp_ret ?_
          refine then_r ?_
          -- return 2
          refine ret1 rfl H39 rfl ?_
          try simp only [Note.text0] at *
          refine ⟨_, [], rfl, ⟨?_, rfl⟩, H39.sep.sub (List.nil_sublist _)⟩
          clear H39
          rw [Note.Item.ok_is]
          first | exact congrArg Value.bool (decide_eq_decide.2 (by omega)) | exact congrArg Value.bool (decide_eq_false (by omega)).symm | exact congrArg Value.bool (decide_eq_true (by omega)).symm
      · first
        | fail
        | skip
          clear H30; intro H40
          try simp only [decide_eq_true_eq, decide_eq_false_iff_not, Bool.not_eq_true', Bool.not_eq_false', Bool.and_eq_true, Bool.not_eq_true, Bool.not_eq_false] at hg31
          refine plain (y_fieldB rfl z_field51_3 rfl (by first | (simp only [Nat.zero_add, Nat.add_zero, Nat.reduceAdd]; rfl) | rfl)) rfl rfl rfl H40 ?_
          clear H40; intro a41 H41
          refine plain (y_loadB rfl z_agg9 rfl (by repeat (first | exact Mh | apply Mt)) q_ix_c4_3) rfl rfl rfl H41 ?_
          clear H41; intro a42 H42
          refine plain (y_slen rfl Tryd.underlying9 rfl) rfl rfl rfl H42 ?_
          clear H42; intro a43 H43
          refine plain (y_gtr rfl rfl rfl) rfl rfl rfl H43 ?_
          clear H43; intro a44 H44
          refine plain (y_pick_f rfl rfl rfl) rfl rfl rfl H44 ?_
          clear H44; intro a45 H45
          refine fin ?_
          refine then_n ?_
          refine cnd H45 rfl (fun hc46 => ?_) (fun hc46 => ?_) -- cond 3
          · skip
            try simp only [decide_eq_true_eq, decide_eq_false_iff_not, Bool.not_eq_true', Bool.not_eq_false', Bool.and_eq_true, Bool.not_eq_true, Bool.not_eq_false] at hc46
            refine wp_seq ?_
            refine reg ?_
            refine plain (y_assign rfl rfl) rfl rfl rfl H45 ?_
            clear H45; intro a47 H47
            refine fin ?_
            refine then_n ?_
            refine wp_ret ?_
            refine then_r ?_
            -- return 3
            refine ret1 rfl H47 rfl ?_
            try simp only [Note.text0] at *
            refine ⟨_, [], rfl, ⟨?_, rfl⟩, H47.sep.sub (List.nil_sublist _)⟩
            clear H47
            rw [Note.Item.ok_is]
            first | exact congrArg Value.bool (decide_eq_decide.2 (by omega)) | exact congrArg Value.bool (decide_eq_false (by omega)).symm | exact congrArg Value.bool (decide_eq_true (by omega)).symm
          · skip
            try simp only [decide_eq_true_eq, decide_eq_false_iff_not, Bool.not_eq_true', Bool.not_eq_false', Bool.and_eq_true, Bool.not_eq_true, Bool.not_eq_false] at hc46
            refine wp_skip ?_
            refine then_n ?_
            refine wp_seq ?_
            refine wp_seq ?_
            refine reg ?_
            refine plain (y_fieldB rfl z_field51_0 rfl (by first | (simp only [Nat.zero_add, Nat.add_zero, Nat.reduceAdd]; rfl) | rfl)) rfl rfl rfl H45 ?_
            clear H45; intro a48 H48
            refine plain (y_loadB rfl z_agg3 rfl (by repeat (first | exact Mh | apply Mt)) q_ix_c4_0) rfl rfl rfl H48 ?_
            clear H48; intro a49 H49
            refine fin ?_
            refine then_n ?_
            refine wp_block ?_
            refine wp_seq ?_
            refine wp_seq ?_
            refine reg ?_
            refine plain (y_eql rfl rfl rfl) rfl rfl rfl H49 ?_
            clear H49; intro a50 H50
            refine plain (y_assign rfl rfl) rfl rfl rfl H50 ?_
            clear H50; intro a51 H51
            refine fin ?_
            refine then_n ?_
            refine cnd H51 rfl (fun hc52 => ?_) (fun hc52 => ?_) -- cond 4
            · skip
              try simp only [decide_eq_true_eq, decide_eq_false_iff_not, Bool.not_eq_true', Bool.not_eq_false', Bool.and_eq_true, Bool.not_eq_true, Bool.not_eq_false] at hc52
              refine wp_skip ?_
              refine then_n ?_
              refine cnd H51 rfl (fun hc53 => ?_) (fun hc53 => ?_) -- cond 5
              · skip
                try simp only [decide_eq_true_eq, decide_eq_false_iff_not, Bool.not_eq_true', Bool.not_eq_false', Bool.and_eq_true, Bool.not_eq_true, Bool.not_eq_false] at hc53
                refine wp_seq ?_
                refine reg ?_
                refine plain (y_fieldB rfl z_field51_2 rfl (by first | (simp only [Nat.zero_add, Nat.add_zero, Nat.reduceAdd]; rfl) | rfl)) rfl rfl rfl H51 ?_
                clear H51; intro a54 H54
                refine plain (y_loadB rfl z_agg3 rfl (by repeat (first | exact Mh | apply Mt)) q_ix_c4_2) rfl rfl rfl H54 ?_
                clear H54; intro a55 H55
                refine plain (y_eql rfl rfl rfl) rfl rfl rfl H55 ?_
                clear H55; intro a56 H56
                refine plain (y_assign rfl rfl) rfl rfl rfl H56 ?_
                clear H56; intro a57 H57
                refine fin ?_
                refine then_n ?_
                refine wp_ret ?_
                refine inb_r ?_
                refine then_r ?_
                -- return 4
                refine ret1 rfl H57 rfl ?_
                try simp only [Note.text0] at *
                refine ⟨_, [], rfl, ⟨?_, rfl⟩, H57.sep.sub (List.nil_sublist _)⟩
                clear H57
                rw [Note.Item.ok_is]
                first | exact congrArg Value.bool (decide_eq_decide.2 (by omega)) | exact congrArg Value.bool (decide_eq_false (by omega)).symm | exact congrArg Value.bool (decide_eq_true (by omega)).symm
              · skip
                try simp only [decide_eq_true_eq, decide_eq_false_iff_not, Bool.not_eq_true', Bool.not_eq_false', Bool.and_eq_true, Bool.not_eq_true, Bool.not_eq_false] at hc53
                refine wp_seq ?_
                refine reg ?_
                refine plain (y_eql rfl rfl rfl) rfl rfl rfl H51 ?_
                clear H51; intro a58 H58
                refine plain (y_assign rfl rfl) rfl rfl rfl H58 ?_
                clear H58; intro a59 H59
                refine fin ?_
                refine then_n ?_
                refine cnd H59 rfl (fun hc60 => ?_) (fun hc60 => ?_) -- cond 6
                · skip
                  try simp only [decide_eq_true_eq, decide_eq_false_iff_not, Bool.not_eq_true', Bool.not_eq_false', Bool.and_eq_true, Bool.not_eq_true, Bool.not_eq_false] at hc60
                  refine wp_seq ?_
                  refine reg ?_
                  refine plain (y_fieldB rfl z_field51_1 rfl (by first | (simp only [Nat.zero_add, Nat.add_zero, Nat.reduceAdd]; rfl) | rfl)) rfl rfl rfl H59 ?_
                  clear H59; intro a61 H61
                  refine plain (y_loadB rfl z_agg3 rfl (by repeat (first | exact Mh | apply Mt)) q_ix_c4_1) rfl rfl rfl H61 ?_
                  clear H61; intro a62 H62
                  refine plain (y_eql rfl rfl rfl) rfl rfl rfl H62 ?_
                  clear H62; intro a63 H63
                  refine plain (y_move rfl rfl) rfl rfl rfl H63 ?_
                  clear H63; intro a64 H64
                  refine Sx.part (d := 34) H64 rfl (fun hg65 => ?_) (fun hg65 => ?_)
                  · first
                    | fail
                    | skip
                      clear H64; intro H66
                      try simp only [decide_eq_true_eq, decide_eq_false_iff_not, Bool.not_eq_true', Bool.not_eq_false', Bool.and_eq_true, Bool.not_eq_true, Bool.not_eq_false] at hg65
                      refine plain (y_fieldB rfl z_field51_3 rfl (by first | (simp only [Nat.zero_add, Nat.add_zero, Nat.reduceAdd]; rfl) | rfl)) rfl rfl rfl H66 ?_
                      clear H66; intro a67 H67
                      refine plain (y_loadB rfl z_agg9 rfl (by repeat (first | exact Mh | apply Mt)) q_ix_c4_3) rfl rfl rfl H67 ?_
                      clear H67; intro a68 H68
                      refine plain (y_seql rfl rfl rfl) rfl rfl rfl H68 ?_
                      clear H68; intro a69 H69
                      refine plain (y_pick_t rfl rfl rfl) rfl rfl rfl H69 ?_
                      clear H69; intro a70 H70
                      refine plain (y_assign rfl rfl) rfl rfl rfl H70 ?_
                      clear H70; intro a71 H71
                      refine fin ?_
                      refine then_n ?_
                      refine wp_ret ?_
                      refine inb_r ?_
                      refine then_r ?_
                      -- return 5
                      refine ret1 rfl H71 rfl ?_
                      try simp only [Note.text0] at *
                      refine ⟨_, [], rfl, ⟨?_, rfl⟩, H71.sep.sub (List.nil_sublist _)⟩
                      clear H71
                      rw [Note.Item.ok_is]
                      first | exact congrArg Value.bool (decide_eq_decide.2 (by omega)) | exact congrArg Value.bool (decide_eq_false (by omega)).symm | exact congrArg Value.bool (decide_eq_true (by omega)).symm
                  · first
                    | fail
                    | skip
                      clear H64; intro H72
                      try simp only [decide_eq_true_eq, decide_eq_false_iff_not, Bool.not_eq_true', Bool.not_eq_false', Bool.and_eq_true, Bool.not_eq_true, Bool.not_eq_false] at hg65
                      refine skip rfl rfl rfl H72 ?_
                      clear H72; intro a73 H73
                      refine skip rfl rfl rfl H73 ?_
                      clear H73; intro a74 H74
                      refine skip rfl rfl rfl H74 ?_
                      clear H74; intro a75 H75
                      refine plain (y_pick_f rfl rfl rfl) rfl rfl rfl H75 ?_
                      clear H75; intro a76 H76
                      refine plain (y_assign rfl rfl) rfl rfl rfl H76 ?_
                      clear H76; intro a77 H77
                      refine fin ?_
                      refine then_n ?_
                      refine wp_ret ?_
                      refine inb_r ?_
                      refine then_r ?_
                      -- return 6
                      refine ret1 rfl H77 rfl ?_
                      try simp only [Note.text0] at *
                      refine ⟨_, [], rfl, ⟨?_, rfl⟩, H77.sep.sub (List.nil_sublist _)⟩
                      clear H77
                      rw [Note.Item.ok_is]
                      first | exact congrArg Value.bool (decide_eq_decide.2 (by omega)) | exact congrArg Value.bool (decide_eq_false (by omega)).symm | exact congrArg Value.bool (decide_eq_true (by omega)).symm
                · skip
                  try simp only [decide_eq_true_eq, decide_eq_false_iff_not, Bool.not_eq_true', Bool.not_eq_false', Bool.and_eq_true, Bool.not_eq_true, Bool.not_eq_false] at hc60
                  refine wp_skip ?_
                  refine inb_n ?_
                  refine then_n ?_
                  refine wp_seq ?_
                  refine reg ?_
                  refine plain (y_assign rfl rfl) rfl rfl rfl H59 ?_
                  clear H59; intro a78 H78
                  refine fin ?_
                  refine then_n ?_
                  refine wp_ret ?_
                  -- return 7
                  refine ret1 rfl H78 rfl ?_
                  try simp only [Note.text0] at *
                  refine ⟨_, [], rfl, ⟨?_, rfl⟩, H78.sep.sub (List.nil_sublist _)⟩
                  clear H78
                  rw [Note.Item.ok_is]
                  first | exact congrArg Value.bool (decide_eq_decide.2 (by omega)) | exact congrArg Value.bool (decide_eq_false (by omega)).symm | exact congrArg Value.bool (decide_eq_true (by omega)).symm
            · skip
              try simp only [decide_eq_true_eq, decide_eq_false_iff_not, Bool.not_eq_true', Bool.not_eq_false', Bool.and_eq_true, Bool.not_eq_true, Bool.not_eq_false] at hc52
              refine reg ?_
              refine plain (y_eql rfl rfl rfl) rfl rfl rfl H51 ?_
              clear H51; intro a79 H79
              refine plain (y_assign rfl rfl) rfl rfl rfl H79 ?_
              clear H79; intro a80 H80
              refine fin ?_
              refine then_n ?_
              refine cnd H80 rfl (fun hc81 => ?_) (fun hc81 => ?_) -- cond 7
              · skip
                try simp only [decide_eq_true_eq, decide_eq_false_iff_not, Bool.not_eq_true', Bool.not_eq_false', Bool.and_eq_true, Bool.not_eq_true, Bool.not_eq_false] at hc81
                refine wp_seq ?_
                refine reg ?_
                refine plain (y_fieldB rfl z_field51_2 rfl (by first | (simp only [Nat.zero_add, Nat.add_zero, Nat.reduceAdd]; rfl) | rfl)) rfl rfl rfl H80 ?_
                clear H80; intro a82 H82
                refine plain (y_loadB rfl z_agg3 rfl (by repeat (first | exact Mh | apply Mt)) q_ix_c4_2) rfl rfl rfl H82 ?_
                clear H82; intro a83 H83
                refine plain (y_eql rfl rfl rfl) rfl rfl rfl H83 ?_
                clear H83; intro a84 H84
                refine plain (y_assign rfl rfl) rfl rfl rfl H84 ?_
                clear H84; intro a85 H85
                refine fin ?_
                refine then_n ?_
                refine wp_ret ?_
                refine inb_r ?_
                refine then_r ?_
                -- return 8
                refine ret1 rfl H85 rfl ?_
                try simp only [Note.text0] at *
                refine ⟨_, [], rfl, ⟨?_, rfl⟩, H85.sep.sub (List.nil_sublist _)⟩
                clear H85
                rw [Note.Item.ok_is]
                first | exact congrArg Value.bool (decide_eq_decide.2 (by omega)) | exact congrArg Value.bool (decide_eq_false (by omega)).symm | exact congrArg Value.bool (decide_eq_true (by omega)).symm
              · skip
                try simp only [decide_eq_true_eq, decide_eq_false_iff_not, Bool.not_eq_true', Bool.not_eq_false', Bool.and_eq_true, Bool.not_eq_true, Bool.not_eq_false] at hc81
                refine wp_seq ?_
                refine reg ?_
                refine plain (y_eql rfl rfl rfl) rfl rfl rfl H80 ?_
                clear H80; intro a86 H86
                refine plain (y_assign rfl rfl) rfl rfl rfl H86 ?_
                clear H86; intro a87 H87
                refine fin ?_
                refine then_n ?_
                refine cnd H87 rfl (fun hc88 => ?_) (fun hc88 => ?_) -- cond 8
                · skip
                  try simp only [decide_eq_true_eq, decide_eq_false_iff_not, Bool.not_eq_true', Bool.not_eq_false', Bool.and_eq_true, Bool.not_eq_true, Bool.not_eq_false] at hc88
                  refine wp_seq ?_
                  refine reg ?_
                  refine plain (y_fieldB rfl z_field51_1 rfl (by first | (simp only [Nat.zero_add, Nat.add_zero, Nat.reduceAdd]; rfl) | rfl)) rfl rfl rfl H87 ?_
                  clear H87; intro a89 H89
                  refine plain (y_loadB rfl z_agg3 rfl (by repeat (first | exact Mh | apply Mt)) q_ix_c4_1) rfl rfl rfl H89 ?_
                  clear H89; intro a90 H90
                  refine plain (y_eql rfl rfl rfl) rfl rfl rfl H90 ?_
                  clear H90; intro a91 H91
                  refine plain (y_move rfl rfl) rfl rfl rfl H91 ?_
                  clear H91; intro a92 H92
                  refine Sx.part (d := 34) H92 rfl (fun hg93 => ?_) (fun hg93 => ?_)
                  · first
                    | fail
                    | skip
                      clear H92; intro H94
                      try simp only [decide_eq_true_eq, decide_eq_false_iff_not, Bool.not_eq_true', Bool.not_eq_false', Bool.and_eq_true, Bool.not_eq_true, Bool.not_eq_false] at hg93
                      refine plain (y_fieldB rfl z_field51_3 rfl (by first | (simp only [Nat.zero_add, Nat.add_zero, Nat.reduceAdd]; rfl) | rfl)) rfl rfl rfl H94 ?_
                      clear H94; intro a95 H95
                      refine plain (y_loadB rfl z_agg9 rfl (by repeat (first | exact Mh | apply Mt)) q_ix_c4_3) rfl rfl rfl H95 ?_
                      clear H95; intro a96 H96
                      refine plain (y_seql rfl rfl rfl) rfl rfl rfl H96 ?_
                      clear H96; intro a97 H97
                      refine plain (y_pick_t rfl rfl rfl) rfl rfl rfl H97 ?_
                      clear H97; intro a98 H98
                      refine plain (y_assign rfl rfl) rfl rfl rfl H98 ?_
                      clear H98; intro a99 H99
                      refine fin ?_
                      refine then_n ?_
                      refine wp_ret ?_
                      refine inb_r ?_
                      refine then_r ?_
                      -- return 9
                      refine ret1 rfl H99 rfl ?_
                      try simp only [Note.text0] at *
                      refine ⟨_, [], rfl, ⟨?_, rfl⟩, H99.sep.sub (List.nil_sublist _)⟩
                      clear H99
                      rw [Note.Item.ok_is]
                      first | exact congrArg Value.bool (decide_eq_decide.2 (by omega)) | exact congrArg Value.bool (decide_eq_false (by omega)).symm | exact congrArg Value.bool (decide_eq_true (by omega)).symm
                  · first
                    | fail
                    | skip
                      clear H92; intro H100
                      try simp only [decide_eq_true_eq, decide_eq_false_iff_not, Bool.not_eq_true', Bool.not_eq_false', Bool.and_eq_true, Bool.not_eq_true, Bool.not_eq_false] at hg93
                      refine skip rfl rfl rfl H100 ?_
                      clear H100; intro a101 H101
                      refine skip rfl rfl rfl H101 ?_
                      clear H101; intro a102 H102
                      refine skip rfl rfl rfl H102 ?_
                      clear H102; intro a103 H103
                      refine plain (y_pick_f rfl rfl rfl) rfl rfl rfl H103 ?_
                      clear H103; intro a104 H104
                      refine plain (y_assign rfl rfl) rfl rfl rfl H104 ?_
                      clear H104; intro a105 H105
                      refine fin ?_
                      refine then_n ?_
                      refine wp_ret ?_
                      refine inb_r ?_
                      refine then_r ?_
                      -- return 10
                      refine ret1 rfl H105 rfl ?_
                      try simp only [Note.text0] at *
                      refine ⟨_, [], rfl, ⟨?_, rfl⟩, H105.sep.sub (List.nil_sublist _)⟩
                      clear H105
                      rw [Note.Item.ok_is]
                      first | exact congrArg Value.bool (decide_eq_decide.2 (by omega)) | exact congrArg Value.bool (decide_eq_false (by omega)).symm | exact congrArg Value.bool (decide_eq_true (by omega)).symm
                · skip
                  try simp only [decide_eq_true_eq, decide_eq_false_iff_not, Bool.not_eq_true', Bool.not_eq_false', Bool.and_eq_true, Bool.not_eq_true, Bool.not_eq_false] at hc88
                  refine wp_skip ?_
                  refine inb_n ?_
                  refine then_n ?_
                  refine wp_seq ?_
                  refine reg ?_
                  refine plain (y_assign rfl rfl) rfl rfl rfl H87 ?_
                  clear H87; intro a106 H106
                  refine fin ?_
                  refine then_n ?_
                  refine wp_ret ?_
                  -- return 11
                  refine ret1 rfl H106 rfl ?_
                  try simp only [Note.text0] at *
                  refine ⟨_, [], rfl, ⟨?_, rfl⟩, H106.sep.sub (List.nil_sublist _)⟩
                  clear H106
                  rw [Note.Item.ok_is]
                  first | exact congrArg Value.bool (decide_eq_decide.2 (by omega)) | exact congrArg Value.bool (decide_eq_false (by omega)).symm | exact congrArg Value.bool (decide_eq_true (by omega)).symm
set_option maxRecDepth 100000 in
set_option maxHeartbeats 1000000 in
theorem nwitem (i : Note.Item) (wf : Note.Item.Wf i) (w : World) : Calls Tryd.prog 24 #[.agg (Note.Item.cells i).toArray] w (Gives (.tuple #[str (Note.writeItem i).1, .int .i64 (Note.writeItem i).2]) [] w) := by
  have lz32 : (List.replicate 32 (0 : UInt8)).length = 32 := List.length_replicate
  refine enterL (args := [.agg (Note.Item.cells i).toArray]) Tryd.func24 rfl rfl (l := []) (Sep.refl _) ?_
  intro a0 H0
  refine wp_seq ?_
  refine reg ?_
  refine st_box rfl rfl (agg_cells _) rfl rfl rfl H0 ?_
  clear H0; intro b1 a1 wx1 H1
  refine plain (y_assign rfl rfl) rfl rfl rfl H1 ?_
  clear H1; intro a2 H2
  refine plain (y_assign rfl rfl) rfl rfl rfl H2 ?_
  clear H2; intro a3 H3
  refine fin ?_
  refine then_n ?_
  refine wp_seq ?_
  refine wp_seq ?_
  refine reg ?_
  refine plain (y_loadAB rfl z_agg51 z_size51 rfl (by repeat (first | exact Mh | apply Mt)) q_ld_c4_0_4 q_len_c4) rfl rfl rfl H3 ?_
  clear H3; intro a4 H4
  refine st_callg rfl z_call32 rfl rfl rfl rfl H4 (nitem i wf _) ?_
  clear H4; intro a5 wx5 H5
  refine plain ((by first | exact y_not_d rfl rfl | exact y_not rfl rfl)) rfl rfl rfl H5 ?_
  clear H5; intro a6 H6
  refine fin ?_
  refine then_n ?_
  refine cnd H6 rfl (fun hc7 => ?_) (fun hc7 => ?_) -- cond 1
  · skip
    try simp only [decide_eq_true_eq, decide_eq_false_iff_not, Bool.not_eq_true', Bool.not_eq_false', Bool.and_eq_true, Bool.not_eq_true, Bool.not_eq_false] at hc7
    have hk := hc7
    refine wp_seq ?_
    refine reg ?_
    refine plain (y_assign rfl rfl) rfl rfl rfl H6 ?_
    clear H6; intro a8 H8
    refine plain (y_assign rfl rfl) rfl rfl rfl H8 ?_
    clear H8; intro a9 H9
    refine fin ?_
    refine then_n ?_
    refine wp_ret ?_
    refine then_r ?_
    -- return 1
    refine ret2 rfl H9 rfl rfl ?_
    exact ⟨_, [], rfl, ⟨by rw [Note.writeItem, hk]; rfl, rfl⟩, H9.sep.sub (List.nil_sublist _)⟩
  · skip
    try simp only [decide_eq_true_eq, decide_eq_false_iff_not, Bool.not_eq_true', Bool.not_eq_false', Bool.and_eq_true, Bool.not_eq_true, Bool.not_eq_false] at hc7
    have hk := hc7
    refine wp_skip ?_
    refine then_n ?_
    refine wp_seq ?_
    refine hreg _ (fun _ h => h) (by kernel_rfl) H6 ?_
    clear H6; intro wx10 H10
    refine htake 0 rfl (by kernel_rfl) (y_fieldB rfl z_field51_0 rfl (by first | (simp only [Nat.zero_add, Nat.add_zero, Nat.reduceAdd]; rfl) | rfl)) rfl rfl rfl (fun _ h => (h.sub (by first | exact S0 | exact S1 | repeat (first | exact S1 | exact S0 | apply S2 | apply S3)))) H10 ?_
    clear H10; intro a11 H11
    refine htake 1 rfl (by kernel_rfl) (y_loadB rfl z_agg3 rfl (by repeat (first | exact Mh | apply Mt)) q_ix_c4_0) rfl rfl rfl (fun _ h => (h.sub (by first | exact S0 | exact S1 | repeat (first | exact S1 | exact S0 | apply S2 | apply S3)))) H11 ?_
    clear H11; intro a12 H12
    refine htake 2 rfl (by kernel_rfl) (y_fieldB rfl z_field51_1 rfl (by first | (simp only [Nat.zero_add, Nat.add_zero, Nat.reduceAdd]; rfl) | rfl)) rfl rfl rfl (fun _ h => (h.sub (by first | exact S0 | exact S1 | repeat (first | exact S1 | exact S0 | apply S2 | apply S3)))) H12 ?_
    clear H12; intro a13 H13
    refine htake 3 rfl (by kernel_rfl) (y_loadB rfl z_agg3 rfl (by repeat (first | exact Mh | apply Mt)) q_ix_c4_1) rfl rfl rfl (fun _ h => (h.sub (by first | exact S0 | exact S1 | repeat (first | exact S1 | exact S0 | apply S2 | apply S3)))) H13 ?_
    clear H13; intro a14 H14
    refine htake 4 rfl (by kernel_rfl) (y_fieldB rfl z_field51_2 rfl (by first | (simp only [Nat.zero_add, Nat.add_zero, Nat.reduceAdd]; rfl) | rfl)) rfl rfl rfl (fun _ h => (h.sub (by first | exact S0 | exact S1 | repeat (first | exact S1 | exact S0 | apply S2 | apply S3)))) H14 ?_
    clear H14; intro a15 H15
    refine htake 5 rfl (by kernel_rfl) (y_loadB rfl z_agg3 rfl (by repeat (first | exact Mh | apply Mt)) q_ix_c4_2) rfl rfl rfl (fun _ h => (h.sub (by first | exact S0 | exact S1 | repeat (first | exact S1 | exact S0 | apply S2 | apply S3)))) H15 ?_
    clear H15; intro a16 H16
    refine htake 8 rfl (by kernel_rfl) (y_fieldB rfl z_field51_3 rfl (by first | (simp only [Nat.zero_add, Nat.add_zero, Nat.reduceAdd]; rfl) | rfl)) rfl rfl rfl (fun _ h => (h.sub (by first | exact S0 | exact S1 | repeat (first | exact S1 | exact S0 | apply S2 | apply S3)))) H16 ?_
    clear H16; intro a17 H17
    refine htake 9 rfl (by kernel_rfl) (y_loadB rfl z_agg9 rfl (by repeat (first | exact Mh | apply Mt)) q_ix_c4_3) rfl rfl rfl (fun _ h => (h.sub (by first | exact S0 | exact S1 | repeat (first | exact S1 | exact S0 | apply S2 | apply S3)))) H17 ?_
    clear H17; intro a18 H18
    refine hgo2 6 10 rfl rfl (by kernel_rfl) ?_ ?_
    · skip
      refine st_buildSlice1 (xs := [.tmp 8, .tmp 10, .tmp 12]) rfl Tryd.underlying45 z_size3 z_zero3 rfl rfl rfl rfl rfl rfl rfl rfl rfl H18 ?_
      clear H18; intro b19 a19 wx19 H19
      refine hfin (H19.sep.sub (by first | exact S0 | exact S1 | repeat (first | exact S1 | exact S0 | apply S2 | apply S3))) ?_
      refine hgo2 7 10 rfl rfl (by kernel_rfl) ?_ ?_
      · skip
        refine st_call rfl z_call34 rfl rfl rfl rfl H19 (nlay [i.kind, i.who, i.n] _ _ _ rfl (by simp) (by intro x hx; simp only [List.mem_cons, List.not_mem_nil, or_false] at hx; rcases hx with rfl | rfl | rfl <;> first | exact wf.kind.2 | exact wf.who.2 | exact wf.n.2) (Rd.ofSep (rd_blkA (by repeat (first | exact Mh | apply Mt))) H19.sep)) ?_
        clear H19; intro v20 l20 a20 wx20 hf20 H20
        obtain rfl := hf20
        simp only [List.cons_append, List.nil_append] at H20
        obtain ⟨Ar20, cr20, hvr20, hRr20, hmr20⟩ := row_shape (v := v20) H20.sep (by repeat (first | exact Mh | apply Mt))
        subst hvr20
        refine hfin (H20.sep.sub (by first | exact S0 | exact S1 | repeat (first | exact S1 | exact S0 | apply S2 | apply S3))) ?_
        refine hgo 10 rfl (by kernel_rfl) ?_
        refine st_buildSlice1 (xs := [.tmp 16]) rfl Tryd.underlying40 z_size9 z_zero9 rfl rfl rfl rfl rfl rfl rfl rfl rfl H20 ?_
        clear H20; intro b21 a21 wx21 H21
        refine hfin (H21.sep.sub (by first | exact S0 | exact S1 | repeat (first | exact S1 | exact S0 | apply S2 | apply S3))) ?_
        refine hgo 11 rfl (by kernel_rfl) ?_
        refine st_append rfl z_slice40 z_notint40 rfl rfl (fun _ => (by repeat (first | exact Uh | apply Ut))) (fun w hs => Src.slice ((rd_blkA (by repeat (first | exact Mh | apply Mt))) w hs) rfl (by simp [Value.oneCell'])) (by unfold maxLen at *; first | omega | (simp only [List.length_cons, List.length_nil, List.length_append, List.length_map]; omega)) (by first | omega | (simp only [List.length_cons, List.length_nil, List.length_append, List.length_map]; omega)) rfl rfl rfl H21 ?_
        clear H21; intro v22 a22 wx22 hnil22 H22
        obtain ⟨Ar22, cr22, hvr22, hRr22, hmr22⟩ := row_shape (v := v22) H22.sep (by repeat (first | exact Mh | apply Mt))
        subst hvr22
        refine hfin (H22.sep.sub (by first | exact S0 | exact S1 | repeat (first | exact S1 | exact S0 | apply S2 | apply S3))) ?_
        refine hgo 12 rfl (by kernel_rfl) ?_
        refine st_callg rfl z_call33 rfl rfl rfl rfl H22 (nwrite [Note.num i.kind, Note.num i.who, Note.num i.n, i.text] _ _ _ rfl (Rd.ofSep (rd_row (by repeat (first | exact Mh | apply Mt))) H22.sep) (by simp)) ?_
        clear H22; intro a23 wx23 H23
        refine hfin (H23.sep.sub (by first | exact S0 | exact S1 | repeat (first | exact S1 | exact S0 | apply S2 | apply S3))) ?_
        refine htake 13 rfl (by kernel_rfl) (y_extract rfl rfl rfl) rfl rfl rfl (fun _ h => (h.sub (by first | exact S0 | exact S1 | repeat (first | exact S1 | exact S0 | apply S2 | apply S3)))) H23 ?_
        clear H23; intro a24 H24
        refine htake 14 rfl (by kernel_rfl) (y_extract rfl rfl rfl) rfl rfl rfl (fun _ h => (h.sub (by first | exact S0 | exact S1 | repeat (first | exact S1 | exact S0 | apply S2 | apply S3)))) H24 ?_
        clear H24; intro a25 H25
        refine htake 15 rfl (by kernel_rfl) (y_assign rfl rfl) rfl rfl rfl (fun _ h => (h.sub (by first | exact S0 | exact S1 | repeat (first | exact S1 | exact S0 | apply S2 | apply S3)))) H25 ?_
        clear H25; intro a26 H26
        refine htake 16 rfl (by kernel_rfl) (y_assign rfl rfl) rfl rfl rfl (fun _ h => (h.sub (by first | exact S0 | exact S1 | repeat (first | exact S1 | exact S0 | apply S2 | apply S3)))) H26 ?_
        clear H26; intro a27 H27
        refine hdone (by kernel_rfl) ?_
        refine then_n ?_
        refine wp_ret ?_
        -- return 2
        refine ret2 rfl H27 rfl rfl ?_
        exact ⟨_, [], rfl, ⟨by rw [Note.writeItem, hk]; rfl, rfl⟩, H27.sep.sub (List.nil_sublist _)⟩
      · skip
        refine st_buildSlice1 (xs := [.tmp 16]) rfl Tryd.underlying40 z_size9 z_zero9 rfl rfl rfl rfl rfl rfl rfl rfl rfl H19 ?_
        clear H19; intro b28 a28 wx28 H28
        refine hfin (H28.sep.sub (by first | exact S0 | exact S1 | repeat (first | exact S1 | exact S0 | apply S2 | apply S3))) ?_
        refine hgo 7 rfl (by kernel_rfl) ?_
        refine st_call rfl z_call34 rfl rfl rfl rfl H28 (nlay [i.kind, i.who, i.n] _ _ _ rfl (by simp) (by intro x hx; simp only [List.mem_cons, List.not_mem_nil, or_false] at hx; rcases hx with rfl | rfl | rfl <;> first | exact wf.kind.2 | exact wf.who.2 | exact wf.n.2) (Rd.ofSep (rd_blkA (by repeat (first | exact Mh | apply Mt))) H28.sep)) ?_
        clear H28; intro v29 l29 a29 wx29 hf29 H29
        obtain rfl := hf29
        simp only [List.cons_append, List.nil_append] at H29
        obtain ⟨Ar29, cr29, hvr29, hRr29, hmr29⟩ := row_shape (v := v29) H29.sep (by repeat (first | exact Mh | apply Mt))
        subst hvr29
        refine hfin (H29.sep.sub (by first | exact S0 | exact S1 | repeat (first | exact S1 | exact S0 | apply S2 | apply S3))) ?_
        refine hgo 11 rfl (by kernel_rfl) ?_
        refine st_append rfl z_slice40 z_notint40 rfl rfl (fun _ => (by repeat (first | exact Uh | apply Ut))) (fun w hs => Src.slice ((rd_blkA (by repeat (first | exact Mh | apply Mt))) w hs) rfl (by simp [Value.oneCell'])) (by unfold maxLen at *; first | omega | (simp only [List.length_cons, List.length_nil, List.length_append, List.length_map]; omega)) (by first | omega | (simp only [List.length_cons, List.length_nil, List.length_append, List.length_map]; omega)) rfl rfl rfl H29 ?_
        clear H29; intro v30 a30 wx30 hnil30 H30
        obtain ⟨Ar30, cr30, hvr30, hRr30, hmr30⟩ := row_shape (v := v30) H30.sep (by repeat (first | exact Mh | apply Mt))
        subst hvr30
        refine hfin (H30.sep.sub (by first | exact S0 | exact S1 | repeat (first | exact S1 | exact S0 | apply S2 | apply S3))) ?_
        refine hgo 12 rfl (by kernel_rfl) ?_
        refine st_callg rfl z_call33 rfl rfl rfl rfl H30 (nwrite [Note.num i.kind, Note.num i.who, Note.num i.n, i.text] _ _ _ rfl (Rd.ofSep (rd_row (by repeat (first | exact Mh | apply Mt))) H30.sep) (by simp)) ?_
        clear H30; intro a31 wx31 H31
        refine hfin (H31.sep.sub (by first | exact S0 | exact S1 | repeat (first | exact S1 | exact S0 | apply S2 | apply S3))) ?_
        refine htake 13 rfl (by kernel_rfl) (y_extract rfl rfl rfl) rfl rfl rfl (fun _ h => (h.sub (by first | exact S0 | exact S1 | repeat (first | exact S1 | exact S0 | apply S2 | apply S3)))) H31 ?_
        clear H31; intro a32 H32
        refine htake 14 rfl (by kernel_rfl) (y_extract rfl rfl rfl) rfl rfl rfl (fun _ h => (h.sub (by first | exact S0 | exact S1 | repeat (first | exact S1 | exact S0 | apply S2 | apply S3)))) H32 ?_
        clear H32; intro a33 H33
        refine htake 15 rfl (by kernel_rfl) (y_assign rfl rfl) rfl rfl rfl (fun _ h => (h.sub (by first | exact S0 | exact S1 | repeat (first | exact S1 | exact S0 | apply S2 | apply S3)))) H33 ?_
        clear H33; intro a34 H34
        refine htake 16 rfl (by kernel_rfl) (y_assign rfl rfl) rfl rfl rfl (fun _ h => (h.sub (by first | exact S0 | exact S1 | repeat (first | exact S1 | exact S0 | apply S2 | apply S3)))) H34 ?_
        clear H34; intro a35 H35
        refine hdone (by kernel_rfl) ?_
        refine then_n ?_
        refine wp_ret ?_
        -- return 3
        refine ret2 rfl H35 rfl rfl ?_
        exact ⟨_, [], rfl, ⟨by rw [Note.writeItem, hk]; rfl, rfl⟩, H35.sep.sub (List.nil_sublist _)⟩
    · skip
      refine st_buildSlice1 (xs := [.tmp 16]) rfl Tryd.underlying40 z_size9 z_zero9 rfl rfl rfl rfl rfl rfl rfl rfl rfl H18 ?_
      clear H18; intro b36 a36 wx36 H36
      refine hfin (H36.sep.sub (by first | exact S0 | exact S1 | repeat (first | exact S1 | exact S0 | apply S2 | apply S3))) ?_
      refine hgo 6 rfl (by kernel_rfl) ?_
      refine st_buildSlice1 (xs := [.tmp 8, .tmp 10, .tmp 12]) rfl Tryd.underlying45 z_size3 z_zero3 rfl rfl rfl rfl rfl rfl rfl rfl rfl H36 ?_
      clear H36; intro b37 a37 wx37 H37
      refine hfin (H37.sep.sub (by first | exact S0 | exact S1 | repeat (first | exact S1 | exact S0 | apply S2 | apply S3))) ?_
      refine hgo 7 rfl (by kernel_rfl) ?_
      refine st_call rfl z_call34 rfl rfl rfl rfl H37 (nlay [i.kind, i.who, i.n] _ _ _ rfl (by simp) (by intro x hx; simp only [List.mem_cons, List.not_mem_nil, or_false] at hx; rcases hx with rfl | rfl | rfl <;> first | exact wf.kind.2 | exact wf.who.2 | exact wf.n.2) (Rd.ofSep (rd_blkA (by repeat (first | exact Mh | apply Mt))) H37.sep)) ?_
      clear H37; intro v38 l38 a38 wx38 hf38 H38
      obtain rfl := hf38
      simp only [List.cons_append, List.nil_append] at H38
      obtain ⟨Ar38, cr38, hvr38, hRr38, hmr38⟩ := row_shape (v := v38) H38.sep (by repeat (first | exact Mh | apply Mt))
      subst hvr38
      refine hfin (H38.sep.sub (by first | exact S0 | exact S1 | repeat (first | exact S1 | exact S0 | apply S2 | apply S3))) ?_
      refine hgo 11 rfl (by kernel_rfl) ?_
      refine st_append rfl z_slice40 z_notint40 rfl rfl (fun _ => (by repeat (first | exact Uh | apply Ut))) (fun w hs => Src.slice ((rd_blkA (by repeat (first | exact Mh | apply Mt))) w hs) rfl (by simp [Value.oneCell'])) (by unfold maxLen at *; first | omega | (simp only [List.length_cons, List.length_nil, List.length_append, List.length_map]; omega)) (by first | omega | (simp only [List.length_cons, List.length_nil, List.length_append, List.length_map]; omega)) rfl rfl rfl H38 ?_
      clear H38; intro v39 a39 wx39 hnil39 H39
      obtain ⟨Ar39, cr39, hvr39, hRr39, hmr39⟩ := row_shape (v := v39) H39.sep (by repeat (first | exact Mh | apply Mt))
      subst hvr39
      refine hfin (H39.sep.sub (by first | exact S0 | exact S1 | repeat (first | exact S1 | exact S0 | apply S2 | apply S3))) ?_
      refine hgo 12 rfl (by kernel_rfl) ?_
      refine st_callg rfl z_call33 rfl rfl rfl rfl H39 (nwrite [Note.num i.kind, Note.num i.who, Note.num i.n, i.text] _ _ _ rfl (Rd.ofSep (rd_row (by repeat (first | exact Mh | apply Mt))) H39.sep) (by simp)) ?_
      clear H39; intro a40 wx40 H40
      refine hfin (H40.sep.sub (by first | exact S0 | exact S1 | repeat (first | exact S1 | exact S0 | apply S2 | apply S3))) ?_
      refine htake 13 rfl (by kernel_rfl) (y_extract rfl rfl rfl) rfl rfl rfl (fun _ h => (h.sub (by first | exact S0 | exact S1 | repeat (first | exact S1 | exact S0 | apply S2 | apply S3)))) H40 ?_
      clear H40; intro a41 H41
      refine htake 14 rfl (by kernel_rfl) (y_extract rfl rfl rfl) rfl rfl rfl (fun _ h => (h.sub (by first | exact S0 | exact S1 | repeat (first | exact S1 | exact S0 | apply S2 | apply S3)))) H41 ?_
      clear H41; intro a42 H42
      refine htake 15 rfl (by kernel_rfl) (y_assign rfl rfl) rfl rfl rfl (fun _ h => (h.sub (by first | exact S0 | exact S1 | repeat (first | exact S1 | exact S0 | apply S2 | apply S3)))) H42 ?_
      clear H42; intro a43 H43
      refine htake 16 rfl (by kernel_rfl) (y_assign rfl rfl) rfl rfl rfl (fun _ h => (h.sub (by first | exact S0 | exact S1 | repeat (first | exact S1 | exact S0 | apply S2 | apply S3)))) H43 ?_
      clear H43; intro a44 H44
      refine hdone (by kernel_rfl) ?_
      refine then_n ?_
      refine wp_ret ?_
      -- return 4
      refine ret2 rfl H44 rfl rfl ?_
      exact ⟨_, [], rfl, ⟨by rw [Note.writeItem, hk]; rfl, rfl⟩, H44.sep.sub (List.nil_sublist _)⟩

end Go.Proofs.YtbdkgmkaakoigaaDoor.I_Item

set_option linter.unusedVariables false
set_option linter.unusedSimpArgs false
namespace Go.Proofs.YtbdkgmkaakoigaaDoor.I_RefI
open Go.Sx Go.RowKit Go.Proofs.YtbdkgmkaakoigaaDoor.I_Num

theorem z_field51_1 : fieldB Tryd.prog 51 1 = some 1 := by kernel_rfl
theorem z_agg3 : aggB Tryd.prog 3 = some false := by kernel_rfl
theorem q_ix_c4_1 {a0 a1 a2 a3 : Value} : (a0 :: a1 :: a2 :: a3 :: [])[1]? = some a1 := (ix_c (o := 0) ix_0)
theorem z_field51_2 : fieldB Tryd.prog 51 2 = some 2 := by kernel_rfl
theorem q_ix_c4_2 {a0 a1 a2 a3 : Value} : (a0 :: a1 :: a2 :: a3 :: [])[2]? = some a2 := (ix_c (o := 1) (ix_c (o := 0) ix_0))
theorem z_field51_3 : fieldB Tryd.prog 51 3 = some 3 := by kernel_rfl
theorem z_agg9 : aggB Tryd.prog 9 = some false := by kernel_rfl
theorem q_ix_c4_3 {a0 a1 a2 a3 : Value} : (a0 :: a1 :: a2 :: a3 :: [])[3]? = some a3 := (ix_c (o := 2) (ix_c (o := 1) (ix_c (o := 0) ix_0)))
theorem z_field51_0 : fieldB Tryd.prog 51 0 = some 0 := by kernel_rfl
theorem q_ix_c4_0 {a0 a1 a2 a3 : Value} : (a0 :: a1 :: a2 :: a3 :: [])[0]? = some a0 := ix_0

end Go.Proofs.YtbdkgmkaakoigaaDoor.I_RefI

set_option linter.unusedVariables false
set_option linter.unusedSimpArgs false
namespace Go.Proofs.YtbdkgmkaakoigaaDoor.I_Eq
open Go.Sx Go.RowKit

theorem z_agg33 : aggB Tryd.prog 33 = some true := by kernel_rfl
theorem z_size33 : sizeB Tryd.prog 33 = some 32 := by kernel_rfl
theorem q_len_c3b32 {a0 a1 a2 : Value} {t3 : List UInt8} (h3 : t3.length = 32) : (a0 :: a1 :: a2 :: t3.map u8).length = 35 := (len_c (n := 34) (len_c (n := 33) (len_c (n := 32) (len_e (k := 32) h3))))
theorem z_size5 : sizeB Tryd.prog 5 = some 1 := by kernel_rfl
theorem z_agg3 : aggB Tryd.prog 3 = some false := by kernel_rfl
theorem z_agg9 : aggB Tryd.prog 9 = some false := by kernel_rfl
end Go.Proofs.YtbdkgmkaakoigaaDoor.I_Eq

set_option linter.unusedVariables false
set_option linter.unusedSimpArgs false
namespace Go.Proofs.YtbdkgmkaakoigaaDoor.I_Put
open Go.Sx Go.RowKit Go.Proofs.YtbdkgmkaakoigaaDoor.I_Block Go.Proofs.YtbdkgmkaakoigaaDoor.I_Sum Go.Proofs.YtbdkgmkaakoigaaDoor.I_Ref Go.Proofs.YtbdkgmkaakoigaaDoor.I_RSum Go.Proofs.YtbdkgmkaakoigaaDoor.I_Num Go.Proofs.YtbdkgmkaakoigaaDoor.I_Lay Go.Proofs.YtbdkgmkaakoigaaDoor.I_Leaf Go.Proofs.YtbdkgmkaakoigaaDoor.I_Item Go.Proofs.YtbdkgmkaakoigaaDoor.I_RefI Go.Proofs.YtbdkgmkaakoigaaDoor.I_Eq

theorem z_call21 : callB Tryd.prog 21 = true := by kernel_rfl
theorem z_size9 : sizeB Tryd.prog 9 = some 1 := by kernel_rfl
theorem z_zero9 : zeroL Tryd.prog 9 = some ([.string ⟨#[]⟩]) := by kernel_rfl
theorem z_call22 : callB Tryd.prog 22 = true := by kernel_rfl
theorem z_agg33 : aggB Tryd.prog 33 = some true := by kernel_rfl
theorem z_size33 : sizeB Tryd.prog 33 = some 32 := by kernel_rfl
theorem q_ld_b32_0_32 {t0 : List UInt8} (h0 : t0.length = 32) : ((t0.map u8).drop 0).take 32 = t0.map u8 := (ld_a (len_e (k := 32) h0))
theorem q_len_b32 {t0 : List UInt8} (h0 : t0.length = 32) : (t0.map u8).length = 32 := (len_e (k := 32) h0)
theorem z_call23 : callB Tryd.prog 23 = true := by kernel_rfl
theorem q_one_b32 {t0 : List UInt8} : (t0.map u8).all (·.oneCell') = true := (one_u8 _)
theorem q_spl_b32_0_b32 {t0 : List UInt8} {s0 : List UInt8} (h0 : t0.length = 32) (g0 : s0.length = 32) : spl (t0.map u8) 0 (s0.map u8) = s0.map u8 := (spl_a (z := 32) (len_e (k := 32) h0) (len_e (k := 32) g0))
theorem z_agg22 : aggB Tryd.prog 22 = some false := by kernel_rfl
theorem q_ix_c1_0 {a0 : Value} : (a0 :: [])[0]? = some a0 := ix_0
theorem z_zeroN38 : zeroL Tryd.prog 38 = some ((.int .i64 0 :: (.string ⟨#[]⟩ :: (.int .i64 0 :: (List.replicate 32 (0 : UInt8)).map u8)))) := by kernel_rfl
theorem z_places38 : placesB Tryd.prog 38 = some [(0, 1), (1, 1), (2, 1), (3, 32)] := by kernel_rfl
theorem q_len_c3b32 {a0 a1 a2 : Value} {t3 : List UInt8} (h3 : t3.length = 32) : (a0 :: a1 :: a2 :: t3.map u8).length = 35 := (len_c (n := 34) (len_c (n := 33) (len_c (n := 32) (len_e (k := 32) h3))))
theorem q_spl_c3b32_0_c1 {a0 a1 a2 : Value} {t3 : List UInt8} {b0 : Value} : spl (a0 :: a1 :: a2 :: t3.map u8) 0 (b0 :: []) = b0 :: a1 :: a2 :: t3.map u8 := spl_0
theorem q_spl_c3b32_1_c1 {a0 a1 a2 : Value} {t3 : List UInt8} {b0 : Value} : spl (a0 :: a1 :: a2 :: t3.map u8) 1 (b0 :: []) = a0 :: b0 :: a2 :: t3.map u8 := (spl_c (o := 0) spl_0)
theorem q_spl_c3b32_2_c1 {a0 a1 a2 : Value} {t3 : List UInt8} {b0 : Value} : spl (a0 :: a1 :: a2 :: t3.map u8) 2 (b0 :: []) = a0 :: a1 :: b0 :: t3.map u8 := (spl_c (o := 1) (spl_c (o := 0) spl_0))
theorem q_spl_c3b32_3_b32 {a0 a1 a2 : Value} {t3 : List UInt8} {s0 : List UInt8} (h3 : t3.length = 32) (g0 : s0.length = 32) : spl (a0 :: a1 :: a2 :: t3.map u8) 3 (s0.map u8) = a0 :: a1 :: a2 :: s0.map u8 := (spl_c (o := 2) (spl_c (o := 1) (spl_c (o := 0) (spl_a (z := 32) (len_e (k := 32) h3) (len_e (k := 32) g0)))))
theorem z_size38 : sizeB Tryd.prog 38 = some 35 := by kernel_rfl
theorem z_zero38 : zeroL Tryd.prog 38 = some ([.int .i64 0, .string ⟨#[]⟩, .int .i64 0, .int .u8 0, .int .u8 0, .int .u8 0, .int .u8 0, .int .u8 0, .int .u8 0, .int .u8 0, .int .u8 0, .int .u8 0, .int .u8 0, .int .u8 0, .int .u8 0, .int .u8 0, .int .u8 0, .int .u8 0, .int .u8 0, .int .u8 0, .int .u8 0, .int .u8 0, .int .u8 0, .int .u8 0, .int .u8 0, .int .u8 0, .int .u8 0, .int .u8 0, .int .u8 0, .int .u8 0, .int .u8 0, .int .u8 0, .int .u8 0, .int .u8 0, .int .u8 0]) := by kernel_rfl
theorem z_slice22 : sliceB Tryd.prog 22 = some (38, 35, 64) := by kernel_rfl
theorem z_notint22 : notIntB Tryd.prog 22 = true := by kernel_rfl
theorem z_size22 : sizeB Tryd.prog 22 = some 1 := by kernel_rfl
theorem q_len_c1 {a0 : Value} : (a0 :: []).length = 1 := (len_c (n := 0) len_n)
theorem q_set_c1_0 {a0 : Value} {v : Value} : (a0 :: []).set 0 v = v :: [] := set_0

set_option maxRecDepth 100000 in
set_option maxHeartbeats 2000000 in
theorem iput (ba bo k : Nat) (v : Value) (acc : List UInt8) (L : List Inbox.Entry) (n blk : Int) (text : List UInt8) (hacc : acc.length = 32) (hn : n ≤ 9223372036854775807) (ht : text.length ≤ 65472) (hk : k = L.length) (hb : L.length ≤ 1000000000) {w : World} (hG : Glob 0 Sha.K w) (hz : 0 ∉ fps [It.blk ba 33 ((acc).map u8), It.blk bo 22 [v], It.row 38 35 v (k) (Inbox.ec (L))]) (hs : Sep (fps [It.blk ba 33 ((acc).map u8), It.blk bo 22 [v], It.row 38 35 v (k) (Inbox.ec (L))]) w w [It.blk ba 33 ((acc).map u8), It.blk bo 22 [v], It.row 38 35 v (k) (Inbox.ec (L))]) : Calls Tryd.prog 20 #[.int .i64 n, str text, .int .i64 blk, .pointer (some ⟨ba, 0, none⟩), .pointer (some ⟨bo, 0, none⟩)] w (Post (fps [It.blk ba 33 ((acc).map u8), It.blk bo 22 [v], It.row 38 35 v (k) (Inbox.ec (L))]) w fun u l' => ∃ v', l' = [It.blk ba 33 ((Inbox.next acc n text).map u8), It.blk bo 22 [v'], It.row 38 35 v' (k + 1) (Inbox.ec (L ++ [⟨n, text, blk, Inbox.next acc n text⟩]))]) := by
  have lz32 : (List.replicate 32 (0 : UInt8)).length = 32 := List.length_replicate
  refine enterL (args := [.int .i64 n, str text, .int .i64 blk, .pointer (some ⟨ba, 0, none⟩), .pointer (some ⟨bo, 0, none⟩)]) Tryd.func20 rfl rfl (l := [It.blk ba 33 ((acc).map u8), It.blk bo 22 [v], It.row 38 35 v (k) (Inbox.ec (L))]) hs ?_
  intro a0 H0
  refine wp_seq ?_
  refine reg ?_
  refine plain (y_move rfl rfl) rfl rfl rfl H0 ?_
  clear H0; intro a1 H1
  refine st_callg rfl z_call21 rfl rfl rfl rfl H1 (num n hn _) ?_
  clear H1; intro a2 wx2 H2
  refine plain (y_move rfl rfl) rfl rfl rfl H2 ?_
  clear H2; intro a3 H3
  refine plain (y_extract rfl rfl rfl) rfl rfl rfl H3 ?_
  clear H3; intro a4 H4
  refine plain (y_extract rfl rfl rfl) rfl rfl rfl H4 ?_
  clear H4; intro a5 H5
  refine plain (y_assign rfl rfl) rfl rfl rfl H5 ?_
  clear H5; intro a6 H6
  refine plain (y_assign rfl rfl) rfl rfl rfl H6 ?_
  clear H6; intro a7 H7
  refine fin ?_
  refine then_n ?_
  refine wp_seq ?_
  refine reg ?_
  refine plain (y_move rfl rfl) rfl rfl rfl H7 ?_
  clear H7; intro a8 H8
  refine plain (y_move rfl rfl) rfl rfl rfl H8 ?_
  clear H8; intro a9 H9
  refine st_buildSlice1 (xs := [.tmp 18, .tmp 19]) rfl Tryd.underlying40 z_size9 z_zero9 rfl rfl rfl rfl rfl rfl rfl rfl rfl H9 ?_
  clear H9; intro b10 a10 wx10 H10
  refine st_callg rfl z_call22 rfl rfl rfl rfl H10 (lst [Note.num n, text] _ _ _ rfl (Rd.ofSep (rd_blkA (by repeat (first | exact Mh | apply Mt))) H10.sep) (by simp)) ?_
  clear H10; intro a11 wx11 H11
  refine plain (y_move rfl rfl) rfl rfl rfl H11 ?_
  clear H11; intro a12 H12
  refine plain (y_extract rfl rfl rfl) rfl rfl rfl H12 ?_
  clear H12; intro a13 H13
  refine plain (y_extract rfl rfl rfl) rfl rfl rfl H13 ?_
  clear H13; intro a14 H14
  refine plain (y_assign rfl rfl) rfl rfl rfl H14 ?_
  clear H14; intro a15 H15
  refine plain (y_assign rfl rfl) rfl rfl rfl H15 ?_
  clear H15; intro a16 H16
  refine fin ?_
  refine then_n ?_
  refine wp_seq ?_
  refine reg ?_
  refine plain (y_loadAB rfl z_agg33 z_size33 rfl (by repeat (first | exact Mh | apply Mt)) (q_ld_b32_0_32 (by first | assumption | exact Sha.sum_length _)) (q_len_b32 (by first | assumption | exact Sha.sum_length _))) rfl rfl rfl H16 ?_
  clear H16; intro a17 H17
  refine plain (y_move rfl rfl) rfl rfl rfl H17 ?_
  clear H17; intro a18 H18
  refine st_callg rfl z_call23 rfl rfl rfl rfl H18 (dchain acc hacc _ (by have := Oct.list_len (l := [Note.num n, text]); omega) (hG.frm H18.sep.frm hz)) ?_
  clear H18; intro a19 wx19 H19
  refine st_storeN rfl z_size33 rfl rfl (agg_cells _) (by repeat (first | exact Uh | apply Ut)) q_one_b32 (q_len_b32 (by first | assumption | exact Sha.sum_length _)) (q_len_b32 (by first | assumption | exact Sha.sum_length _)) (q_spl_b32_0_b32 (by first | assumption | exact Sha.sum_length _) (by first | assumption | exact Sha.sum_length _)) (by decide) rfl rfl H19 ?_
  clear H19; intro wx20 H20
  refine fin ?_
  refine then_n ?_
  refine reg ?_
  refine plain (y_loadB rfl z_agg22 rfl (by repeat (first | exact Mh | apply Mt)) q_ix_c1_0) rfl rfl rfl H20 ?_
  clear H20; intro a21 H21
  refine plain (y_move rfl rfl) rfl rfl rfl H21 ?_
  clear H21; intro a22 H22
  refine plain (y_move rfl rfl) rfl rfl rfl H22 ?_
  clear H22; intro a23 H23
  refine plain (y_move rfl rfl) rfl rfl rfl H23 ?_
  clear H23; intro a24 H24
  refine plain (y_loadAB rfl z_agg33 z_size33 rfl (by repeat (first | exact Mh | apply Mt)) (q_ld_b32_0_32 (by first | assumption | exact Sha.sum_length _)) (q_len_b32 (by first | assumption | exact Sha.sum_length _))) rfl rfl rfl H24 ?_
  clear H24; intro a25 H25
  refine plain (y_build rfl z_zeroN38 z_places38 rfl (lay_1 (off := 0) (n := 35) rfl (q_len_c3b32 (by first | assumption | exact Sha.sum_length _)) (by decide) q_spl_c3b32_0_c1 (lay_1 (off := 1) (n := 35) rfl (q_len_c3b32 (by first | assumption | exact Sha.sum_length _)) (by decide) q_spl_c3b32_1_c1 (lay_1 (off := 2) (n := 35) rfl (q_len_c3b32 (by first | assumption | exact Sha.sum_length _)) (by decide) q_spl_c3b32_2_c1 (lay_f (off := 3) (z := 32) (n := 35) rfl (agg_cells _) (q_len_b32 (by first | assumption | exact Sha.sum_length _)) (q_len_c3b32 (by first | assumption | exact Sha.sum_length _)) (by decide) (q_spl_c3b32_3_b32 (by first | assumption | exact Sha.sum_length _) (by first | assumption | exact Sha.sum_length _)) lay_n) (by rfl)) (by rfl)) (by rfl))) rfl rfl rfl H25 ?_
  clear H25; intro a26 H26
  refine st_buildSlice rfl Tryd.underlying22 z_size38 z_zero38 rfl rfl rfl (lay_agg (agg_cells _) (by simp [Sha.sum_length]) (by simp)) rfl rfl rfl H26 ?_
  clear H26; intro b27 a27 wx27 H27
  refine st_append rfl z_slice22 z_notint22 rfl rfl (fun _ => (by repeat (first | exact Uh | apply Ut))) (fun w hs => Src.slice ((rd_blkA (by repeat (first | exact Mh | apply Mt))) w hs) (by simp [Sha.sum_length]) (by simp [Value.oneCell'])) (by unfold maxLen at *; first | omega | (simp only [List.length_cons, List.length_nil, List.length_append, List.length_map]; omega)) (by omega) rfl rfl rfl H27 ?_
  clear H27; intro v28 a28 wx28 hnil28 H28
  obtain ⟨Ar28, cr28, hvr28, hRr28, hmr28⟩ := row_shape (v := v28) H28.sep (by repeat (first | exact Mh | apply Mt))
  subst hvr28
  refine st_store1N rfl z_size22 rfl rfl rfl (by repeat (first | exact Uh | apply Ut)) q_len_c1 q_set_c1_0 (by decide) rfl rfl H28 ?_
  clear H28; intro wx29 H29
  refine fin ?_
  -- return 1
  refine end0 rfl H29 ?_
  refine ⟨_, _, rfl, ⟨?v, rfl⟩, ?h⟩
  case h => (rw [Inbox.ec_append, Inbox.ec_one]; exact H29.sep.sub (by first | exact S0 | exact S1 | repeat (first | exact S1 | exact S0 | apply S2 | apply S3)))

end Go.Proofs.YtbdkgmkaakoigaaDoor.I_Put

set_option linter.unusedVariables false
set_option linter.unusedSimpArgs false
namespace Go.Proofs.YtbdkgmkaakoigaaDoor.I_Msg
open Go.Sx Go.RowKit Go.Proofs.YtbdkgmkaakoigaaDoor.I_Block Go.Proofs.YtbdkgmkaakoigaaDoor.I_Sum Go.Proofs.YtbdkgmkaakoigaaDoor.I_Ref Go.Proofs.YtbdkgmkaakoigaaDoor.I_RSum Go.Proofs.YtbdkgmkaakoigaaDoor.I_Num Go.Proofs.YtbdkgmkaakoigaaDoor.I_Lay Go.Proofs.YtbdkgmkaakoigaaDoor.I_Leaf Go.Proofs.YtbdkgmkaakoigaaDoor.I_Item Go.Proofs.YtbdkgmkaakoigaaDoor.I_RefI Go.Proofs.YtbdkgmkaakoigaaDoor.I_Eq Go.Proofs.YtbdkgmkaakoigaaDoor.I_Put

theorem z_zeroN22 : zeroL Tryd.prog 22 = some ((.slice none 0 0 :: [])) := by kernel_rfl
theorem z_zeroN33 : zeroL Tryd.prog 33 = some ((List.replicate 32 (0 : UInt8)).map u8) := by kernel_rfl
theorem z_size5 : sizeB Tryd.prog 5 = some 1 := by kernel_rfl
theorem z_size33 : sizeB Tryd.prog 33 = some 32 := by kernel_rfl
theorem q_one_b32 {t0 : List UInt8} : (t0.map u8).all (·.oneCell') = true := (one_u8 _)
theorem q_len_b32 {t0 : List UInt8} (h0 : t0.length = 32) : (t0.map u8).length = 32 := (len_e (k := 32) h0)
theorem q_spl_b32_0_b32 {t0 : List UInt8} {s0 : List UInt8} (h0 : t0.length = 32) (g0 : s0.length = 32) : spl (t0.map u8) 0 (s0.map u8) = s0.map u8 := (spl_a (z := 32) (len_e (k := 32) h0) (len_e (k := 32) g0))
theorem z_size49 : sizeB Tryd.prog 49 = some 35 := by kernel_rfl
theorem z_agg49 : aggB Tryd.prog 49 = some true := by kernel_rfl
theorem z_zeroN49 : zeroL Tryd.prog 49 = some ((.int .i64 0 :: (.int .i64 0 :: ((List.replicate 32 (0 : UInt8)).map u8 ++ (.slice none 0 0 :: []))))) := by kernel_rfl
theorem q_one_c2b32c1 {a0 a1 a3 : Value} {t2 : List UInt8} (o0 : a0.oneCell' = true) (o1 : a1.oneCell' = true) (o3 : a3.oneCell' = true) : (a0 :: a1 :: (t2.map u8 ++ (a3 :: []))).all (·.oneCell') = true := (one_c o0 (one_c o1 (one_b (one_c o3 one_n))))
theorem q_len_c2b32c1 {a0 a1 a3 : Value} {t2 : List UInt8} (h2 : t2.length = 32) : (a0 :: a1 :: (t2.map u8 ++ (a3 :: []))).length = 35 := (len_c (n := 34) (len_c (n := 33) (len_b (k := 32) (n := 1) h2 (len_c (n := 0) len_n))))
theorem q_spl_c2b32c1_0_c2b32c1 {a0 a1 a3 : Value} {t2 : List UInt8} {b0 b1 b3 : Value} {s2 : List UInt8} (h2 : t2.length = 32) (g2 : s2.length = 32) : spl (a0 :: a1 :: (t2.map u8 ++ (a3 :: []))) 0 (b0 :: b1 :: (s2.map u8 ++ (b3 :: []))) = b0 :: b1 :: (s2.map u8 ++ (b3 :: [])) := (spl_a (z := 35) (len_c (n := 34) (len_c (n := 33) (len_b (k := 32) (n := 1) h2 (len_c (n := 0) len_n)))) (len_c (n := 34) (len_c (n := 33) (len_b (k := 32) (n := 1) g2 (len_c (n := 0) len_n)))))
theorem z_field49_3 : fieldB Tryd.prog 49 3 = some 34 := by kernel_rfl
theorem z_agg47 : aggB Tryd.prog 47 = some false := by kernel_rfl
theorem q_ix_c2b32c1_34 {a0 a1 a3 : Value} {t2 : List UInt8} (h2 : t2.length = 32) : (a0 :: a1 :: (t2.map u8 ++ (a3 :: [])))[34]? = some a3 := (ix_c (o := 33) (ix_c (o := 32) (ix_b (k := 32) (o := 0) h2 rfl ix_0)))
theorem z_size51 : sizeB Tryd.prog 51 = some 4 := by kernel_rfl
theorem z_agg51 : aggB Tryd.prog 51 = some true := by kernel_rfl
theorem z_zeroN51 : zeroL Tryd.prog 51 = some ((.int .i64 0 :: (.int .i64 0 :: (.int .i64 0 :: (.string ⟨#[]⟩ :: []))))) := by kernel_rfl
theorem q_one_c4 {a0 a1 a2 a3 : Value} (o0 : a0.oneCell' = true) (o1 : a1.oneCell' = true) (o2 : a2.oneCell' = true) (o3 : a3.oneCell' = true) : (a0 :: a1 :: a2 :: a3 :: []).all (·.oneCell') = true := (one_c o0 (one_c o1 (one_c o2 (one_c o3 one_n))))
theorem q_len_c4 {a0 a1 a2 a3 : Value} : (a0 :: a1 :: a2 :: a3 :: []).length = 4 := (len_c (n := 3) (len_c (n := 2) (len_c (n := 1) (len_c (n := 0) len_n))))
theorem q_spl_c4_0_c4 {a0 a1 a2 a3 : Value} {b0 b1 b2 b3 : Value} : spl (a0 :: a1 :: a2 :: a3 :: []) 0 (b0 :: b1 :: b2 :: b3 :: []) = b0 :: b1 :: b2 :: b3 :: [] := (spl_a (z := 4) (len_c (n := 3) (len_c (n := 2) (len_c (n := 1) (len_c (n := 0) len_n)))) (len_c (n := 3) (len_c (n := 2) (len_c (n := 1) (len_c (n := 0) len_n)))))
theorem q_ld_c4_0_4 {a0 a1 a2 a3 : Value} : ((a0 :: a1 :: a2 :: a3 :: []).drop 0).take 4 = a0 :: a1 :: a2 :: a3 :: [] := (ld_a (len_c (n := 3) (len_c (n := 2) (len_c (n := 1) (len_c (n := 0) len_n)))))
theorem z_call24 : callB Tryd.prog 24 = true := by kernel_rfl
theorem z_field51_0 : fieldB Tryd.prog 51 0 = some 0 := by kernel_rfl
theorem z_agg3 : aggB Tryd.prog 3 = some false := by kernel_rfl
theorem q_ix_c4_0 {a0 a1 a2 a3 : Value} : (a0 :: a1 :: a2 :: a3 :: [])[0]? = some a0 := ix_0
theorem z_field51_3 : fieldB Tryd.prog 51 3 = some 3 := by kernel_rfl
theorem z_agg9 : aggB Tryd.prog 9 = some false := by kernel_rfl
theorem q_ix_c4_3 {a0 a1 a2 a3 : Value} : (a0 :: a1 :: a2 :: a3 :: [])[3]? = some a3 := (ix_c (o := 2) (ix_c (o := 1) (ix_c (o := 0) ix_0)))
theorem z_field51_1 : fieldB Tryd.prog 51 1 = some 1 := by kernel_rfl
theorem q_ix_c4_1 {a0 a1 a2 a3 : Value} : (a0 :: a1 :: a2 :: a3 :: [])[1]? = some a1 := (ix_c (o := 0) ix_0)
theorem z_field49_0 : fieldB Tryd.prog 49 0 = some 0 := by kernel_rfl
theorem q_ix_c2b32c1_0 {a0 a1 a3 : Value} {t2 : List UInt8} : (a0 :: a1 :: (t2.map u8 ++ (a3 :: [])))[0]? = some a0 := ix_0
theorem z_call20 : callB Tryd.prog 20 = true := by kernel_rfl
theorem z_agg22 : aggB Tryd.prog 22 = some false := by kernel_rfl
theorem q_ix_c1_0 {a0 : Value} : (a0 :: [])[0]? = some a0 := ix_0

set_option maxRecDepth 100000 in
set_option maxHeartbeats 300000 in
theorem imsgs (X : List Inbox.BA) (A : Option Addr) (m c : Nat) (hm : m = X.length) (hlen : X.length ≤ 100) {w : World} (hX : ∀ x ∈ X, Inbox.BA.Wf w x) (hit : ∀ x ∈ X, x.b.items.length ≤ 1048576) (hR : Rd w A (Inbox.bc X)) (hG : Glob 0 Sha.K w) : Calls Tryd.prog 11 #[.slice A m c] w (Post [] w (fun u l' => l' = [It.row 38 35 u (Inbox.messages (X.map (·.b))).length (Inbox.ec (Inbox.messages (X.map (·.b))))])) := by
  subst hm
  have lz32 : (List.replicate 32 (0 : UInt8)).length = 32 := List.length_replicate
  refine enterL (args := [.slice A X.length c]) Tryd.func11 rfl rfl (l := []) (Sep.refl _) ?_
  intro a0 H0
  refine wp_seq ?_
  refine reg ?_
  refine plain (y_assign rfl rfl) rfl rfl rfl H0 ?_
  clear H0; intro a1 H1
  refine fin ?_
  refine then_n ?_
  refine wp_seq ?_
  refine reg ?_
  refine st_alloc rfl z_zeroN22 rfl rfl rfl H1 ?_
  clear H1; intro b2 a2 wx2 H2
  refine fin ?_
  refine then_n ?_
  refine wp_seq ?_
  refine reg ?_
  refine plain (y_buildA rfl z_zeroN33 Tryd.underlying33 z_size5 rfl lay_n) rfl rfl rfl H2 ?_
  clear H2; intro a3 H3
  refine st_alloc rfl z_zeroN33 rfl rfl rfl H3 ?_
  clear H3; intro b4 a4 wx4 H4
  refine st_storeN rfl z_size33 rfl rfl (agg_cells _) (by repeat (first | exact Uh | apply Ut)) q_one_b32 (q_len_b32 (by assumption)) (q_len_b32 (by assumption)) (q_spl_b32_0_b32 (by assumption) (by assumption)) (by decide) rfl rfl H4 ?_
  clear H4; intro wx5 H5
  refine fin ?_
  refine then_n ?_
  refine wp_seq ?_
  refine reg ?_
  refine plain (y_fn rfl rfl rfl) rfl rfl rfl H5 ?_
  clear H5; intro a6 H6
  refine plain (y_assign rfl rfl) rfl rfl rfl H6 ?_
  clear H6; intro a7 H7
  refine fin ?_
  refine then_n ?_
  refine wp_seq ?_
  refine wp_seq ?_
  refine reg ?_
  refine plain (y_move rfl rfl) rfl rfl rfl H7 ?_
  clear H7; intro a8 H8
  refine plain (y_len rfl Tryd.underlying28 rfl) rfl rfl rfl H8 ?_
  clear H8; intro a9 H9
  refine plain (y_move rfl rfl) rfl rfl rfl H9 ?_
  clear H9; intro a10 H10
  refine fin ?_
  refine then_n ?_
  refine wp_block ?_
  replace H10 := rot (H10.nilRow 38 35)
  simp only [List.cons_append, List.nil_append] at H10
  refine loop (ι := Nat × Value) (fun x => [(14, .slice A X.length c), (3, .pointer (some ⟨b2, 0, none⟩)), (4, .pointer (some ⟨b4, 0, none⟩)), (5, .func (.func 20) #[] #[.pointer (some ⟨b4, 0, none⟩), .pointer (some ⟨b2, 0, none⟩)]), (15, .int .i64 (X.length : Int)), (16, .int .i64 (x.1 : Int))]) (fun x => [It.blk b4 33 ((Inbox.at1 X x.1).1.map u8), It.blk b2 22 [x.2], It.row 38 35 x.2 (Inbox.at1 X x.1).2.length (Inbox.ec (Inbox.at1 X x.1).2)]) (fun x => x.1 ≤ X.length) (fun x => X.length - x.1) ((0, .slice none 0 0)) (Nat.zero_le _) (H10.weak ⟨rfl, rfl, rfl, rfl, rfl, rfl, trivial⟩ rfl) ?_
  clear H10; intro x a11 wx11 hok11 H11
  obtain ⟨k, v⟩ := x
  dsimp only at hok11 H11
  have hok := hok11
  have hl1 := Inbox.at1_len X k
  refine wp_seq ?_
  refine reg ?_
  refine plain (y_lss rfl rfl rfl) rfl rfl rfl H11 ?_
  clear H11; intro a12 H12
  refine fin ?_
  refine then_n ?_
  refine wp_seq ?_
  refine cnd H12 rfl (fun hc13 => ?_) (fun hc13 => ?_) -- cond 1
  · skip
    try simp only [decide_eq_true_eq, decide_eq_false_iff_not, Bool.not_eq_true', Bool.not_eq_false', Bool.and_eq_true, Bool.not_eq_true, Bool.not_eq_false] at hc13
    refine wp_skip ?_
    refine then_n ?_
    refine wp_seq ?_
    refine wp_block ?_
    refine wp_seq ?_
    have hXm : (X.getD k Inbox.BA.zero) ∈ X := Inbox.memD _ (by omega)
    have hXk := hX _ hXm
    have hlp := hXk.parent
    have hik := hit _ hXm
    refine reg ?_
    refine plain (y_ixR rfl Tryd.underlying28 z_size49 rfl rfl (by omega) (by omega) (rd_old (by assumption) (by simp)) (by first | (rw [Inbox.bc_len hX]; omega) | (rw [Inbox.ic_len]; omega))) rfl rfl rfl H12 ?_
    clear H12; intro a14 H14
    refine plain (y_loadAS rfl z_agg49 z_size49 rfl (rd_old (by assumption) (by simp)) (show _ = Inbox.BA.cells (X.getD k Inbox.BA.zero) from Inbox.bc_take hX k (by omega)) (Inbox.BA.cells_len hlp) (by decide)) rfl rfl rfl H14 ?_
    clear H14; intro a15 H15
    refine st_alloc rfl z_zeroN49 rfl rfl rfl H15 ?_
    clear H15; intro b16 a16 wx16 H16
    refine st_storeN rfl z_size49 rfl rfl (agg_cells _) (by repeat (first | exact Uh | apply Ut)) (q_one_c2b32c1 rfl rfl rfl) (q_len_c2b32c1 (by assumption)) (q_len_c2b32c1 (by assumption)) (q_spl_c2b32c1_0_c2b32c1 (by assumption) (by assumption)) (by decide) rfl rfl H16 ?_
    clear H16; intro wx17 H17
    refine fin ?_
    refine then_n ?_
    refine wp_seq ?_
    refine reg ?_
    refine plain (y_fieldB rfl z_field49_3 rfl (by first | (simp only [Nat.zero_add, Nat.add_zero, Nat.reduceAdd]; rfl) | rfl)) rfl rfl rfl H17 ?_
    clear H17; intro a18 H18
    refine plain (y_loadB rfl z_agg47 rfl (by repeat (first | exact Mh | apply Mt)) (q_ix_c2b32c1_34 (by assumption))) rfl rfl rfl H18 ?_
    clear H18; intro a19 H19
    refine plain (y_len rfl Tryd.underlying47 rfl) rfl rfl rfl H19 ?_
    clear H19; intro a20 H20
    refine plain (y_move rfl rfl) rfl rfl rfl H20 ?_
    clear H20; intro a21 H21
    refine fin ?_
    refine then_n ?_
    refine wp_block ?_
    replace H21 := rot H21
    simp only [List.cons_append, List.nil_append] at H21
    refine loop (ι := Nat × Value) (fun x => [(14, .slice A X.length c), (3, .pointer (some ⟨b2, 0, none⟩)), (4, .pointer (some ⟨b4, 0, none⟩)), (5, .func (.func 20) #[] #[.pointer (some ⟨b4, 0, none⟩), .pointer (some ⟨b2, 0, none⟩)]), (15, .int .i64 (X.length : Int)), (16, .int .i64 (k : Int)), (7, .pointer (some ⟨b16, 0, none⟩)), (21, .slice (X.getD k Inbox.BA.zero).A (X.getD k Inbox.BA.zero).b.items.length (X.getD k Inbox.BA.zero).c), (22, .int .i64 ((X.getD k Inbox.BA.zero).b.items.length : Int)), (23, .int .i64 (x.1 : Int))]) (fun x => [It.blk b4 33 ((Inbox.at2 X k x.1).1.map u8), It.blk b2 22 [x.2], It.row 38 35 x.2 (Inbox.at2 X k x.1).2.length (Inbox.ec (Inbox.at2 X k x.1).2), It.blk b16 49 (Inbox.BA.cells (X.getD k Inbox.BA.zero))]) (fun x => x.1 ≤ (X.getD k Inbox.BA.zero).b.items.length) (fun x => (X.getD k Inbox.BA.zero).b.items.length - x.1) ((0, v)) (Nat.zero_le _) (H21.weak ⟨rfl, rfl, rfl, rfl, rfl, rfl, rfl, rfl, rfl, rfl, trivial⟩ rfl) ?_
    clear H21; intro x a22 wx22 hok22 H22
    obtain ⟨j, v2⟩ := x
    dsimp only at hok22 H22
    have hok2 := hok22
    have hl2 := Inbox.at2_len X k j
    refine wp_seq ?_
    refine reg ?_
    refine plain (y_lss rfl rfl rfl) rfl rfl rfl H22 ?_
    clear H22; intro a23 H23
    refine fin ?_
    refine then_n ?_
    refine wp_seq ?_
    refine cnd H23 rfl (fun hc24 => ?_) (fun hc24 => ?_) -- cond 2
    · skip
      try simp only [decide_eq_true_eq, decide_eq_false_iff_not, Bool.not_eq_true', Bool.not_eq_false', Bool.and_eq_true, Bool.not_eq_true, Bool.not_eq_false] at hc24
      refine wp_skip ?_
      refine then_n ?_
      refine wp_seq ?_
      refine wp_block ?_
      refine wp_seq ?_
      have wfi : Note.Item.Wf ((X.getD k Inbox.BA.zero).b.items.getD j Note.Item.zero) := hXk.items _ (Inbox.memD _ (by omega))
      refine reg ?_
      refine plain (y_ixR rfl Tryd.underlying47 z_size51 rfl rfl (by omega) (by omega) (rd_old hXk.rd (by simp)) (by first | (rw [Inbox.bc_len hX]; omega) | (rw [Inbox.ic_len]; omega))) rfl rfl rfl H23 ?_
      clear H23; intro a25 H25
      refine plain (y_loadAS rfl z_agg51 z_size51 rfl (rd_old hXk.rd (by simp)) (show _ = Note.Item.cells ((X.getD k Inbox.BA.zero).b.items.getD j Note.Item.zero) from Inbox.ic_take j (by omega)) rfl (by decide)) rfl rfl rfl H25 ?_
      clear H25; intro a26 H26
      refine st_alloc rfl z_zeroN51 rfl rfl rfl H26 ?_
      clear H26; intro b27 a27 wx27 H27
      refine st_storeN rfl z_size51 rfl rfl (agg_cells _) (by repeat (first | exact Uh | apply Ut)) (q_one_c4 rfl rfl rfl rfl) q_len_c4 q_len_c4 q_spl_c4_0_c4 (by decide) rfl rfl H27 ?_
      clear H27; intro wx28 H28
      refine fin ?_
      refine then_n ?_
      refine wp_seq ?_
      refine reg ?_
      refine plain (y_loadAB rfl z_agg51 z_size51 rfl (by repeat (first | exact Mh | apply Mt)) q_ld_c4_0_4 q_len_c4) rfl rfl rfl H28 ?_
      clear H28; intro a29 H29
      refine st_callg rfl z_call24 rfl rfl rfl rfl H29 (nwitem ((X.getD k Inbox.BA.zero).b.items.getD j Note.Item.zero) wfi _) ?_
      clear H29; intro a30 wx30 H30
      refine plain (y_move rfl rfl) rfl rfl rfl H30 ?_
      clear H30; intro a31 H31
      refine plain (y_extract rfl rfl rfl) rfl rfl rfl H31 ?_
      clear H31; intro a32 H32
      refine plain (y_extract rfl rfl rfl) rfl rfl rfl H32 ?_
      clear H32; intro a33 H33
      refine plain (y_assign rfl rfl) rfl rfl rfl H33 ?_
      clear H33; intro a34 H34
      refine plain (y_assign rfl rfl) rfl rfl rfl H34 ?_
      clear H34; intro a35 H35
      refine fin ?_
      refine then_n ?_
      refine wp_seq ?_
      refine reg ?_
      refine plain (y_move rfl rfl) rfl rfl rfl H35 ?_
      clear H35; intro a36 H36
      refine plain (y_eql rfl rfl rfl) rfl rfl rfl H36 ?_
      clear H36; intro a37 H37
      refine plain (y_move rfl rfl) rfl rfl rfl H37 ?_
      clear H37; intro a38 H38
      refine Sx.part (d := 34) H38 rfl (fun hg39 => ?_) (fun hg39 => ?_)
      · first
        | fail
        | skip
          clear H38; intro H40
          try simp only [decide_eq_true_eq, decide_eq_false_iff_not, Bool.not_eq_true', Bool.not_eq_false', Bool.and_eq_true, Bool.not_eq_true, Bool.not_eq_false] at hg39
          refine plain (y_fieldB rfl z_field51_0 rfl (by first | (simp only [Nat.zero_add, Nat.add_zero, Nat.reduceAdd]; rfl) | rfl)) rfl rfl rfl H40 ?_
          clear H40; intro a41 H41
          refine plain (y_loadB rfl z_agg3 rfl (by repeat (first | exact Mh | apply Mt)) q_ix_c4_0) rfl rfl rfl H41 ?_
          clear H41; intro a42 H42
          refine plain (y_eql rfl rfl rfl) rfl rfl rfl H42 ?_
          clear H42; intro a43 H43
          refine plain (y_pick_t rfl rfl rfl) rfl rfl rfl H43 ?_
          clear H43; intro a44 H44
          refine plain (y_move rfl rfl) rfl rfl rfl H44 ?_
          clear H44; intro a45 H45
          refine Sx.part (d := 39) H45 rfl (fun hg46 => ?_) (fun hg46 => ?_)
          · first
            | fail
            | skip
              clear H45; intro H47
              try simp only [decide_eq_true_eq, decide_eq_false_iff_not, Bool.not_eq_true', Bool.not_eq_false', Bool.and_eq_true, Bool.not_eq_true, Bool.not_eq_false] at hg46
              refine plain (y_fieldB rfl z_field51_3 rfl (by first | (simp only [Nat.zero_add, Nat.add_zero, Nat.reduceAdd]; rfl) | rfl)) rfl rfl rfl H47 ?_
              clear H47; intro a48 H48
              refine plain (y_loadB rfl z_agg9 rfl (by repeat (first | exact Mh | apply Mt)) q_ix_c4_3) rfl rfl rfl H48 ?_
              clear H48; intro a49 H49
              refine plain (y_slen rfl Tryd.underlying9 rfl) rfl rfl rfl H49 ?_
              clear H49; intro a50 H50
              refine plain (y_leq rfl rfl rfl) rfl rfl rfl H50 ?_
              clear H50; intro a51 H51
              refine plain (y_pick_t rfl rfl rfl) rfl rfl rfl H51 ?_
              clear H51; intro a52 H52
              refine fin ?_
              refine then_n ?_
              refine cnd H52 rfl (fun hc53 => ?_) (fun hc53 => ?_) -- cond 3
              · skip
                try simp only [decide_eq_true_eq, decide_eq_false_iff_not, Bool.not_eq_true', Bool.not_eq_false', Bool.and_eq_true, Bool.not_eq_true, Bool.not_eq_false] at hc53
                refine reg ?_
                refine plain (y_move rfl rfl) rfl rfl rfl H52 ?_
                clear H52; intro a54 H54
                refine plain (y_fieldB rfl z_field51_1 rfl (by first | (simp only [Nat.zero_add, Nat.add_zero, Nat.reduceAdd]; rfl) | rfl)) rfl rfl rfl H54 ?_
                clear H54; intro a55 H55
                refine plain (y_loadB rfl z_agg3 rfl (by repeat (first | exact Mh | apply Mt)) q_ix_c4_1) rfl rfl rfl H55 ?_
                clear H55; intro a56 H56
                refine plain (y_fieldB rfl z_field51_3 rfl (by first | (simp only [Nat.zero_add, Nat.add_zero, Nat.reduceAdd]; rfl) | rfl)) rfl rfl rfl H56 ?_
                clear H56; intro a57 H57
                refine plain (y_loadB rfl z_agg9 rfl (by repeat (first | exact Mh | apply Mt)) q_ix_c4_3) rfl rfl rfl H57 ?_
                clear H57; intro a58 H58
                refine plain (y_fieldB rfl z_field49_0 rfl (by first | (simp only [Nat.zero_add, Nat.add_zero, Nat.reduceAdd]; rfl) | rfl)) rfl rfl rfl H58 ?_
                clear H58; intro a59 H59
                refine plain (y_loadB rfl z_agg3 rfl (by repeat (first | exact Mh | apply Mt)) q_ix_c2b32c1_0) rfl rfl rfl H59 ?_
                clear H59; intro a60 H60
                refine st_callk1 (is := [It.blk b4 33 ((Inbox.at2 X k j).1.map u8), It.blk b2 22 [v2], It.row 38 35 v2 (Inbox.at2 X k j).2.length (Inbox.ec (Inbox.at2 X k j).2)]) (enters_callv (all := [.int .i64 ((X.getD k Inbox.BA.zero).b.items.getD j Note.Item.zero).who, str ((X.getD k Inbox.BA.zero).b.items.getD j Note.Item.zero).text, .int .i64 (X.getD k Inbox.BA.zero).b.number, .pointer (some ⟨b4, 0, none⟩), .pointer (some ⟨b2, 0, none⟩)]) rfl rfl z_call20 rfl rfl) rfl rfl rfl H60 (.cons (by repeat (first | exact Ph | apply Pt)) (.cons (by repeat (first | exact Ph | apply Pt)) (.cons (by repeat (first | exact Ph | apply Pt)) (.nil _)))) (fun hs hz => iput b4 b2 (Inbox.at2 X k j).2.length v2 (Inbox.at2 X k j).1 (Inbox.at2 X k j).2 ((X.getD k Inbox.BA.zero).b.items.getD j Note.Item.zero).who (X.getD k Inbox.BA.zero).b.number ((X.getD k Inbox.BA.zero).b.items.getD j Note.Item.zero).text (Inbox.at2_len X k j) (by have := wfi.who.2; omega) (by omega) rfl (by have := Inbox.at2_more hit k j (by omega); omega) (hG.frm H60.sep.frm (by simp)) (hz _ _ hG (by decide)) hs) ?_
                clear H60; intro v61 l61 a61 wx61 hf61 H61
                obtain ⟨vn, rfl⟩ := hf61
                simp only [List.cons_append, List.nil_append] at H61
                refine fin ?_
                refine inb_n ?_
                refine then_n ?_
                refine reg ?_
                refine plain (y_add rfl rfl rfl (by first | exact w64 (by omega) (by omega) | rfl)) rfl rfl rfl H61 ?_
                clear H61; intro a62 H62
                refine plain (y_move rfl rfl) rfl rfl rfl H62 ?_
                clear H62; intro a63 H63
                refine fin ?_
                refine then_n ?_
                first | (refine ⟨(j + 1, vn), by dsimp only; omega, by dsimp only; omega, (H63.drop (List.Sublist.cons_cons _ (List.Sublist.cons_cons _ (List.Sublist.cons_cons _ (List.Sublist.cons _ (List.Sublist.refl _)))))).weak ⟨rfl, rfl, rfl, rfl, rfl, rfl, rfl, rfl, rfl, fi rfl (by dsimp only; omega), trivial⟩ ?_⟩ <;> (rw [Inbox.at2_succ (by omega), Inbox.step_yes ((Inbox.isMsg_is _).2 ⟨(Inbox.write_ok _).1 (by omega), by omega, by omega⟩)]; simp)) | (refine ⟨(j + 1, v2), by dsimp only; omega, by dsimp only; omega, (H63.drop (List.Sublist.cons _ (List.Sublist.refl _))).weak ⟨rfl, rfl, rfl, rfl, rfl, rfl, rfl, rfl, rfl, fi rfl (by dsimp only; omega), trivial⟩ ?_⟩ <;> (rw [Inbox.at2_succ (by omega), Inbox.step_no (Inbox.isMsg_not (by rintro ⟨h1, h2, h3⟩; have h1 := (Inbox.write_ok _).2 h1; omega))]; try rfl))
              · skip
                try simp only [decide_eq_true_eq, decide_eq_false_iff_not, Bool.not_eq_true', Bool.not_eq_false', Bool.and_eq_true, Bool.not_eq_true, Bool.not_eq_false] at hc53
                refine wp_skip ?_
                refine inb_n ?_
                refine then_n ?_
                refine reg ?_
                refine plain (y_add rfl rfl rfl (by first | exact w64 (by omega) (by omega) | rfl)) rfl rfl rfl H52 ?_
                clear H52; intro a64 H64
                refine plain (y_move rfl rfl) rfl rfl rfl H64 ?_
                clear H64; intro a65 H65
                refine fin ?_
                refine then_n ?_
                first | (refine ⟨(j + 1, vn), by dsimp only; omega, by dsimp only; omega, (H65.drop (List.Sublist.cons_cons _ (List.Sublist.cons_cons _ (List.Sublist.cons_cons _ (List.Sublist.cons _ (List.Sublist.refl _)))))).weak ⟨rfl, rfl, rfl, rfl, rfl, rfl, rfl, rfl, rfl, fi rfl (by dsimp only; omega), trivial⟩ ?_⟩ <;> (rw [Inbox.at2_succ (by omega), Inbox.step_yes ((Inbox.isMsg_is _).2 ⟨(Inbox.write_ok _).1 (by omega), by omega, by omega⟩)]; simp)) | (refine ⟨(j + 1, v2), by dsimp only; omega, by dsimp only; omega, (H65.drop (List.Sublist.cons _ (List.Sublist.refl _))).weak ⟨rfl, rfl, rfl, rfl, rfl, rfl, rfl, rfl, rfl, fi rfl (by dsimp only; omega), trivial⟩ ?_⟩ <;> (rw [Inbox.at2_succ (by omega), Inbox.step_no (Inbox.isMsg_not (by rintro ⟨h1, h2, h3⟩; have h1 := (Inbox.write_ok _).2 h1; omega))]; try rfl))
          · first
            | fail
            | skip
              clear H45; intro H66
              try simp only [decide_eq_true_eq, decide_eq_false_iff_not, Bool.not_eq_true', Bool.not_eq_false', Bool.and_eq_true, Bool.not_eq_true, Bool.not_eq_false] at hg46
              refine skip rfl rfl rfl H66 ?_
              clear H66; intro a67 H67
              refine skip rfl rfl rfl H67 ?_
              clear H67; intro a68 H68
              refine skip rfl rfl rfl H68 ?_
              clear H68; intro a69 H69
              refine skip rfl rfl rfl H69 ?_
              clear H69; intro a70 H70
              refine plain (y_pick_f rfl rfl rfl) rfl rfl rfl H70 ?_
              clear H70; intro a71 H71
              refine fin ?_
              refine then_n ?_
              refine cnd_f H71 rfl ?_
              refine wp_skip ?_
              refine inb_n ?_
              refine then_n ?_
              refine reg ?_
              refine plain (y_add rfl rfl rfl (by first | exact w64 (by omega) (by omega) | rfl)) rfl rfl rfl H71 ?_
              clear H71; intro a73 H73
              refine plain (y_move rfl rfl) rfl rfl rfl H73 ?_
              clear H73; intro a74 H74
              refine fin ?_
              refine then_n ?_
              first | (refine ⟨(j + 1, vn), by dsimp only; omega, by dsimp only; omega, (H74.drop (List.Sublist.cons_cons _ (List.Sublist.cons_cons _ (List.Sublist.cons_cons _ (List.Sublist.cons _ (List.Sublist.refl _)))))).weak ⟨rfl, rfl, rfl, rfl, rfl, rfl, rfl, rfl, rfl, fi rfl (by dsimp only; omega), trivial⟩ ?_⟩ <;> (rw [Inbox.at2_succ (by omega), Inbox.step_yes ((Inbox.isMsg_is _).2 ⟨(Inbox.write_ok _).1 (by omega), by omega, by omega⟩)]; simp)) | (refine ⟨(j + 1, v2), by dsimp only; omega, by dsimp only; omega, (H74.drop (List.Sublist.cons _ (List.Sublist.refl _))).weak ⟨rfl, rfl, rfl, rfl, rfl, rfl, rfl, rfl, rfl, fi rfl (by dsimp only; omega), trivial⟩ ?_⟩ <;> (rw [Inbox.at2_succ (by omega), Inbox.step_no (Inbox.isMsg_not (by rintro ⟨h1, h2, h3⟩; have h1 := (Inbox.write_ok _).2 h1; omega))]; try rfl))
      · first
        | fail
        | skip
          clear H38; intro H75
          try simp only [decide_eq_true_eq, decide_eq_false_iff_not, Bool.not_eq_true', Bool.not_eq_false', Bool.and_eq_true, Bool.not_eq_true, Bool.not_eq_false] at hg39
          refine skip rfl rfl rfl H75 ?_
          clear H75; intro a76 H76
          refine skip rfl rfl rfl H76 ?_
          clear H76; intro a77 H77
          refine skip rfl rfl rfl H77 ?_
          clear H77; intro a78 H78
          refine plain (y_pick_f rfl rfl rfl) rfl rfl rfl H78 ?_
          clear H78; intro a79 H79
          refine plain (y_move rfl rfl) rfl rfl rfl H79 ?_
          clear H79; intro a80 H80
          refine skip rfl rfl rfl H80 ?_
          clear H80; intro a81 H81
          refine skip rfl rfl rfl H81 ?_
          clear H81; intro a82 H82
          refine skip rfl rfl rfl H82 ?_
          clear H82; intro a83 H83
          refine skip rfl rfl rfl H83 ?_
          clear H83; intro a84 H84
          refine plain (y_pick_f rfl rfl rfl) rfl rfl rfl H84 ?_
          clear H84; intro a85 H85
          refine fin ?_
          refine then_n ?_
          refine cnd_f H85 rfl ?_
          refine wp_skip ?_
          refine inb_n ?_
          refine then_n ?_
          refine reg ?_
          refine plain (y_add rfl rfl rfl (by first | exact w64 (by omega) (by omega) | rfl)) rfl rfl rfl H85 ?_
          clear H85; intro a87 H87
          refine plain (y_move rfl rfl) rfl rfl rfl H87 ?_
          clear H87; intro a88 H88
          refine fin ?_
          refine then_n ?_
          first | (refine ⟨(j + 1, vn), by dsimp only; omega, by dsimp only; omega, (H88.drop (List.Sublist.cons_cons _ (List.Sublist.cons_cons _ (List.Sublist.cons_cons _ (List.Sublist.cons _ (List.Sublist.refl _)))))).weak ⟨rfl, rfl, rfl, rfl, rfl, rfl, rfl, rfl, rfl, fi rfl (by dsimp only; omega), trivial⟩ ?_⟩ <;> (rw [Inbox.at2_succ (by omega), Inbox.step_yes ((Inbox.isMsg_is _).2 ⟨(Inbox.write_ok _).1 (by omega), by omega, by omega⟩)]; simp)) | (refine ⟨(j + 1, v2), by dsimp only; omega, by dsimp only; omega, (H88.drop (List.Sublist.cons _ (List.Sublist.refl _))).weak ⟨rfl, rfl, rfl, rfl, rfl, rfl, rfl, rfl, rfl, fi rfl (by dsimp only; omega), trivial⟩ ?_⟩ <;> (rw [Inbox.at2_succ (by omega), Inbox.step_no (Inbox.isMsg_not (by rintro ⟨h1, h2, h3⟩; have h1 := (Inbox.write_ok _).2 h1; omega))]; try rfl))
    · skip
      try simp only [decide_eq_true_eq, decide_eq_false_iff_not, Bool.not_eq_true', Bool.not_eq_false', Bool.and_eq_true, Bool.not_eq_true, Bool.not_eq_false] at hc24
      refine wp_exit ?_
      refine then_x ?_
      refine then_x ?_
      refine inb_hit ?_
      refine inb_n ?_
      refine then_n ?_
      refine reg ?_
      refine plain (y_add rfl rfl rfl (by first | exact w64 (by omega) (by omega) | rfl)) rfl rfl rfl H23 ?_
      clear H23; intro a89 H89
      refine plain (y_move rfl rfl) rfl rfl rfl H89 ?_
      clear H89; intro a90 H90
      refine fin ?_
      refine then_n ?_
      refine ⟨(k + 1, v2), by dsimp only; omega, by dsimp only; omega, (H90.drop (List.Sublist.cons_cons _ (List.Sublist.cons_cons _ (List.Sublist.cons_cons _ (List.Sublist.cons _ (List.Sublist.refl _)))))).weak ⟨rfl, rfl, rfl, rfl, rfl, fi rfl (by dsimp only; omega), trivial⟩ ?_⟩
      rw [Inbox.at1_succ (j := j) (by omega) (by omega)]
  · skip
    try simp only [decide_eq_true_eq, decide_eq_false_iff_not, Bool.not_eq_true', Bool.not_eq_false', Bool.and_eq_true, Bool.not_eq_true, Bool.not_eq_false] at hc13
    refine wp_exit ?_
    refine then_x ?_
    refine then_x ?_
    refine inb_hit ?_
    refine then_n ?_
    refine wp_seq ?_
    refine reg ?_
    refine plain (y_loadB rfl z_agg22 rfl (by repeat (first | exact Mh | apply Mt)) q_ix_c1_0) rfl rfl rfl H12 ?_
    clear H12; intro a91 H91
    refine plain (y_assign rfl rfl) rfl rfl rfl H91 ?_
    clear H91; intro a92 H92
    refine fin ?_
    refine then_n ?_
    refine wp_ret ?_
    -- return 1
    refine ret1 rfl H92 rfl ?_
    refine ⟨_, _, rfl, rfl, ?_⟩
    rw [← Inbox.at1_all (X := X) (k := k) (by omega)]
    exact H92.sep.sub (by first | exact S0 | exact S1 | repeat (first | exact S1 | exact S0 | apply S2 | apply S3))

end Go.Proofs.YtbdkgmkaakoigaaDoor.I_Msg

set_option linter.unusedVariables false
set_option linter.unusedSimpArgs false
namespace Go.Proofs.YtbdkgmkaakoigaaDoor.I_Reach
open Go.Sx Go.RowKit

theorem z_size38 : sizeB Tryd.prog 38 = some 35 := by kernel_rfl
theorem z_field38_2 : fieldB Tryd.prog 38 2 = some 2 := by kernel_rfl
theorem z_agg3 : aggB Tryd.prog 3 = some false := by kernel_rfl

set_option maxRecDepth 100000 in
set_option maxHeartbeats 1000000 in
theorem ireach (l : List Inbox.Entry) (hl : ∀ e ∈ l, e.acc.length = 32) (A : Option Addr) (m c : Nat) (hm : m = l.length) (hm2 : l.length ≤ 9223372036854775807) (n t wt : Int) (hn : Note.I64 n) (ht : Note.I64 t) (hwt : Note.I64 wt) {w : World} (hR : Rd w A (Inbox.ec l)) : Calls Tryd.prog 9 #[.slice A m c, .int .i64 n, .int .i64 t, .int .i64 wt] w (Gives (.int .i64 ((Inbox.reach l n t wt : Nat) : Int)) [] w) := by
  subst hm
  obtain ⟨hn1, hn2⟩ := hn
  obtain ⟨ht1, ht2⟩ := ht
  obtain ⟨hw1, hw2⟩ := hwt
  have lz32 : (List.replicate 32 (0 : UInt8)).length = 32 := List.length_replicate
  refine enterL (args := [.slice A l.length c, .int .i64 n, .int .i64 t, .int .i64 wt]) Tryd.func9 rfl rfl (l := []) (Sep.refl _) ?_
  intro a0 H0
  refine wp_seq ?_
  refine reg ?_
  refine plain (y_assign rfl rfl) rfl rfl rfl H0 ?_
  clear H0; intro a1 H1
  refine fin ?_
  refine then_n ?_
  refine wp_seq ?_
  refine wp_seq ?_
  refine reg ?_
  refine plain (y_move rfl rfl) rfl rfl rfl H1 ?_
  clear H1; intro a2 H2
  refine plain (y_lss rfl rfl rfl) rfl rfl rfl H2 ?_
  clear H2; intro a3 H3
  refine plain (y_move rfl rfl) rfl rfl rfl H3 ?_
  clear H3; intro a4 H4
  refine Sx.part (d := 12) H4 rfl (fun hg5 => ?_) (fun hg5 => ?_)
  · first
    | fail
    | skip
      clear H4; intro H6
      try simp only [decide_eq_true_eq, decide_eq_false_iff_not, Bool.not_eq_true', Bool.not_eq_false', Bool.and_eq_true, Bool.not_eq_true, Bool.not_eq_false] at hg5
      refine skip rfl rfl rfl H6 ?_
      clear H6; intro a7 H7
      refine skip rfl rfl rfl H7 ?_
      clear H7; intro a8 H8
      refine plain (y_pick_t rfl rfl rfl) rfl rfl rfl H8 ?_
      clear H8; intro a9 H9
      refine fin ?_
      refine then_n ?_
      refine cnd_t H9 rfl ?_
      refine wp_seq ?_
      refine reg ?_
      refine plain (y_assign rfl rfl) rfl rfl rfl H9 ?_
      clear H9; intro a11 H11
      refine fin ?_
      refine then_n ?_
      refine wp_ret ?_
      refine then_r ?_
      -- return 1
      refine ret1 rfl H11 rfl ?_
      refine ⟨_, [], rfl, ⟨?_, rfl⟩, H11.sep.sub (List.nil_sublist _)⟩
      clear H11
      rw [Inbox.reach_zero (by omega)]
      try rfl
  · first
    | fail
    | skip
      clear H4; intro H12
      try simp only [decide_eq_true_eq, decide_eq_false_iff_not, Bool.not_eq_true', Bool.not_eq_false', Bool.and_eq_true, Bool.not_eq_true, Bool.not_eq_false] at hg5
      refine plain (y_move rfl rfl) rfl rfl rfl H12 ?_
      clear H12; intro a13 H13
      refine plain (y_lss rfl rfl rfl) rfl rfl rfl H13 ?_
      clear H13; intro a14 H14
      refine plain (y_pick_f rfl rfl rfl) rfl rfl rfl H14 ?_
      clear H14; intro a15 H15
      refine fin ?_
      refine then_n ?_
      refine cnd H15 rfl (fun hc16 => ?_) (fun hc16 => ?_) -- cond 2
      · skip
        try simp only [decide_eq_true_eq, decide_eq_false_iff_not, Bool.not_eq_true', Bool.not_eq_false', Bool.and_eq_true, Bool.not_eq_true, Bool.not_eq_false] at hc16
        refine wp_seq ?_
        refine reg ?_
        refine plain (y_assign rfl rfl) rfl rfl rfl H15 ?_
        clear H15; intro a17 H17
        refine fin ?_
        refine then_n ?_
        refine wp_ret ?_
        refine then_r ?_
        -- return 2
        refine ret1 rfl H17 rfl ?_
        refine ⟨_, [], rfl, ⟨?_, rfl⟩, H17.sep.sub (List.nil_sublist _)⟩
        clear H17
        rw [Inbox.reach_zero (by omega)]
        try rfl
      · skip
        try simp only [decide_eq_true_eq, decide_eq_false_iff_not, Bool.not_eq_true', Bool.not_eq_false', Bool.and_eq_true, Bool.not_eq_true, Bool.not_eq_false] at hc16
        refine wp_skip ?_
        refine then_n ?_
        refine wp_seq ?_
        refine wp_seq ?_
        refine reg ?_
        refine plain (y_move rfl rfl) rfl rfl rfl H15 ?_
        clear H15; intro a18 H18
        refine plain (y_move rfl rfl) rfl rfl rfl H18 ?_
        clear H18; intro a19 H19
        refine plain (y_add rfl rfl rfl (by first | exact w64 (by omega) (by omega) | rfl)) rfl rfl rfl H19 ?_
        clear H19; intro a20 H20
        refine plain (y_lss rfl rfl rfl) rfl rfl rfl H20 ?_
        clear H20; intro a21 H21
        refine fin ?_
        refine then_n ?_
        refine cnd H21 rfl (fun hc22 => ?_) (fun hc22 => ?_) -- cond 3
        · skip
          try simp only [decide_eq_true_eq, decide_eq_false_iff_not, Bool.not_eq_true', Bool.not_eq_false', Bool.and_eq_true, Bool.not_eq_true, Bool.not_eq_false] at hc22
          refine wp_seq ?_
          refine reg ?_
          refine plain (y_assign rfl rfl) rfl rfl rfl H21 ?_
          clear H21; intro a23 H23
          refine fin ?_
          refine then_n ?_
          refine wp_ret ?_
          refine then_r ?_
          -- return 3
          refine ret1 rfl H23 rfl ?_
          refine ⟨_, [], rfl, ⟨?_, rfl⟩, H23.sep.sub (List.nil_sublist _)⟩
          clear H23
          rw [Inbox.reach_zero (by omega)]
          try rfl
        · skip
          try simp only [decide_eq_true_eq, decide_eq_false_iff_not, Bool.not_eq_true', Bool.not_eq_false', Bool.and_eq_true, Bool.not_eq_true, Bool.not_eq_false] at hc22
          refine wp_skip ?_
          refine then_n ?_
          refine wp_seq ?_
          refine wp_seq ?_
          refine reg ?_
          refine plain (y_move rfl rfl) rfl rfl rfl H21 ?_
          clear H21; intro a24 H24
          refine plain (y_move rfl rfl) rfl rfl rfl H24 ?_
          clear H24; intro a25 H25
          refine plain (y_len rfl Tryd.underlying22 rfl) rfl rfl rfl H25 ?_
          clear H25; intro a26 H26
          refine plain (y_min2 rfl rfl rfl) rfl rfl rfl H26 ?_
          clear H26; intro a27 H27
          refine plain (y_move rfl rfl) rfl rfl rfl H27 ?_
          clear H27; intro a28 H28
          refine fin ?_
          refine then_n ?_
          refine wp_block ?_
          refine loop (ι := Nat) (fun k => [(0, .slice A l.length c), (1, .int .i64 n), (2, .int .i64 t), (3, .int .i64 wt), (23, .int .i64 (min n (l.length : Int))), (24, .int .i64 (k : Int))]) (fun k => []) (fun k => (k : Int) ≤ max 0 (min n (l.length : Int)) ∧ ∀ j, j < k → (l.getD j Inbox.Entry.zero).block ≤ t - wt) (fun k => l.length - k) (0) ⟨by omega, fun j hj => absurd hj (by omega)⟩ (H28.weak ⟨rfl, rfl, rfl, rfl, rfl, rfl, trivial⟩ rfl) ?_
          clear H28; intro k a29 wx29 hok29 H29
          have hok := hok29
          refine wp_seq ?_
          refine reg ?_
          refine plain (y_lss rfl rfl rfl) rfl rfl rfl H29 ?_
          clear H29; intro a30 H30
          refine fin ?_
          refine then_n ?_
          refine wp_seq ?_
          refine cnd H30 rfl (fun hc31 => ?_) (fun hc31 => ?_) -- cond 4
          · skip
            try simp only [decide_eq_true_eq, decide_eq_false_iff_not, Bool.not_eq_true', Bool.not_eq_false', Bool.and_eq_true, Bool.not_eq_true, Bool.not_eq_false] at hc31
            refine wp_skip ?_
            refine then_n ?_
            refine wp_seq ?_
            refine wp_block ?_
            refine wp_seq ?_
            refine reg ?_
            refine plain (y_move rfl rfl) rfl rfl rfl H30 ?_
            clear H30; intro a32 H32
            refine plain (y_assign rfl rfl) rfl rfl rfl H32 ?_
            clear H32; intro a33 H33
            refine fin ?_
            refine then_n ?_
            refine wp_seq ?_
            refine reg ?_
            refine plain (y_move rfl rfl) rfl rfl rfl H33 ?_
            clear H33; intro a34 H34
            refine plain (y_move rfl rfl) rfl rfl rfl H34 ?_
            clear H34; intro a35 H35
            refine plain (y_ixR rfl Tryd.underlying22 z_size38 rfl rfl (by omega) (by omega) (rd_old (by assumption) (by simp)) (by rw [Inbox.ec_len hl]; omega)) rfl rfl rfl H35 ?_
            clear H35; intro a36 H36
            refine plain (y_fieldS rfl z_field38_2 rfl (rd_old (by assumption) (by simp)) (by rw [Inbox.ec_len hl]; omega)) rfl rfl rfl H36 ?_
            clear H36; intro a37 H37
            refine plain (y_loadR rfl z_agg3 rfl (rd_old (by assumption) (by simp)) (by simp only [Int.toNat_natCast, Nat.zero_add]; exact Inbox.ec_block hl (by omega))) rfl rfl rfl H37 ?_
            clear H37; intro a38 H38
            refine plain (y_move rfl rfl) rfl rfl rfl H38 ?_
            clear H38; intro a39 H39
            refine plain (y_move rfl rfl) rfl rfl rfl H39 ?_
            clear H39; intro a40 H40
            refine plain (y_sub rfl rfl rfl (by first | exact w64 (by omega) (by omega) | rfl)) rfl rfl rfl H40 ?_
            clear H40; intro a41 H41
            refine plain (y_gtr rfl rfl rfl) rfl rfl rfl H41 ?_
            clear H41; intro a42 H42
            refine fin ?_
            refine then_n ?_
            refine cnd H42 rfl (fun hc43 => ?_) (fun hc43 => ?_) -- cond 5
            · skip
              try simp only [decide_eq_true_eq, decide_eq_false_iff_not, Bool.not_eq_true', Bool.not_eq_false', Bool.and_eq_true, Bool.not_eq_true, Bool.not_eq_false] at hc43
              refine wp_seq ?_
              refine reg ?_
              refine plain (y_move rfl rfl) rfl rfl rfl H42 ?_
              clear H42; intro a44 H44
              refine plain (y_assign rfl rfl) rfl rfl rfl H44 ?_
              clear H44; intro a45 H45
              refine fin ?_
              refine then_n ?_
              refine wp_ret ?_
              refine inb_r ?_
              refine then_r ?_
              refine then_r ?_
              refine inb_r ?_
              refine then_r ?_
              -- return 4
              refine ret1 rfl H45 rfl ?_
              refine ⟨_, [], rfl, ⟨?_, rfl⟩, H45.sep.sub (List.nil_sublist _)⟩
              clear H45
              rw [Inbox.reach_at (k := k) (by omega) (by omega) (by omega) (by omega) hok.2 (by omega)]
              try rfl
            · skip
              try simp only [decide_eq_true_eq, decide_eq_false_iff_not, Bool.not_eq_true', Bool.not_eq_false', Bool.and_eq_true, Bool.not_eq_true, Bool.not_eq_false] at hc43
              refine wp_skip ?_
              refine inb_n ?_
              refine then_n ?_
              refine reg ?_
              refine plain (y_add rfl rfl rfl (by first | exact w64 (by omega) (by omega) | rfl)) rfl rfl rfl H42 ?_
              clear H42; intro a46 H46
              refine plain (y_move rfl rfl) rfl rfl rfl H46 ?_
              clear H46; intro a47 H47
              refine fin ?_
              refine then_n ?_
              refine ⟨k + 1, by omega, ⟨by omega, fun j hj => ?_⟩, H47.weak ⟨rfl, rfl, rfl, rfl, rfl, fi rfl (by omega), trivial⟩ rfl⟩
              by_cases e : j = k
              · subst e; omega
              · exact hok.2 j (by omega)
          · skip
            try simp only [decide_eq_true_eq, decide_eq_false_iff_not, Bool.not_eq_true', Bool.not_eq_false', Bool.and_eq_true, Bool.not_eq_true, Bool.not_eq_false] at hc31
            refine wp_exit ?_
            refine then_x ?_
            refine then_x ?_
            refine inb_hit ?_
            refine then_n ?_
            refine wp_seq ?_
            refine reg ?_
            refine plain (y_move rfl rfl) rfl rfl rfl H30 ?_
            clear H30; intro a48 H48
            refine plain (y_move rfl rfl) rfl rfl rfl H48 ?_
            clear H48; intro a49 H49
            refine plain (y_len rfl Tryd.underlying22 rfl) rfl rfl rfl H49 ?_
            clear H49; intro a50 H50
            refine plain (y_min2 rfl rfl rfl) rfl rfl rfl H50 ?_
            clear H50; intro a51 H51
            refine plain (y_assign rfl rfl) rfl rfl rfl H51 ?_
            clear H51; intro a52 H52
            refine fin ?_
            refine then_n ?_
            refine wp_ret ?_
            -- return 5
            refine ret1 rfl H52 rfl ?_
            refine ⟨_, [], rfl, ⟨?_, rfl⟩, H52.sep.sub (List.nil_sublist _)⟩
            clear H52
            rw [Inbox.reach_all (by omega) (by omega) (by omega) (fun j hj => hok.2 j (by omega))]
            exact congrArg (Value.int .i64) (by omega)
end Go.Proofs.YtbdkgmkaakoigaaDoor.I_Reach

set_option linter.unusedVariables false
set_option linter.unusedSimpArgs false
namespace Go.Proofs.YtbdkgmkaakoigaaDoor.I_Aw
open Go.Sx Go.RowKit Go.Proofs.YtbdkgmkaakoigaaDoor.I_Block Go.Proofs.YtbdkgmkaakoigaaDoor.I_Sum Go.Proofs.YtbdkgmkaakoigaaDoor.I_Ref Go.Proofs.YtbdkgmkaakoigaaDoor.I_RSum Go.Proofs.YtbdkgmkaakoigaaDoor.I_Num Go.Proofs.YtbdkgmkaakoigaaDoor.I_Lay Go.Proofs.YtbdkgmkaakoigaaDoor.I_Leaf Go.Proofs.YtbdkgmkaakoigaaDoor.I_Item Go.Proofs.YtbdkgmkaakoigaaDoor.I_RefI Go.Proofs.YtbdkgmkaakoigaaDoor.I_Eq Go.Proofs.YtbdkgmkaakoigaaDoor.I_Put Go.Proofs.YtbdkgmkaakoigaaDoor.I_Msg Go.Proofs.YtbdkgmkaakoigaaDoor.I_Reach

theorem z_zeroN51 : zeroL Tryd.prog 51 = some ((.int .i64 0 :: (.int .i64 0 :: (.int .i64 0 :: (.string ⟨#[]⟩ :: []))))) := by kernel_rfl
theorem z_places51 : placesB Tryd.prog 51 = some [(0, 1), (1, 1), (2, 1), (3, 1)] := by kernel_rfl
theorem q_len_c4 {a0 a1 a2 a3 : Value} : (a0 :: a1 :: a2 :: a3 :: []).length = 4 := (len_c (n := 3) (len_c (n := 2) (len_c (n := 1) (len_c (n := 0) len_n))))
theorem q_spl_c4_0_c1 {a0 a1 a2 a3 : Value} {b0 : Value} : spl (a0 :: a1 :: a2 :: a3 :: []) 0 (b0 :: []) = b0 :: a1 :: a2 :: a3 :: [] := spl_0
theorem q_spl_c4_1_c1 {a0 a1 a2 a3 : Value} {b0 : Value} : spl (a0 :: a1 :: a2 :: a3 :: []) 1 (b0 :: []) = a0 :: b0 :: a2 :: a3 :: [] := (spl_c (o := 0) spl_0)
theorem q_spl_c4_3_c1 {a0 a1 a2 a3 : Value} {b0 : Value} : spl (a0 :: a1 :: a2 :: a3 :: []) 3 (b0 :: []) = a0 :: a1 :: a2 :: b0 :: [] := (spl_c (o := 2) (spl_c (o := 1) (spl_c (o := 0) spl_0)))
theorem q_spl_c4_2_c1 {a0 a1 a2 a3 : Value} {b0 : Value} : spl (a0 :: a1 :: a2 :: a3 :: []) 2 (b0 :: []) = a0 :: a1 :: b0 :: a3 :: [] := (spl_c (o := 1) (spl_c (o := 0) spl_0))
theorem z_size51 : sizeB Tryd.prog 51 = some 4 := by kernel_rfl
theorem z_zero51 : zeroL Tryd.prog 51 = some ([.int .i64 0, .int .i64 0, .int .i64 0, .string ⟨#[]⟩]) := by kernel_rfl
theorem z_zeroN49 : zeroL Tryd.prog 49 = some ((.int .i64 0 :: (.int .i64 0 :: ((List.replicate 32 (0 : UInt8)).map u8 ++ (.slice none 0 0 :: []))))) := by kernel_rfl
theorem z_places49 : placesB Tryd.prog 49 = some [(0, 1), (1, 1), (2, 32), (34, 1)] := by kernel_rfl
theorem q_len_c2b32c1 {a0 a1 a3 : Value} {t2 : List UInt8} (h2 : t2.length = 32) : (a0 :: a1 :: (t2.map u8 ++ (a3 :: []))).length = 35 := (len_c (n := 34) (len_c (n := 33) (len_b (k := 32) (n := 1) h2 (len_c (n := 0) len_n))))
theorem q_spl_c2b32c1_0_c1 {a0 a1 a3 : Value} {t2 : List UInt8} {b0 : Value} : spl (a0 :: a1 :: (t2.map u8 ++ (a3 :: []))) 0 (b0 :: []) = b0 :: a1 :: (t2.map u8 ++ (a3 :: [])) := spl_0
theorem q_spl_c2b32c1_34_c1 {a0 a1 a3 : Value} {t2 : List UInt8} {b0 : Value} (h2 : t2.length = 32) : spl (a0 :: a1 :: (t2.map u8 ++ (a3 :: []))) 34 (b0 :: []) = a0 :: a1 :: (t2.map u8 ++ (b0 :: [])) := (spl_c (o := 33) (spl_c (o := 32) (spl_b (k := 32) (o := 0) h2 rfl spl_0)))
theorem z_size49 : sizeB Tryd.prog 49 = some 35 := by kernel_rfl
theorem z_zero49 : zeroL Tryd.prog 49 = some ([.int .i64 0, .int .i64 0, .int .u8 0, .int .u8 0, .int .u8 0, .int .u8 0, .int .u8 0, .int .u8 0, .int .u8 0, .int .u8 0, .int .u8 0, .int .u8 0, .int .u8 0, .int .u8 0, .int .u8 0, .int .u8 0, .int .u8 0, .int .u8 0, .int .u8 0, .int .u8 0, .int .u8 0, .int .u8 0, .int .u8 0, .int .u8 0, .int .u8 0, .int .u8 0, .int .u8 0, .int .u8 0, .int .u8 0, .int .u8 0, .int .u8 0, .int .u8 0, .int .u8 0, .int .u8 0, .slice none 0 0]) := by kernel_rfl
theorem z_call11 : callB Tryd.prog 11 = true := by kernel_rfl
theorem z_size38 : sizeB Tryd.prog 38 = some 35 := by kernel_rfl
theorem z_field38_2 : fieldB Tryd.prog 38 2 = some 2 := by kernel_rfl
theorem z_agg3 : aggB Tryd.prog 3 = some false := by kernel_rfl
theorem z_field38_3 : fieldB Tryd.prog 38 3 = some 3 := by kernel_rfl
theorem z_agg33 : aggB Tryd.prog 33 = some true := by kernel_rfl
theorem z_size33 : sizeB Tryd.prog 33 = some 32 := by kernel_rfl
theorem z_zeroN33 : zeroL Tryd.prog 33 = some ((List.replicate 32 (0 : UInt8)).map u8) := by kernel_rfl
theorem z_size5 : sizeB Tryd.prog 5 = some 1 := by kernel_rfl
theorem z_call9 : callB Tryd.prog 9 = true := by kernel_rfl

set_option maxRecDepth 100000 in
set_option maxHeartbeats 1000000 in
theorem iawake {w : World} (hG : Glob 0 Sha.K w) : Calls Tryd.prog 8 #[] w (Gives (.bool true) [] w) := by
  have lz32 : (List.replicate 32 (0 : UInt8)).length = 32 := List.length_replicate
  refine enterL (args := []) Tryd.func8 rfl rfl (l := []) (Sep.refl _) ?_
  intro a0 H0
  refine wp_seq ?_
  refine reg ?_
  refine plain (y_assign rfl rfl) rfl rfl rfl H0 ?_
  clear H0; intro a1 H1
  refine fin ?_
  refine then_n ?_
  refine wp_seq ?_
  refine reg ?_
  refine plain (y_build rfl z_zeroN51 z_places51 rfl (lay_1 (off := 0) (n := 4) rfl q_len_c4 (by decide) q_spl_c4_0_c1 (lay_1 (off := 1) (n := 4) rfl q_len_c4 (by decide) q_spl_c4_1_c1 (lay_1 (off := 3) (n := 4) rfl q_len_c4 (by decide) q_spl_c4_3_c1 lay_n (by rfl)) (by rfl)) (by rfl))) rfl rfl rfl H1 ?_
  clear H1; intro a2 H2
  refine plain (y_build rfl z_zeroN51 z_places51 rfl (lay_1 (off := 0) (n := 4) rfl q_len_c4 (by decide) q_spl_c4_0_c1 (lay_1 (off := 2) (n := 4) rfl q_len_c4 (by decide) q_spl_c4_2_c1 lay_n (by rfl)) (by rfl))) rfl rfl rfl H2 ?_
  clear H2; intro a3 H3
  refine st_buildSlice rfl Tryd.underlying47 z_size51 z_zero51 rfl rfl rfl (lay_agg2 (agg_cells _) (agg_cells _) rfl rfl rfl) rfl rfl rfl H3 ?_
  clear H3; intro b4 a4 wx4 H4
  refine plain (y_build rfl z_zeroN49 z_places49 rfl (lay_1 (off := 0) (n := 35) rfl (q_len_c2b32c1 (by first | assumption | exact Inbox.aw_len)) (by decide) q_spl_c2b32c1_0_c1 (lay_1 (off := 34) (n := 35) rfl (q_len_c2b32c1 (by first | assumption | exact Inbox.aw_len)) (by decide) (q_spl_c2b32c1_34_c1 (by first | assumption | exact Inbox.aw_len)) lay_n (by rfl)) (by rfl))) rfl rfl rfl H4 ?_
  clear H4; intro a5 H5
  refine st_buildSlice rfl Tryd.underlying28 z_size49 z_zero49 rfl rfl rfl (lay_agg (agg_cells _) (by simp) (by simp)) rfl rfl rfl H5 ?_
  clear H5; intro b6 a6 wx6 H6
  refine st_call rfl z_call11 rfl rfl rfl rfl H6 (imsgs [⟨Inbox.awB, some ⟨b4, 0, none⟩, 2⟩] (some ⟨b6, 0, none⟩) 1 1 rfl (by simp) (Inbox.aw_wf (Rd.ofSep (rd_blkA (by repeat (first | exact Mh | apply Mt))) H6.sep)) Inbox.aw_hit (by rw [Inbox.bc_one]; exact Rd.ofSep (rd_blkA (by repeat (first | exact Mh | apply Mt))) H6.sep) (hG.frm H6.sep.frm (by simp))) ?_
  clear H6; intro v7 l7 a7 wx7 hf7 H7
  obtain rfl := hf7
  simp only [List.cons_append, List.nil_append] at H7
  obtain ⟨ArM, crM, hvrM, hRrM, hmrM⟩ := row_shape (v := v7) H7.sep (by repeat (first | exact Mh | apply Mt))
  subst hvrM
  simp only [Inbox.aw_msgs', List.length_singleton] at *
  refine plain (y_assign rfl rfl) rfl rfl rfl H7 ?_
  clear H7; intro a8 H8
  refine fin ?_
  refine then_n ?_
  refine wp_seq ?_
  refine reg ?_
  refine plain (y_move rfl rfl) rfl rfl rfl H8 ?_
  clear H8; intro a9 H9
  refine plain (y_len rfl Tryd.underlying22 rfl) rfl rfl rfl H9 ?_
  clear H9; intro a10 H10
  refine plain (y_eql rfl rfl rfl) rfl rfl rfl H10 ?_
  clear H10; intro a11 H11
  refine plain (y_move rfl rfl) rfl rfl rfl H11 ?_
  clear H11; intro a12 H12
  have H14 := H12.know (d := 11) (v := .bool true) rfl (congrArg Value.bool (decide_eq_true (rfl)))
  clear H12
  refine plain (y_move rfl rfl) rfl rfl rfl H14 ?_
  clear H14; intro a15 H15
  refine plain (y_ixR rfl Tryd.underlying22 z_size38 rfl rfl (by omega) (by omega) (rd_row (by repeat (first | exact Mh | apply Mt))) (by first | decide | (rw [Inbox.ec_len (by simpa using Inbox.aw_len)]; decide))) rfl rfl rfl H15 ?_
  clear H15; intro a16 H16
  refine plain (y_fieldS rfl z_field38_2 rfl (rd_row (by repeat (first | exact Mh | apply Mt))) (by first | decide | (rw [Inbox.ec_len (by simpa using Inbox.aw_len)]; decide))) rfl rfl rfl H16 ?_
  clear H16; intro a17 H17
  refine plain (y_loadR rfl z_agg3 rfl (rd_row (by repeat (first | exact Mh | apply Mt))) Inbox.aw_blk) rfl rfl rfl H17 ?_
  clear H17; intro a18 H18
  refine plain (y_eql rfl rfl rfl) rfl rfl rfl H18 ?_
  clear H18; intro a19 H19
  refine plain (y_pick_t rfl rfl rfl) rfl rfl rfl H19 ?_
  clear H19; intro a20 H20
  refine plain (y_move rfl rfl) rfl rfl rfl H20 ?_
  clear H20; intro a21 H21
  have H23 := H21.know (d := 18) (v := .bool true) rfl (congrArg Value.bool (decide_eq_true (rfl)))
  clear H21
  refine plain (y_move rfl rfl) rfl rfl rfl H23 ?_
  clear H23; intro a24 H24
  refine plain (y_ixR rfl Tryd.underlying22 z_size38 rfl rfl (by omega) (by omega) (rd_row (by repeat (first | exact Mh | apply Mt))) (by first | decide | (rw [Inbox.ec_len (by simpa using Inbox.aw_len)]; decide))) rfl rfl rfl H24 ?_
  clear H24; intro a25 H25
  refine plain (y_fieldS rfl z_field38_3 rfl (rd_row (by repeat (first | exact Mh | apply Mt))) (by first | decide | (rw [Inbox.ec_len (by simpa using Inbox.aw_len)]; decide))) rfl rfl rfl H25 ?_
  clear H25; intro a26 H26
  refine plain (y_loadAS rfl z_agg33 z_size33 rfl (rd_row (by repeat (first | exact Mh | apply Mt))) Inbox.aw_acc (by rw [List.length_map]; exact Inbox.aw_len) (by decide)) rfl rfl rfl H26 ?_
  clear H26; intro a27 H27
  refine plain (y_buildA rfl z_zeroN33 Tryd.underlying33 z_size5 rfl lay_n) rfl rfl rfl H27 ?_
  clear H27; intro a28 H28
  refine plain (y_hneq rfl Tryd.eqGuardType33 Tryd.underlying33 Tryd.underlying5 z_size5 rfl rfl (by first | assumption | exact Inbox.aw_len) (by first | assumption | exact Inbox.aw_len)) rfl rfl rfl H28 ?_
  clear H28; intro a29 H29
  refine plain (y_pick_t rfl rfl rfl) rfl rfl rfl H29 ?_
  clear H29; intro a30 H30
  refine plain (y_move rfl rfl) rfl rfl rfl H30 ?_
  clear H30; intro a31 H31
  have H33 := H31.know (d := 26) (v := .bool true) rfl (congrArg Value.bool (decide_eq_true (Inbox.aw_ne)))
  clear H31
  refine plain (y_move rfl rfl) rfl rfl rfl H33 ?_
  clear H33; intro a34 H34
  refine st_callg rfl z_call9 rfl rfl rfl rfl H34 (ireach [Inbox.awE] (by simpa using Inbox.aw_len) _ _ _ rfl (by simp) _ _ _ ⟨by decide, by decide⟩ ⟨by decide, by decide⟩ ⟨by decide, by decide⟩ (Rd.ofSep (rd_row (by repeat (first | exact Mh | apply Mt))) H34.sep)) ?_
  clear H34; intro a35 wx35 H35
  refine plain (y_eql rfl rfl rfl) rfl rfl rfl H35 ?_
  clear H35; intro a36 H36
  refine plain (y_pick_t rfl rfl rfl) rfl rfl rfl H36 ?_
  clear H36; intro a37 H37
  refine plain (y_move rfl rfl) rfl rfl rfl H37 ?_
  clear H37; intro a38 H38
  have H40 := H38.know (d := 31) (v := .bool true) rfl (congrArg Value.bool (decide_eq_true (by rw [Inbox.aw_reach1 _ rfl]; rfl)))
  clear H38
  refine plain (y_move rfl rfl) rfl rfl rfl H40 ?_
  clear H40; intro a41 H41
  refine st_callg rfl z_call9 rfl rfl rfl rfl H41 (ireach [Inbox.awE] (by simpa using Inbox.aw_len) _ _ _ rfl (by simp) _ _ _ ⟨by decide, by decide⟩ ⟨by decide, by decide⟩ ⟨by decide, by decide⟩ (Rd.ofSep (rd_row (by repeat (first | exact Mh | apply Mt))) H41.sep)) ?_
  clear H41; intro a42 wx42 H42
  refine plain (y_eql rfl rfl rfl) rfl rfl rfl H42 ?_
  clear H42; intro a43 H43
  refine plain (y_pick_t rfl rfl rfl) rfl rfl rfl H43 ?_
  clear H43; intro a44 H44
  refine plain (y_assign rfl rfl) rfl rfl rfl H44 ?_
  clear H44; intro a45 H45
  refine fin ?_
  refine then_n ?_
  refine wp_ret ?_
  -- return 1
  refine ret1 rfl H45 rfl ?_
  exact ⟨_, [], rfl, ⟨congrArg Value.bool (decide_eq_true (by rw [Inbox.aw_reach0 _ rfl]; rfl)), rfl⟩, H45.sep.sub (List.nil_sublist _)⟩

end Go.Proofs.YtbdkgmkaakoigaaDoor.I_Aw

set_option linter.unusedVariables false
set_option linter.unusedSimpArgs false
namespace Go.Proofs.YtbdkgmkaakoigaaDoor.I_For
open Go.Sx Go.RowKit Go.Proofs.YtbdkgmkaakoigaaDoor.I_Block Go.Proofs.YtbdkgmkaakoigaaDoor.I_Sum Go.Proofs.YtbdkgmkaakoigaaDoor.I_Ref Go.Proofs.YtbdkgmkaakoigaaDoor.I_RSum Go.Proofs.YtbdkgmkaakoigaaDoor.I_Num Go.Proofs.YtbdkgmkaakoigaaDoor.I_Lay Go.Proofs.YtbdkgmkaakoigaaDoor.I_Leaf Go.Proofs.YtbdkgmkaakoigaaDoor.I_Item Go.Proofs.YtbdkgmkaakoigaaDoor.I_RefI Go.Proofs.YtbdkgmkaakoigaaDoor.I_Eq

theorem z_field49_3 : fieldB Tryd.prog 49 3 = some 34 := by kernel_rfl
theorem z_agg47 : aggB Tryd.prog 47 = some false := by kernel_rfl
theorem q_ix_c2b32c1_34 {a0 a1 a3 : Value} {t2 : List UInt8} (h2 : t2.length = 32) : (a0 :: a1 :: (t2.map u8 ++ (a3 :: [])))[34]? = some a3 := (ix_c (o := 33) (ix_c (o := 32) (ix_b (k := 32) (o := 0) h2 rfl ix_0)))
theorem z_size51 : sizeB Tryd.prog 51 = some 4 := by kernel_rfl
theorem z_agg51 : aggB Tryd.prog 51 = some true := by kernel_rfl
theorem z_zeroN51 : zeroL Tryd.prog 51 = some ((.int .i64 0 :: (.int .i64 0 :: (.int .i64 0 :: (.string ⟨#[]⟩ :: []))))) := by kernel_rfl
theorem q_one_c4 {a0 a1 a2 a3 : Value} (o0 : a0.oneCell' = true) (o1 : a1.oneCell' = true) (o2 : a2.oneCell' = true) (o3 : a3.oneCell' = true) : (a0 :: a1 :: a2 :: a3 :: []).all (·.oneCell') = true := (one_c o0 (one_c o1 (one_c o2 (one_c o3 one_n))))
theorem q_len_c4 {a0 a1 a2 a3 : Value} : (a0 :: a1 :: a2 :: a3 :: []).length = 4 := (len_c (n := 3) (len_c (n := 2) (len_c (n := 1) (len_c (n := 0) len_n))))
theorem q_spl_c4_0_c4 {a0 a1 a2 a3 : Value} {b0 b1 b2 b3 : Value} : spl (a0 :: a1 :: a2 :: a3 :: []) 0 (b0 :: b1 :: b2 :: b3 :: []) = b0 :: b1 :: b2 :: b3 :: [] := (spl_a (z := 4) (len_c (n := 3) (len_c (n := 2) (len_c (n := 1) (len_c (n := 0) len_n)))) (len_c (n := 3) (len_c (n := 2) (len_c (n := 1) (len_c (n := 0) len_n)))))
theorem q_ld_c4_0_4 {a0 a1 a2 a3 : Value} : ((a0 :: a1 :: a2 :: a3 :: []).drop 0).take 4 = a0 :: a1 :: a2 :: a3 :: [] := (ld_a (len_c (n := 3) (len_c (n := 2) (len_c (n := 1) (len_c (n := 0) len_n)))))
theorem z_call24 : callB Tryd.prog 24 = true := by kernel_rfl
theorem z_field51_0 : fieldB Tryd.prog 51 0 = some 0 := by kernel_rfl
theorem z_agg3 : aggB Tryd.prog 3 = some false := by kernel_rfl
theorem q_ix_c4_0 {a0 a1 a2 a3 : Value} : (a0 :: a1 :: a2 :: a3 :: [])[0]? = some a0 := ix_0
theorem z_field51_2 : fieldB Tryd.prog 51 2 = some 2 := by kernel_rfl
theorem q_ix_c4_2 {a0 a1 a2 a3 : Value} : (a0 :: a1 :: a2 :: a3 :: [])[2]? = some a2 := (ix_c (o := 1) (ix_c (o := 0) ix_0))
theorem z_size3 : sizeB Tryd.prog 3 = some 1 := by kernel_rfl
theorem z_zero3 : zeroL Tryd.prog 3 = some ([.int .i64 0]) := by kernel_rfl
end Go.Proofs.YtbdkgmkaakoigaaDoor.I_For

set_option linter.unusedVariables false
set_option linter.unusedSimpArgs false
namespace Go.Proofs.YtbdkgmkaakoigaaDoor.I_RFor
open Go.Sx Go.RowKit Go.Proofs.YtbdkgmkaakoigaaDoor.I_Block Go.Proofs.YtbdkgmkaakoigaaDoor.I_Sum Go.Proofs.YtbdkgmkaakoigaaDoor.I_Ref Go.Proofs.YtbdkgmkaakoigaaDoor.I_RSum Go.Proofs.YtbdkgmkaakoigaaDoor.I_Num Go.Proofs.YtbdkgmkaakoigaaDoor.I_Lay Go.Proofs.YtbdkgmkaakoigaaDoor.I_Leaf Go.Proofs.YtbdkgmkaakoigaaDoor.I_Item Go.Proofs.YtbdkgmkaakoigaaDoor.I_RefI Go.Proofs.YtbdkgmkaakoigaaDoor.I_Eq

theorem z_field49_3 : fieldB Tryd.prog 49 3 = some 34 := by kernel_rfl
theorem z_agg47 : aggB Tryd.prog 47 = some false := by kernel_rfl
theorem q_ix_c2b32c1_34 {a0 a1 a3 : Value} {t2 : List UInt8} (h2 : t2.length = 32) : (a0 :: a1 :: (t2.map u8 ++ (a3 :: [])))[34]? = some a3 := (ix_c (o := 33) (ix_c (o := 32) (ix_b (k := 32) (o := 0) h2 rfl ix_0)))
theorem z_size51 : sizeB Tryd.prog 51 = some 4 := by kernel_rfl
theorem z_field51_0 : fieldB Tryd.prog 51 0 = some 0 := by kernel_rfl
theorem z_agg3 : aggB Tryd.prog 3 = some false := by kernel_rfl
theorem z_agg51 : aggB Tryd.prog 51 = some true := by kernel_rfl
theorem z_field51_2 : fieldB Tryd.prog 51 2 = some 2 := by kernel_rfl
theorem z_size3 : sizeB Tryd.prog 3 = some 1 := by kernel_rfl
theorem z_zero3 : zeroL Tryd.prog 3 = some ([.int .i64 0]) := by kernel_rfl
end Go.Proofs.YtbdkgmkaakoigaaDoor.I_RFor

set_option linter.unusedVariables false
set_option linter.unusedSimpArgs false
namespace Go.Proofs.YtbdkgmkaakoigaaDoor.I_RMsg
open Go.Sx Go.RowKit Go.Proofs.YtbdkgmkaakoigaaDoor.I_Block Go.Proofs.YtbdkgmkaakoigaaDoor.I_Sum Go.Proofs.YtbdkgmkaakoigaaDoor.I_Ref Go.Proofs.YtbdkgmkaakoigaaDoor.I_RSum Go.Proofs.YtbdkgmkaakoigaaDoor.I_Num Go.Proofs.YtbdkgmkaakoigaaDoor.I_Lay Go.Proofs.YtbdkgmkaakoigaaDoor.I_Leaf Go.Proofs.YtbdkgmkaakoigaaDoor.I_Item Go.Proofs.YtbdkgmkaakoigaaDoor.I_RefI Go.Proofs.YtbdkgmkaakoigaaDoor.I_Eq

theorem z_zeroN33 : zeroL Tryd.prog 33 = some ((List.replicate 32 (0 : UInt8)).map u8) := by kernel_rfl
theorem z_size5 : sizeB Tryd.prog 5 = some 1 := by kernel_rfl
theorem z_size33 : sizeB Tryd.prog 33 = some 32 := by kernel_rfl
theorem q_one_b32 {t0 : List UInt8} : (t0.map u8).all (·.oneCell') = true := (one_u8 _)
theorem q_len_b32 {t0 : List UInt8} (h0 : t0.length = 32) : (t0.map u8).length = 32 := (len_e (k := 32) h0)
theorem q_spl_b32_0_b32 {t0 : List UInt8} {s0 : List UInt8} (h0 : t0.length = 32) (g0 : s0.length = 32) : spl (t0.map u8) 0 (s0.map u8) = s0.map u8 := (spl_a (z := 32) (len_e (k := 32) h0) (len_e (k := 32) g0))
theorem z_size49 : sizeB Tryd.prog 49 = some 35 := by kernel_rfl
theorem z_field49_3 : fieldB Tryd.prog 49 3 = some 34 := by kernel_rfl
theorem z_agg47 : aggB Tryd.prog 47 = some false := by kernel_rfl
theorem z_size51 : sizeB Tryd.prog 51 = some 4 := by kernel_rfl
theorem z_agg51 : aggB Tryd.prog 51 = some true := by kernel_rfl
theorem z_zeroN51 : zeroL Tryd.prog 51 = some ((.int .i64 0 :: (.int .i64 0 :: (.int .i64 0 :: (.string ⟨#[]⟩ :: []))))) := by kernel_rfl
theorem q_one_c4 {a0 a1 a2 a3 : Value} (o0 : a0.oneCell' = true) (o1 : a1.oneCell' = true) (o2 : a2.oneCell' = true) (o3 : a3.oneCell' = true) : (a0 :: a1 :: a2 :: a3 :: []).all (·.oneCell') = true := (one_c o0 (one_c o1 (one_c o2 (one_c o3 one_n))))
theorem q_len_c4 {a0 a1 a2 a3 : Value} : (a0 :: a1 :: a2 :: a3 :: []).length = 4 := (len_c (n := 3) (len_c (n := 2) (len_c (n := 1) (len_c (n := 0) len_n))))
theorem q_spl_c4_0_c4 {a0 a1 a2 a3 : Value} {b0 b1 b2 b3 : Value} : spl (a0 :: a1 :: a2 :: a3 :: []) 0 (b0 :: b1 :: b2 :: b3 :: []) = b0 :: b1 :: b2 :: b3 :: [] := (spl_a (z := 4) (len_c (n := 3) (len_c (n := 2) (len_c (n := 1) (len_c (n := 0) len_n)))) (len_c (n := 3) (len_c (n := 2) (len_c (n := 1) (len_c (n := 0) len_n)))))
theorem z_field51_0 : fieldB Tryd.prog 51 0 = some 0 := by kernel_rfl
theorem z_agg3 : aggB Tryd.prog 3 = some false := by kernel_rfl
theorem q_ix_c4_0 {a0 a1 a2 a3 : Value} : (a0 :: a1 :: a2 :: a3 :: [])[0]? = some a0 := ix_0
theorem q_ld_c4_0_4 {a0 a1 a2 a3 : Value} : ((a0 :: a1 :: a2 :: a3 :: []).drop 0).take 4 = a0 :: a1 :: a2 :: a3 :: [] := (ld_a (len_c (n := 3) (len_c (n := 2) (len_c (n := 1) (len_c (n := 0) len_n)))))
theorem z_field51_3 : fieldB Tryd.prog 51 3 = some 3 := by kernel_rfl
theorem z_agg9 : aggB Tryd.prog 9 = some false := by kernel_rfl
theorem q_ix_c4_3 {a0 a1 a2 a3 : Value} : (a0 :: a1 :: a2 :: a3 :: [])[3]? = some a3 := (ix_c (o := 2) (ix_c (o := 1) (ix_c (o := 0) ix_0)))
theorem z_field51_1 : fieldB Tryd.prog 51 1 = some 1 := by kernel_rfl
theorem q_ix_c4_1 {a0 a1 a2 a3 : Value} : (a0 :: a1 :: a2 :: a3 :: [])[1]? = some a1 := (ix_c (o := 0) ix_0)
theorem z_call13 : callB Tryd.prog 13 = true := by kernel_rfl
theorem z_size9 : sizeB Tryd.prog 9 = some 1 := by kernel_rfl
theorem z_zero9 : zeroL Tryd.prog 9 = some ([.string ⟨#[]⟩]) := by kernel_rfl
theorem z_call14 : callB Tryd.prog 14 = true := by kernel_rfl
theorem z_agg33 : aggB Tryd.prog 33 = some true := by kernel_rfl
theorem q_ld_b32_0_32 {t0 : List UInt8} (h0 : t0.length = 32) : ((t0.map u8).drop 0).take 32 = t0.map u8 := (ld_a (len_e (k := 32) h0))
theorem z_call15 : callB Tryd.prog 15 = true := by kernel_rfl
theorem z_field49_0 : fieldB Tryd.prog 49 0 = some 0 := by kernel_rfl
theorem z_zeroN38 : zeroL Tryd.prog 38 = some ((.int .i64 0 :: (.string ⟨#[]⟩ :: (.int .i64 0 :: (List.replicate 32 (0 : UInt8)).map u8)))) := by kernel_rfl
theorem z_places38 : placesB Tryd.prog 38 = some [(0, 1), (1, 1), (2, 1), (3, 32)] := by kernel_rfl
theorem q_len_c3b32 {a0 a1 a2 : Value} {t3 : List UInt8} (h3 : t3.length = 32) : (a0 :: a1 :: a2 :: t3.map u8).length = 35 := (len_c (n := 34) (len_c (n := 33) (len_c (n := 32) (len_e (k := 32) h3))))
theorem q_spl_c3b32_0_c1 {a0 a1 a2 : Value} {t3 : List UInt8} {b0 : Value} : spl (a0 :: a1 :: a2 :: t3.map u8) 0 (b0 :: []) = b0 :: a1 :: a2 :: t3.map u8 := spl_0
theorem q_spl_c3b32_1_c1 {a0 a1 a2 : Value} {t3 : List UInt8} {b0 : Value} : spl (a0 :: a1 :: a2 :: t3.map u8) 1 (b0 :: []) = a0 :: b0 :: a2 :: t3.map u8 := (spl_c (o := 0) spl_0)
theorem q_spl_c3b32_2_c1 {a0 a1 a2 : Value} {t3 : List UInt8} {b0 : Value} : spl (a0 :: a1 :: a2 :: t3.map u8) 2 (b0 :: []) = a0 :: a1 :: b0 :: t3.map u8 := (spl_c (o := 1) (spl_c (o := 0) spl_0))
theorem q_spl_c3b32_3_b32 {a0 a1 a2 : Value} {t3 : List UInt8} {s0 : List UInt8} (h3 : t3.length = 32) (g0 : s0.length = 32) : spl (a0 :: a1 :: a2 :: t3.map u8) 3 (s0.map u8) = a0 :: a1 :: a2 :: s0.map u8 := (spl_c (o := 2) (spl_c (o := 1) (spl_c (o := 0) (spl_a (z := 32) (len_e (k := 32) h3) (len_e (k := 32) g0)))))
theorem z_size38 : sizeB Tryd.prog 38 = some 35 := by kernel_rfl
theorem z_zero38 : zeroL Tryd.prog 38 = some ([.int .i64 0, .string ⟨#[]⟩, .int .i64 0, .int .u8 0, .int .u8 0, .int .u8 0, .int .u8 0, .int .u8 0, .int .u8 0, .int .u8 0, .int .u8 0, .int .u8 0, .int .u8 0, .int .u8 0, .int .u8 0, .int .u8 0, .int .u8 0, .int .u8 0, .int .u8 0, .int .u8 0, .int .u8 0, .int .u8 0, .int .u8 0, .int .u8 0, .int .u8 0, .int .u8 0, .int .u8 0, .int .u8 0, .int .u8 0, .int .u8 0, .int .u8 0, .int .u8 0, .int .u8 0, .int .u8 0, .int .u8 0]) := by kernel_rfl
theorem z_slice22 : sliceB Tryd.prog 22 = some (38, 35, 64) := by kernel_rfl
theorem z_notint22 : notIntB Tryd.prog 22 = true := by kernel_rfl

end Go.Proofs.YtbdkgmkaakoigaaDoor.I_RMsg

set_option linter.unusedVariables false
set_option linter.unusedSimpArgs false
namespace Go.Proofs.YtbdkgmkaakoigaaDoor.I_Same
open Go.Sx Go.RowKit Go.Proofs.YtbdkgmkaakoigaaDoor.I_Block Go.Proofs.YtbdkgmkaakoigaaDoor.I_Sum Go.Proofs.YtbdkgmkaakoigaaDoor.I_Ref Go.Proofs.YtbdkgmkaakoigaaDoor.I_RSum Go.Proofs.YtbdkgmkaakoigaaDoor.I_Num Go.Proofs.YtbdkgmkaakoigaaDoor.I_Lay Go.Proofs.YtbdkgmkaakoigaaDoor.I_Leaf Go.Proofs.YtbdkgmkaakoigaaDoor.I_Item Go.Proofs.YtbdkgmkaakoigaaDoor.I_RefI Go.Proofs.YtbdkgmkaakoigaaDoor.I_Eq

theorem z_size38 : sizeB Tryd.prog 38 = some 35 := by kernel_rfl
end Go.Proofs.YtbdkgmkaakoigaaDoor.I_Same

set_option linter.unusedVariables false
set_option linter.unusedSimpArgs false
namespace Go.Proofs.YtbdkgmkaakoigaaDoor.I_Nums
open Go.Sx Go.RowKit Go.Proofs.YtbdkgmkaakoigaaDoor.I_Block Go.Proofs.YtbdkgmkaakoigaaDoor.I_Sum Go.Proofs.YtbdkgmkaakoigaaDoor.I_Ref Go.Proofs.YtbdkgmkaakoigaaDoor.I_RSum Go.Proofs.YtbdkgmkaakoigaaDoor.I_Num Go.Proofs.YtbdkgmkaakoigaaDoor.I_Lay Go.Proofs.YtbdkgmkaakoigaaDoor.I_Leaf Go.Proofs.YtbdkgmkaakoigaaDoor.I_Item Go.Proofs.YtbdkgmkaakoigaaDoor.I_RefI Go.Proofs.YtbdkgmkaakoigaaDoor.I_Eq

theorem z_size3 : sizeB Tryd.prog 3 = some 1 := by kernel_rfl
theorem z_agg3 : aggB Tryd.prog 3 = some false := by kernel_rfl

end Go.Proofs.YtbdkgmkaakoigaaDoor.I_Nums

set_option linter.unusedVariables false
set_option linter.unusedSimpArgs false
namespace Go.Proofs.YtbdkgmkaakoigaaDoor.I_L5
open Go.Sx Go.RowKit Go.Proofs.YtbdkgmkaakoigaaDoor.I_Block Go.Proofs.YtbdkgmkaakoigaaDoor.I_Sum Go.Proofs.YtbdkgmkaakoigaaDoor.I_Ref Go.Proofs.YtbdkgmkaakoigaaDoor.I_RSum Go.Proofs.YtbdkgmkaakoigaaDoor.I_Num Go.Proofs.YtbdkgmkaakoigaaDoor.I_Lay Go.Proofs.YtbdkgmkaakoigaaDoor.I_Leaf Go.Proofs.YtbdkgmkaakoigaaDoor.I_Item Go.Proofs.YtbdkgmkaakoigaaDoor.I_RefI Go.Proofs.YtbdkgmkaakoigaaDoor.I_Eq Go.Proofs.YtbdkgmkaakoigaaDoor.I_Put Go.Proofs.YtbdkgmkaakoigaaDoor.I_Msg Go.Proofs.YtbdkgmkaakoigaaDoor.I_Reach Go.Proofs.YtbdkgmkaakoigaaDoor.I_Aw Go.Proofs.YtbdkgmkaakoigaaDoor.I_For Go.Proofs.YtbdkgmkaakoigaaDoor.I_RFor Go.Proofs.YtbdkgmkaakoigaaDoor.I_RMsg Go.Proofs.YtbdkgmkaakoigaaDoor.I_Same Go.Proofs.YtbdkgmkaakoigaaDoor.I_Nums

theorem z_size49 : sizeB Tryd.prog 49 = some 35 := by kernel_rfl
theorem z_call11 : callB Tryd.prog 11 = true := by kernel_rfl
theorem z_zeroN33 : zeroL Tryd.prog 33 = some ((List.replicate 32 (0 : UInt8)).map u8) := by kernel_rfl
theorem z_size5 : sizeB Tryd.prog 5 = some 1 := by kernel_rfl
theorem z_size33 : sizeB Tryd.prog 33 = some 32 := by kernel_rfl
theorem q_one_b32 {t0 : List UInt8} : (t0.map u8).all (·.oneCell') = true := (one_u8 _)
theorem q_len_b32 {t0 : List UInt8} (h0 : t0.length = 32) : (t0.map u8).length = 32 := (len_e (k := 32) h0)
theorem q_spl_b32_0_b32 {t0 : List UInt8} {s0 : List UInt8} (h0 : t0.length = 32) (g0 : s0.length = 32) : spl (t0.map u8) 0 (s0.map u8) = s0.map u8 := (spl_a (z := 32) (len_e (k := 32) h0) (len_e (k := 32) g0))
theorem z_size38 : sizeB Tryd.prog 38 = some 35 := by kernel_rfl
theorem z_field38_0 : fieldB Tryd.prog 38 0 = some 0 := by kernel_rfl
theorem z_agg3 : aggB Tryd.prog 3 = some false := by kernel_rfl
theorem z_call13 : callB Tryd.prog 13 = true := by kernel_rfl
theorem z_field38_1 : fieldB Tryd.prog 38 1 = some 1 := by kernel_rfl
theorem z_agg9 : aggB Tryd.prog 9 = some false := by kernel_rfl
theorem z_size9 : sizeB Tryd.prog 9 = some 1 := by kernel_rfl
theorem z_zero9 : zeroL Tryd.prog 9 = some ([.string ⟨#[]⟩]) := by kernel_rfl
theorem z_call14 : callB Tryd.prog 14 = true := by kernel_rfl
theorem z_agg33 : aggB Tryd.prog 33 = some true := by kernel_rfl
theorem q_ld_b32_0_32 {t0 : List UInt8} (h0 : t0.length = 32) : ((t0.map u8).drop 0).take 32 = t0.map u8 := (ld_a (len_e (k := 32) h0))
theorem z_call15 : callB Tryd.prog 15 = true := by kernel_rfl
theorem z_field38_3 : fieldB Tryd.prog 38 3 = some 3 := by kernel_rfl
theorem z_call8 : callB Tryd.prog 8 = true := by kernel_rfl

set_option maxRecDepth 100000 in
set_option maxHeartbeats 1000000 in
theorem inboxChained (X : List Inbox.BA) (A : Option Addr) (c : Nat) (hcX : X.length ≤ c) (hlX : X.length ≤ 1048576) {w : World} (hXX : ∀ x ∈ X, Inbox.BA.Wf w x) (hitX : ∀ x ∈ X, x.b.items.length ≤ 1048576) (hRX : Rd w A (Inbox.bc X)) (hG : Glob 0 Sha.K w) : Calls Tryd.prog 5 #[.slice A X.length c] w (Gives (.bool true) [] w) := by
  obtain ⟨Y, hWY, hiY, hrY, hnY, h1Y, h2Y⟩ := Inbox.few 40 hXX hitX hRX
  have hml := Inbox.messages_few hiY (by omega)
  have hma := Inbox.messages_accs (Y.map (·.b))
  have lz32 : (List.replicate 32 (0 : UInt8)).length = 32 := List.length_replicate
  refine enterL (args := [.slice A X.length c]) Tryd.func5 rfl rfl (l := []) (Sep.refl _) ?_
  intro a0 H0
  refine wp_seq ?_
  refine reg ?_
  refine plain (y_assign rfl rfl) rfl rfl rfl H0 ?_
  clear H0; intro a1 H1
  refine fin ?_
  refine then_n ?_
  refine wp_seq ?_
  refine wp_seq ?_
  refine reg ?_
  refine plain (y_move rfl rfl) rfl rfl rfl H1 ?_
  clear H1; intro a2 H2
  refine plain (y_len rfl Tryd.underlying28 rfl) rfl rfl rfl H2 ?_
  clear H2; intro a3 H3
  refine plain (y_gtr rfl rfl rfl) rfl rfl rfl H3 ?_
  clear H3; intro a4 H4
  refine fin ?_
  refine then_n ?_
  refine wp_cut (fun aC wC => St Tryd.f5.ntmps [] w ([(0, .slice A Y.length c), (2, .bool false)]) ([]) aC wC) ?_ ?_
  · skip
    refine cnd H4 rfl (fun hc5 => ?_) (fun hc5 => ?_) -- cond 1
    · skip
      try simp only [decide_eq_true_eq, decide_eq_false_iff_not, Bool.not_eq_true', Bool.not_eq_false', Bool.and_eq_true, Bool.not_eq_true, Bool.not_eq_false] at hc5
      refine reg ?_
      refine plain (y_move rfl rfl) rfl rfl rfl H4 ?_
      clear H4; intro a6 H6
      refine plain (y_slS_hi rfl Tryd.underlying28 z_size49 rfl rfl (by omega) (by omega) (by omega)) rfl rfl rfl H6 ?_
      clear H6; intro a7 H7
      refine plain (y_assign rfl rfl) rfl rfl rfl H7 ?_
      clear H7; intro a8 H8
      refine fin ?_
      refine cut_n ?_
      exact H8.weak ⟨fv rfl (congrArg (fun z => Value.slice A z c) (by omega)), rfl, trivial⟩ rfl
    · skip
      try simp only [decide_eq_true_eq, decide_eq_false_iff_not, Bool.not_eq_true', Bool.not_eq_false', Bool.and_eq_true, Bool.not_eq_true, Bool.not_eq_false] at hc5
      refine wp_skip ?_
      refine cut_n ?_
      exact H4.weak ⟨fv rfl (congrArg (fun z => Value.slice A z c) (by omega)), rfl, trivial⟩ rfl
  · clear H4; intro a9 wx9 hI9
    have H9 := hI9
    refine then_n ?_
    refine wp_seq ?_
    refine reg ?_
    refine plain (y_move rfl rfl) rfl rfl rfl H9 ?_
    clear H9; intro a10 H10
    refine st_call rfl z_call11 rfl rfl rfl rfl H10 (imsgs Y A _ c rfl (by omega) (fun x hx => (hWY x hx).frm H10.sep.frm (by simp)) hiY (Rd.frm hrY H10.sep.frm (by simp)) (hG.frm H10.sep.frm (by simp))) ?_
    clear H10; intro v11 l11 a11 wx11 hf11 H11
    obtain rfl := hf11
    simp only [List.cons_append, List.nil_append] at H11
    obtain ⟨ArM, crM, hvrM, hRrM, hmrM⟩ := row_shape (v := v11) H11.sep (by repeat (first | exact Mh | apply Mt))
    subst hvrM
    refine plain (y_assign rfl rfl) rfl rfl rfl H11 ?_
    clear H11; intro a12 H12
    refine fin ?_
    refine then_n ?_
    refine wp_seq ?_
    refine reg ?_
    refine plain (y_buildA rfl z_zeroN33 Tryd.underlying33 z_size5 rfl lay_n) rfl rfl rfl H12 ?_
    clear H12; intro a13 H13
    refine st_alloc rfl z_zeroN33 rfl rfl rfl H13 ?_
    clear H13; intro b14 a14 wx14 H14
    refine st_storeN rfl z_size33 rfl rfl (agg_cells _) (by repeat (first | exact Uh | apply Ut)) q_one_b32 (q_len_b32 (by first | assumption | exact Sha.sum_length _)) (q_len_b32 (by first | assumption | exact Sha.sum_length _)) (q_spl_b32_0_b32 (by first | assumption | exact Sha.sum_length _) (by first | assumption | exact Sha.sum_length _)) (by decide) rfl rfl H14 ?_
    clear H14; intro wx15 H15
    refine fin ?_
    refine then_n ?_
    refine wp_seq ?_
    refine wp_seq ?_
    refine reg ?_
    refine plain (y_assign rfl rfl) rfl rfl rfl H15 ?_
    clear H15; intro a16 H16
    refine fin ?_
    refine then_n ?_
    refine wp_block ?_
    refine loop (ι := Nat) (fun k => [(2, .bool false), (3, .slice ArM (Inbox.messages (Y.map (·.b))).length crM), (4, .pointer (some ⟨b14, 0, none⟩)), (5, .int .i64 (k : Int))]) (fun k => [It.blk b14 33 ((Inbox.lastAcc Note.Z ((Inbox.messages (Y.map (·.b))).take k)).map u8), It.row 38 35 (.slice ArM (Inbox.messages (Y.map (·.b))).length crM) (Inbox.messages (Y.map (·.b))).length (Inbox.ec (Inbox.messages (Y.map (·.b))))]) (fun k => k ≤ (Inbox.messages (Y.map (·.b))).length) (fun k => (Inbox.messages (Y.map (·.b))).length - k) (0) (Nat.zero_le _) (H16.weak ⟨rfl, rfl, rfl, rfl, trivial⟩ rfl) ?_
    clear H16; intro k a17 wx17 hok17 H17
    have hok := hok17
    have hla := Inbox.last_len (Y.map (·.b)) (k := k) (by omega)
    refine wp_seq ?_
    refine wp_seq ?_
    refine reg ?_
    refine plain (y_move rfl rfl) rfl rfl rfl H17 ?_
    clear H17; intro a18 H18
    refine plain (y_move rfl rfl) rfl rfl rfl H18 ?_
    clear H18; intro a19 H19
    refine plain (y_len rfl Tryd.underlying22 rfl) rfl rfl rfl H19 ?_
    clear H19; intro a20 H20
    refine plain (y_lss rfl rfl rfl) rfl rfl rfl H20 ?_
    clear H20; intro a21 H21
    refine fin ?_
    refine then_n ?_
    refine cnd H21 rfl (fun hc22 => ?_) (fun hc22 => ?_) -- cond 2
    · skip
      try simp only [decide_eq_true_eq, decide_eq_false_iff_not, Bool.not_eq_true', Bool.not_eq_false', Bool.and_eq_true, Bool.not_eq_true, Bool.not_eq_false] at hc22
      refine wp_skip ?_
      refine then_n ?_
      refine wp_seq ?_
      refine wp_block ?_
      refine wp_seq ?_
      have hkM : k < (Inbox.messages (Y.map (·.b))).length := by omega
      have hfi := Inbox.fine_at hWY hkM
      have hnx := Inbox.next_is hkM
      have hak : ((Inbox.messages (Y.map (·.b))).getD k Inbox.Entry.zero).acc.length = 32 := hma _ (by rw [Oct.getD_eq _ hkM]; exact List.getElem_mem _)
      refine reg ?_
      refine plain (y_move rfl rfl) rfl rfl rfl H21 ?_
      clear H21; intro a23 H23
      refine plain (y_move rfl rfl) rfl rfl rfl H23 ?_
      clear H23; intro a24 H24
      refine plain (y_ixR rfl Tryd.underlying22 z_size38 rfl rfl (by omega) (by omega) (rd_row (by repeat (first | exact Mh | apply Mt))) (by rw [Inbox.ec_len hma]; omega)) rfl rfl rfl H24 ?_
      clear H24; intro a25 H25
      refine plain (y_fieldS rfl z_field38_0 rfl (rd_row (by repeat (first | exact Mh | apply Mt))) (by rw [Inbox.ec_len hma]; omega)) rfl rfl rfl H25 ?_
      clear H25; intro a26 H26
      refine plain (y_loadR rfl z_agg3 rfl (rd_row (by repeat (first | exact Mh | apply Mt))) (by simp only [Int.toNat_natCast, Nat.zero_add]; exact Inbox.ec_at (c := 0) hma hkM (by omega))) rfl rfl rfl H26 ?_
      clear H26; intro a27 H27
      refine st_callg rfl z_call13 rfl rfl rfl rfl H27 (numR ((Inbox.messages (Y.map (·.b))).getD k Inbox.Entry.zero).who hfi.1 _) ?_
      clear H27; intro a28 wx28 H28
      refine plain (y_move rfl rfl) rfl rfl rfl H28 ?_
      clear H28; intro a29 H29
      refine plain (y_extract rfl rfl rfl) rfl rfl rfl H29 ?_
      clear H29; intro a30 H30
      refine plain (y_extract rfl rfl rfl) rfl rfl rfl H30 ?_
      clear H30; intro a31 H31
      refine plain (y_assign rfl rfl) rfl rfl rfl H31 ?_
      clear H31; intro a32 H32
      refine plain (y_assign rfl rfl) rfl rfl rfl H32 ?_
      clear H32; intro a33 H33
      refine fin ?_
      refine then_n ?_
      refine wp_seq ?_
      refine reg ?_
      refine plain (y_move rfl rfl) rfl rfl rfl H33 ?_
      clear H33; intro a34 H34
      refine plain (y_move rfl rfl) rfl rfl rfl H34 ?_
      clear H34; intro a35 H35
      refine plain (y_move rfl rfl) rfl rfl rfl H35 ?_
      clear H35; intro a36 H36
      refine plain (y_ixR rfl Tryd.underlying22 z_size38 rfl rfl (by omega) (by omega) (rd_row (by repeat (first | exact Mh | apply Mt))) (by rw [Inbox.ec_len hma]; omega)) rfl rfl rfl H36 ?_
      clear H36; intro a37 H37
      refine plain (y_fieldS rfl z_field38_1 rfl (rd_row (by repeat (first | exact Mh | apply Mt))) (by rw [Inbox.ec_len hma]; omega)) rfl rfl rfl H37 ?_
      clear H37; intro a38 H38
      refine plain (y_loadR rfl z_agg9 rfl (rd_row (by repeat (first | exact Mh | apply Mt))) (by simp only [Int.toNat_natCast, Nat.zero_add]; exact Inbox.ec_at (c := 1) hma hkM (by omega))) rfl rfl rfl H38 ?_
      clear H38; intro a39 H39
      refine st_buildSlice1 (xs := [.tmp 34, .tmp 39]) rfl Tryd.underlying40 z_size9 z_zero9 rfl rfl rfl rfl rfl rfl rfl rfl rfl H39 ?_
      clear H39; intro b40 a40 wx40 H40
      refine st_callg rfl z_call14 rfl rfl rfl rfl H40 (lstR [Note.num ((Inbox.messages (Y.map (·.b))).getD k Inbox.Entry.zero).who, ((Inbox.messages (Y.map (·.b))).getD k Inbox.Entry.zero).text] _ _ _ rfl (Rd.ofSep (rd_blkA (by repeat (first | exact Mh | apply Mt))) H40.sep) (by simp)) ?_
      clear H40; intro a41 wx41 H41
      refine plain (y_move rfl rfl) rfl rfl rfl H41 ?_
      clear H41; intro a42 H42
      refine plain (y_extract rfl rfl rfl) rfl rfl rfl H42 ?_
      clear H42; intro a43 H43
      refine plain (y_extract rfl rfl rfl) rfl rfl rfl H43 ?_
      clear H43; intro a44 H44
      refine plain (y_assign rfl rfl) rfl rfl rfl H44 ?_
      clear H44; intro a45 H45
      refine plain (y_assign rfl rfl) rfl rfl rfl H45 ?_
      clear H45; intro a46 H46
      refine fin ?_
      refine then_n ?_
      refine wp_seq ?_
      refine reg ?_
      refine plain (y_loadAB rfl z_agg33 z_size33 rfl (by repeat (first | exact Mh | apply Mt)) (q_ld_b32_0_32 (by first | assumption | exact Sha.sum_length _)) (q_len_b32 (by first | assumption | exact Sha.sum_length _))) rfl rfl rfl H46 ?_
      clear H46; intro a47 H47
      refine plain (y_move rfl rfl) rfl rfl rfl H47 ?_
      clear H47; intro a48 H48
      refine st_callg rfl z_call15 rfl rfl rfl rfl H48 (rchain (Inbox.lastAcc Note.Z ((Inbox.messages (Y.map (·.b))).take k)) hla _ (by have := Oct.list_len (l := [Note.num ((Inbox.messages (Y.map (·.b))).getD k Inbox.Entry.zero).who, ((Inbox.messages (Y.map (·.b))).getD k Inbox.Entry.zero).text]); omega)) ?_
      clear H48; intro a49 wx49 H49
      refine st_storeN rfl z_size33 rfl rfl (agg_cells _) (by repeat (first | exact Uh | apply Ut)) q_one_b32 (q_len_b32 (by first | assumption | exact Sha.sum_length _)) (q_len_b32 (by first | assumption | exact Sha.sum_length _)) (q_spl_b32_0_b32 (by first | assumption | exact Sha.sum_length _) (by first | assumption | exact Sha.sum_length _)) (by decide) rfl rfl H49 ?_
      clear H49; intro wx50 H50
      refine fin ?_
      refine then_n ?_
      refine wp_seq ?_
      refine qreg (by kernel_rfl) (by kernel_rfl) H50 ?_
      have F51 := H50.fr
      clear H50
      refine qplain (y_move rfl rfl) rfl rfl rfl F51 ?_
      clear F51; intro a52 H52
      refine qplain (y_move rfl rfl) rfl rfl rfl H52 ?_
      clear H52; intro a53 H53
      refine qplain (y_ixR rfl Tryd.underlying22 z_size38 rfl rfl (by omega) (by omega) (rd_row (by repeat (first | exact Mh | apply Mt))) (by rw [Inbox.ec_len hma]; omega)) rfl rfl rfl H53 ?_
      clear H53; intro a54 H54
      refine qplain (y_fieldS rfl z_field38_3 rfl (rd_row (by repeat (first | exact Mh | apply Mt))) (by rw [Inbox.ec_len hma]; omega)) rfl rfl rfl H54 ?_
      clear H54; intro a55 H55
      refine qplain (y_loadAS rfl z_agg33 z_size33 rfl (rd_row (by repeat (first | exact Mh | apply Mt))) (by simp only [Int.toNat_natCast, Nat.zero_add]; exact Inbox.acc_at hma hkM) (by rw [List.length_map]; exact hak) (by decide)) rfl rfl rfl H55 ?_
      clear H55; intro a56 H56
      refine qplain (y_loadAB rfl z_agg33 z_size33 rfl (by repeat (first | exact Mh | apply Mt)) (q_ld_b32_0_32 (by first | assumption | exact Sha.sum_length _)) (q_len_b32 (by first | assumption | exact Sha.sum_length _))) rfl rfl rfl H56 ?_
      clear H56; intro a57 H57
      refine qplain (y_hneq rfl Tryd.eqGuardType33 Tryd.underlying33 Tryd.underlying5 z_size5 rfl rfl hak (Sha.sum_length _)) rfl rfl rfl H57 ?_
      clear H57; intro a58 H58
      refine qfin H58 ?_
      clear H58; intro wx59 H59
      refine then_n ?_
      refine cnd H59 rfl (fun hc60 => ?_) (fun hc60 => ?_) -- cond 3
      · (try simp only [decide_eq_true_eq, decide_eq_false_iff_not, Bool.not_eq_true', Bool.not_eq_false', Bool.and_eq_true, Bool.not_eq_true, Bool.not_eq_false] at hc60); exact absurd hnx.symm hc60
      · skip
        try simp only [decide_eq_true_eq, decide_eq_false_iff_not, Bool.not_eq_true', Bool.not_eq_false', Bool.and_eq_true, Bool.not_eq_true, Bool.not_eq_false] at hc60
        refine wp_skip ?_
        refine inb_n ?_
        refine then_n ?_
        refine reg ?_
        refine plain (y_move rfl rfl) rfl rfl rfl H59 ?_
        clear H59; intro a61 H61
        refine plain (y_add rfl rfl rfl (by first | exact w64 (by omega) (by omega) | rfl)) rfl rfl rfl H61 ?_
        clear H61; intro a62 H62
        refine plain (y_assign rfl rfl) rfl rfl rfl H62 ?_
        clear H62; intro a63 H63
        refine fin ?_
        refine then_n ?_
        refine ⟨k + 1, by omega, by omega, (H63.drop (by first | exact S0 | exact S1 | repeat (first | exact S1 | exact S0 | apply S2 | apply S3))).weak ⟨rfl, rfl, rfl, fi rfl (by omega), trivial⟩ (ib ?_)⟩
        rw [Inbox.lastAcc_take (by omega), ← Inbox.next_is (by omega)]
        rfl
    · skip
      try simp only [decide_eq_true_eq, decide_eq_false_iff_not, Bool.not_eq_true', Bool.not_eq_false', Bool.and_eq_true, Bool.not_eq_true, Bool.not_eq_false] at hc22
      refine wp_exit ?_
      refine then_x ?_
      refine then_x ?_
      refine inb_hit ?_
      refine then_n ?_
      refine wp_seq ?_
      refine reg ?_
      refine st_callg rfl z_call8 rfl rfl rfl rfl H21 (iawake (hG.frm H21.sep.frm (by simp))) ?_
      clear H21; intro a64 wx64 H64
      refine plain (y_assign rfl rfl) rfl rfl rfl H64 ?_
      clear H64; intro a65 H65
      refine fin ?_
      refine then_n ?_
      refine wp_ret ?_
      -- return 1
      refine ret1 rfl H65 rfl ?_
      exact ⟨_, [], rfl, ⟨rfl, rfl⟩, H65.sep.sub (List.nil_sublist _)⟩

end Go.Proofs.YtbdkgmkaakoigaaDoor.I_L5

set_option linter.unusedVariables false
set_option linter.unusedSimpArgs false
namespace Go.Proofs.YtbdkgmkaakoigaaDoor.I_Rd
open Go.Sx Go.RowKit

theorem rd_Item {H : Type} {enc : TypeId × Value → H} {W : World} {sp : Nat → Bool} {held : Bool} {cs : List Value} (h : Trw enc Tryd.prog W sp held 51 cs) : ∃ (x : Note.Item), cs = Note.Item.cells x ∧ Note.Item.Wf x := by
  have hp := h.pieces Tryd.underlying51 [1, 1, 1, 1] (by kernel_rfl)
  obtain ⟨v0, e0, w0⟩ := (h.field Tryd.underlying51 0 rfl (o := 0) rfl (T := 3) rfl (k := 1) (by kernel_rfl)).i64 Tryd.underlying3
  obtain ⟨v1, e1, w1⟩ := (h.field Tryd.underlying51 1 rfl (o := 1) rfl (T := 3) rfl (k := 1) (by kernel_rfl)).i64 Tryd.underlying3
  obtain ⟨v2, e2, w2⟩ := (h.field Tryd.underlying51 2 rfl (o := 2) rfl (T := 3) rfl (k := 1) (by kernel_rfl)).i64 Tryd.underlying3
  obtain ⟨v3, e3, w3⟩ := (h.field Tryd.underlying51 3 rfl (o := 3) rfl (T := 9) rfl (k := 1) (by kernel_rfl)).str Tryd.underlying9
  refine ⟨⟨v0, v1, v2, v3⟩, ?_, w0, w1, w2, w3⟩
  rw [hp]
  simp only [Sx.pieces, Nat.zero_add, Nat.reduceAdd, e0, e1, e2, e3]
  first | rfl | simp [Note.Item.cells]
theorem rd_BA {H : Type} {enc : TypeId × Value → H} {W : World} {sp : Nat → Bool} {held : Bool} {m : DataW H → Nat} {B : Nat} {cs : List Value} (M : Meas m) (h : Trb enc Tryd.prog W sp held m B 49 cs) : ∃ (x : Inbox.BA), cs = Inbox.BA.cells x ∧ Inbox.BA.Wf W x ∧ x.b.items.length ≤ B := by
  have hp := h.trw.pieces Tryd.underlying49 [1, 1, 32, 1] (by kernel_rfl)
  obtain ⟨v0, e0, w0⟩ := (h.trw.field Tryd.underlying49 0 rfl (o := 0) rfl (T := 3) rfl (k := 1) (by kernel_rfl)).i64 Tryd.underlying3
  obtain ⟨v1, e1, w1⟩ := (h.trw.field Tryd.underlying49 1 rfl (o := 1) rfl (T := 3) rfl (k := 1) (by kernel_rfl)).i64 Tryd.underlying3
  obtain ⟨v2, e2, w2⟩ := (h.trw.field Tryd.underlying49 2 rfl (o := 2) rfl (T := 33) rfl (k := 32) (by kernel_rfl)).bytes Tryd.underlying33 Tryd.underlying5 (by kernel_rfl) (by kernel_rfl)
  obtain ⟨A3, m3, c3, e3, hmc3, hm3, rows3, hr3, hR3, hrow3⟩ := Trb.sliceC M (Trb.field M h Tryd.underlying49 3 rfl (o := 34) rfl (T := 47) rfl (k := 1) (by kernel_rfl)) Tryd.underlying47 (by rw [show Tryd.prog.cellsOf 51 = 4 by kernel_rfl]; decide)
  obtain ⟨v3, rfl, w3⟩ := rows_map (f := Note.Item.cells) (rows := rows3) (fun r hr => rd_Item (hrow3 r hr).2.trw)
  simp only [List.length_map] at hr3
  subst hr3
  obtain ⟨_, _, _, e4, _, hm4, _⟩ := Trw.sliceC (h.trw.field Tryd.underlying49 3 rfl (o := 34) rfl (T := 47) rfl (k := 1) (by kernel_rfl)) Tryd.underlying47 (by rw [show Tryd.prog.cellsOf 51 = 4 by kernel_rfl]; decide)
  rw [e3] at e4
  have e5 := (List.cons.inj e4).1
  injection e5 with e6 e7 e8
  rw [← e7] at hm4
  refine ⟨⟨⟨v0, v1, v2, v3⟩, A3, c3⟩, ?_, ⟨w0, w1, w2, hm4, w3, hR3⟩, hm3⟩
  rw [hp]
  simp only [Sx.pieces, Nat.zero_add, Nat.reduceAdd, e0, e1, e2, e3]
  first | rfl | simp [Inbox.BA.cells]

end Go.Proofs.YtbdkgmkaakoigaaDoor.I_Rd
