/- Part of a proof about given Go functions: contracts of functions, or plain laws. -/
import Derived.Test.YtlhddgkbbdfacaaDoorS8
import Derived.Test.YtlhddgkbbdfacaaDoorS7
import Derived.Test.YtlhddgkbbdfacaaDoorProg
import Derived.Test.YtlhddgkbbdfacaaDoorW1
import Derived.Test.YtlhddgkbbdfacaaDoorS3
import Derived.Test.YtlhddgkbbdfacaaDoorS4
import Derived.Test.YtlhddgkbbdfacaaDoorS1
import Derived.Test.YtlhddgkbbdfacaaDoorS2
import Derived.Test.YtlhddgkbbdfacaaDoorS9
set_option linter.unusedVariables false
set_option linter.unusedSimpArgs false
namespace Go.Proofs.YtlhddgkbbdfacaaDoor.C_RefI
open Go.Sx Go.RowKit Go.Proofs.YtlhddgkbbdfacaaDoor.C_Num

theorem z_call37 : callB Tryd.prog 37 = true := by kernel_rfl
theorem z_call34 : callB Tryd.prog 34 = true := by kernel_rfl
theorem z_field69_1 : fieldB Tryd.prog 69 1 = some 1 := by kernel_rfl
theorem z_agg3 : aggB Tryd.prog 3 = some false := by kernel_rfl
theorem q_ix_c4_1 {a0 a1 a2 a3 : Value} : (a0 :: a1 :: a2 :: a3 :: [])[1]? = some a1 := (ix_c (o := 0) ix_0)
theorem z_call62 : callB Tryd.prog 62 = true := by kernel_rfl
theorem z_field69_2 : fieldB Tryd.prog 69 2 = some 2 := by kernel_rfl
theorem q_ix_c4_2 {a0 a1 a2 a3 : Value} : (a0 :: a1 :: a2 :: a3 :: [])[2]? = some a2 := (ix_c (o := 1) (ix_c (o := 0) ix_0))
theorem z_field69_3 : fieldB Tryd.prog 69 3 = some 3 := by kernel_rfl
theorem z_agg9 : aggB Tryd.prog 9 = some false := by kernel_rfl
theorem q_ix_c4_3 {a0 a1 a2 a3 : Value} : (a0 :: a1 :: a2 :: a3 :: [])[3]? = some a3 := (ix_c (o := 2) (ix_c (o := 1) (ix_c (o := 0) ix_0)))
theorem z_field69_0 : fieldB Tryd.prog 69 0 = some 0 := by kernel_rfl
theorem q_ix_c4_0 {a0 a1 a2 a3 : Value} : (a0 :: a1 :: a2 :: a3 :: [])[0]? = some a0 := ix_0
theorem z_agg69 : aggB Tryd.prog 69 = some true := by kernel_rfl
theorem z_size69 : sizeB Tryd.prog 69 = some 4 := by kernel_rfl
theorem q_ld_c4_0_4 {a0 a1 a2 a3 : Value} : ((a0 :: a1 :: a2 :: a3 :: []).drop 0).take 4 = a0 :: a1 :: a2 :: a3 :: [] := (ld_a (len_c (n := 3) (len_c (n := 2) (len_c (n := 1) (len_c (n := 0) len_n)))))
theorem q_len_c4 {a0 a1 a2 a3 : Value} : (a0 :: a1 :: a2 :: a3 :: []).length = 4 := (len_c (n := 3) (len_c (n := 2) (len_c (n := 1) (len_c (n := 0) len_n))))
theorem z_call51 : callB Tryd.prog 51 = true := by kernel_rfl
theorem z_call53 : callB Tryd.prog 53 = true := by kernel_rfl
theorem z_size9 : sizeB Tryd.prog 9 = some 1 := by kernel_rfl
theorem z_zero9 : zeroL Tryd.prog 9 = some ([.string ⟨#[]⟩]) := by kernel_rfl
theorem z_call52 : callB Tryd.prog 52 = true := by kernel_rfl

set_option maxRecDepth 100000 in
set_option maxHeartbeats 1000000 in
theorem rwithin (n k : Int) (w : World) : Calls Tryd.prog 62 #[.int .i64 n, .int .i64 k] w (Gives (.bool (decide (0 ≤ n ∧ n ≤ k))) [] w) := by
 have lz32 : (List.replicate 32 (0 : UInt8)).length = 32 := List.length_replicate
 refine enterL (args := [.int .i64 n, .int .i64 k]) Tryd.func62 rfl rfl (l := []) (Sep.refl _) ?_
 intro a0 H0
 refine wp_seq ?_
 refine reg ?_
 refine plain (y_assign rfl rfl) rfl rfl rfl H0 ?_
 clear H0; intro a1 H1
 refine fin ?_
 refine then_n ?_
 refine wp_seq ?_
 refine reg ?_
 refine plain (y_move rfl rfl) rfl rfl rfl H1 ?_
 clear H1; intro a2 H2
 refine plain (y_geq rfl rfl rfl) rfl rfl rfl H2 ?_
 clear H2; intro a3 H3
 refine plain (y_move rfl rfl) rfl rfl rfl H3 ?_
 clear H3; intro a4 H4
 refine Sx.part (d := 7) H4 rfl (fun hg5 => ?_) (fun hg5 => ?_)
 ·first
  |fail
  |skip
   clear H4; intro H6
   try simp only [decide_eq_true_eq, decide_eq_false_iff_not, Bool.not_eq_true', Bool.not_eq_false', Bool.and_eq_true, Bool.not_eq_true, Bool.not_eq_false] at hg5
   refine plain (y_move rfl rfl) rfl rfl rfl H6 ?_
   clear H6; intro a7 H7
   refine plain (y_move rfl rfl) rfl rfl rfl H7 ?_
   clear H7; intro a8 H8
   refine plain (y_leq rfl rfl rfl) rfl rfl rfl H8 ?_
   clear H8; intro a9 H9
   refine plain (y_pick_t rfl rfl rfl) rfl rfl rfl H9 ?_
   clear H9; intro a10 H10
   refine plain (y_assign rfl rfl) rfl rfl rfl H10 ?_
   clear H10; intro a11 H11
   refine fin ?_
   refine then_n ?_
   refine wp_ret ?_
   -- return 1
   refine ret1 rfl H11 rfl ?_
   refine ⟨_, [], rfl, ⟨?_, rfl⟩, H11.sep.sub (List.nil_sublist _)⟩
   clear H11
   first | exact congrArg Value.bool (decide_eq_decide.2 (by omega)) | exact congrArg Value.bool (decide_eq_false (by omega)).symm
 ·first
  |fail
  |skip
   clear H4; intro H12
   try simp only [decide_eq_true_eq, decide_eq_false_iff_not, Bool.not_eq_true', Bool.not_eq_false', Bool.and_eq_true, Bool.not_eq_true, Bool.not_eq_false] at hg5
   refine skip rfl rfl rfl H12 ?_
   clear H12; intro a13 H13
   refine skip rfl rfl rfl H13 ?_
   clear H13; intro a14 H14
   refine skip rfl rfl rfl H14 ?_
   clear H14; intro a15 H15
   refine plain (y_pick_f rfl rfl rfl) rfl rfl rfl H15 ?_
   clear H15; intro a16 H16
   refine plain (y_assign rfl rfl) rfl rfl rfl H16 ?_
   clear H16; intro a17 H17
   refine fin ?_
   refine then_n ?_
   refine wp_ret ?_
   -- return 2
   refine ret1 rfl H17 rfl ?_
   refine ⟨_, [], rfl, ⟨?_, rfl⟩, H17.sep.sub (List.nil_sublist _)⟩
   clear H17
   first | exact congrArg Value.bool (decide_eq_decide.2 (by omega)) | exact congrArg Value.bool (decide_eq_false (by omega)).symm
set_option maxRecDepth 100000 in
set_option maxHeartbeats 1000000 in
theorem rlist (l : List (List UInt8)) (A : Option Addr) (m c : Nat) (hm : m = l.length) {w : World} (hR : Rd w A (l.map str)) (hl : l.length ≤ 9223372036854775807) : Calls Tryd.prog 52 #[.slice A m c] w (Gives (.tuple #[str (Oct.list l).1, .int .i64 (Oct.list l).2]) [] w) := by
 subst hm
 have lz32 : (List.replicate 32 (0 : UInt8)).length = 32 := List.length_replicate
 refine enterL (args := [.slice A l.length c]) Tryd.func52 rfl rfl (l := []) (Sep.refl _) ?_
 intro a0 H0
 refine wp_seq ?_
 refine reg ?_
 refine plain (y_assign rfl rfl) rfl rfl rfl H0 ?_
 clear H0; intro a1 H1
 refine plain (y_assign rfl rfl) rfl rfl rfl H1 ?_
 clear H1; intro a2 H2
 refine fin ?_
 refine then_n ?_
 refine wp_seq ?_
 refine reg ?_
 refine plain (y_move rfl rfl) rfl rfl rfl H2 ?_
 clear H2; intro a3 H3
 refine st_callg rfl z_call37 rfl rfl rfl rfl H3 (lstR l A _ c rfl (Rd.frm hR H3.sep.frm (by simp)) hl) ?_
 clear H3; intro a4 wx4 H4
 refine plain (y_extract rfl rfl rfl) rfl rfl rfl H4 ?_
 clear H4; intro a5 H5
 refine plain (y_extract rfl rfl rfl) rfl rfl rfl H5 ?_
 clear H5; intro a6 H6
 refine plain (y_assign rfl rfl) rfl rfl rfl H6 ?_
 clear H6; intro a7 H7
 refine plain (y_assign rfl rfl) rfl rfl rfl H7 ?_
 clear H7; intro a8 H8
 refine fin ?_
 refine then_n ?_
 refine wp_ret ?_
 -- return 1
 refine ret2 rfl H8 rfl rfl ?_
 exact ⟨_, [], rfl, ⟨rfl, rfl⟩, H8.sep.sub (List.nil_sublist _)⟩
set_option maxRecDepth 100000 in
set_option maxHeartbeats 1000000 in
theorem rtext (n : Int) (hn : n ≤ 9223372036854775807) (w : World) : Calls Tryd.prog 53 #[.int .i64 n] w (Gives (str (Note.num n)) [] w) := by
 have lz32 : (List.replicate 32 (0 : UInt8)).length = 32 := List.length_replicate
 refine enterL (args := [.int .i64 n]) Tryd.func53 rfl rfl (l := []) (Sep.refl _) ?_
 intro a0 H0
 refine wp_seq ?_
 refine reg ?_
 refine plain (y_assign rfl rfl) rfl rfl rfl H0 ?_
 clear H0; intro a1 H1
 refine fin ?_
 refine then_n ?_
 refine wp_seq ?_
 refine reg ?_
 refine plain (y_move rfl rfl) rfl rfl rfl H1 ?_
 clear H1; intro a2 H2
 refine st_callg rfl z_call34 rfl rfl rfl rfl H2 (numR n hn _) ?_
 clear H2; intro a3 wx3 H3
 refine plain (y_move rfl rfl) rfl rfl rfl H3 ?_
 clear H3; intro a4 H4
 refine plain (y_extract rfl rfl rfl) rfl rfl rfl H4 ?_
 clear H4; intro a5 H5
 refine plain (y_extract rfl rfl rfl) rfl rfl rfl H5 ?_
 clear H5; intro a6 H6
 refine plain (y_assign rfl rfl) rfl rfl rfl H6 ?_
 clear H6; intro a7 H7
 refine plain (y_assign rfl rfl) rfl rfl rfl H7 ?_
 clear H7; intro a8 H8
 refine fin ?_
 refine then_n ?_
 refine wp_seq ?_
 refine reg ?_
 refine plain (y_move rfl rfl) rfl rfl rfl H8 ?_
 clear H8; intro a9 H9
 refine plain (y_assign rfl rfl) rfl rfl rfl H9 ?_
 clear H9; intro a10 H10
 refine fin ?_
 refine then_n ?_
 refine wp_ret ?_
 -- return 1
 refine ret1 rfl H10 rfl ?_
 exact ⟨_, [], rfl, ⟨rfl, rfl⟩, H10.sep.sub (List.nil_sublist _)⟩
set_option maxRecDepth 100000 in
set_option maxHeartbeats 1000000 in
theorem ritem (i : Note.Item) (wf : Note.Item.Wf i) (w : World) : Calls Tryd.prog 51 #[.agg (Note.Item.cells i).toArray] w (Gives (.bool i.ok) [] w) := by
 have lz32 : (List.replicate 32 (0 : UInt8)).length = 32 := List.length_replicate
 refine enterL (args := [.agg (Note.Item.cells i).toArray]) Tryd.func51 rfl rfl (l := []) (Sep.refl _) ?_
 intro a0 H0
 refine wp_seq ?_
 refine reg ?_
 refine st_box rfl rfl (agg_cells _) rfl rfl rfl H0 ?_
 clear H0; intro b1 a1 wx1 H1
 refine plain (y_assign rfl rfl) rfl rfl rfl H1 ?_
 clear H1; intro a2 H2
 refine fin ?_
 refine then_n ?_
 refine wp_seq ?_
 refine wp_seq ?_
 refine reg ?_
 refine plain (y_fieldB rfl z_field69_1 rfl (by first | (simp only [Nat.zero_add, Nat.add_zero, Nat.reduceAdd]; rfl) | rfl)) rfl rfl rfl H2 ?_
 clear H2; intro a3 H3
 refine plain (y_loadB rfl z_agg3 rfl MM q_ix_c4_1) rfl rfl rfl H3 ?_
 clear H3; intro a4 H4
 refine st_callg rfl z_call62 rfl rfl rfl rfl H4 (rwithin _ _ _) ?_
 clear H4; intro a5 wx5 H5
 refine plain ((by first | exact y_not_d rfl rfl | exact y_not rfl rfl)) rfl rfl rfl H5 ?_
 clear H5; intro a6 H6
 refine plain (y_move rfl rfl) rfl rfl rfl H6 ?_
 clear H6; intro a7 H7
 refine Sx.part (d := 7) H7 rfl (fun hg8 => ?_) (fun hg8 => ?_)
 ·first
  |fail
  |skip
   clear H7; intro H9
   try simp only [decide_eq_true_eq, decide_eq_false_iff_not, Bool.not_eq_true', Bool.not_eq_false', Bool.and_eq_true, Bool.not_eq_true, Bool.not_eq_false] at hg8
   refine skip rfl rfl rfl H9 ?_
   clear H9; intro a10 H10
   refine skip rfl rfl rfl H10 ?_
   clear H10; intro a11 H11
   refine skip rfl rfl rfl H11 ?_
   clear H11; intro a12 H12
   refine skip rfl rfl rfl H12 ?_
   clear H12; intro a13 H13
   refine plain (y_pick_t rfl rfl rfl) rfl rfl rfl H13 ?_
   clear H13; intro a14 H14
   refine plain (y_move rfl rfl) rfl rfl rfl H14 ?_
   clear H14; intro a15 H15
   refine skip rfl rfl rfl H15 ?_
   clear H15; intro a16 H16
   refine skip rfl rfl rfl H16 ?_
   clear H16; intro a17 H17
   refine skip rfl rfl rfl H17 ?_
   clear H17; intro a18 H18
   refine skip rfl rfl rfl H18 ?_
   clear H18; intro a19 H19
   refine plain (y_pick_t rfl rfl rfl) rfl rfl rfl H19 ?_
   clear H19; intro a20 H20
   refine fin ?_
   refine then_n ?_
   refine cnd_t H20 rfl ?_
   refine wp_seq ?_
   refine reg ?_
   refine plain (y_assign rfl rfl) rfl rfl rfl H20 ?_
   clear H20; intro a22 H22
   refine fin ?_
   refine then_n ?_
   refine wp_ret ?_
   refine then_r ?_
   -- return 1
   refine ret1 rfl H22 rfl ?_
   try simp only [Note.text0] at *
   refine ⟨_, [], rfl, ⟨?_, rfl⟩, H22.sep.sub (List.nil_sublist _)⟩
   clear H22
   rw [Note.Item.ok_is]
   first | exact congrArg Value.bool (decide_eq_decide.2 (by omega)) | exact congrArg Value.bool (decide_eq_false (by omega)).symm | exact congrArg Value.bool (decide_eq_true (by omega)).symm
 ·first
  |fail
  |skip
   clear H7; intro H23
   try simp only [decide_eq_true_eq, decide_eq_false_iff_not, Bool.not_eq_true', Bool.not_eq_false', Bool.and_eq_true, Bool.not_eq_true, Bool.not_eq_false] at hg8
   refine plain (y_fieldB rfl z_field69_2 rfl (by first | (simp only [Nat.zero_add, Nat.add_zero, Nat.reduceAdd]; rfl) | rfl)) rfl rfl rfl H23 ?_
   clear H23; intro a24 H24
   refine plain (y_loadB rfl z_agg3 rfl MM q_ix_c4_2) rfl rfl rfl H24 ?_
   clear H24; intro a25 H25
   refine st_callg rfl z_call62 rfl rfl rfl rfl H25 (rwithin _ _ _) ?_
   clear H25; intro a26 wx26 H26
   refine plain ((by first | exact y_not_d rfl rfl | exact y_not rfl rfl)) rfl rfl rfl H26 ?_
   clear H26; intro a27 H27
   refine plain (y_pick_f rfl rfl rfl) rfl rfl rfl H27 ?_
   clear H27; intro a28 H28
   refine plain (y_move rfl rfl) rfl rfl rfl H28 ?_
   clear H28; intro a29 H29
   refine Sx.part (d := 13) H29 rfl (fun hg30 => ?_) (fun hg30 => ?_)
   ·first
    |fail
    |skip
     clear H29; intro H31
     try simp only [decide_eq_true_eq, decide_eq_false_iff_not, Bool.not_eq_true', Bool.not_eq_false', Bool.and_eq_true, Bool.not_eq_true, Bool.not_eq_false] at hg30
     refine skip rfl rfl rfl H31 ?_
     clear H31; intro a32 H32
     refine skip rfl rfl rfl H32 ?_
     clear H32; intro a33 H33
     refine skip rfl rfl rfl H33 ?_
     clear H33; intro a34 H34
     refine skip rfl rfl rfl H34 ?_
     clear H34; intro a35 H35
     refine plain (y_pick_t rfl rfl rfl) rfl rfl rfl H35 ?_
     clear H35; intro a36 H36
     refine fin ?_
     refine then_n ?_
     refine cnd_t H36 rfl ?_
     refine wp_seq ?_
     refine reg ?_
     refine plain (y_assign rfl rfl) rfl rfl rfl H36 ?_
     clear H36; intro a38 H38
     refine fin ?_
     refine then_n ?_
     refine wp_ret ?_
     refine then_r ?_
     -- return 2
     refine ret1 rfl H38 rfl ?_
     try simp only [Note.text0] at *
     refine ⟨_, [], rfl, ⟨?_, rfl⟩, H38.sep.sub (List.nil_sublist _)⟩
     clear H38
     rw [Note.Item.ok_is]
     first | exact congrArg Value.bool (decide_eq_decide.2 (by omega)) | exact congrArg Value.bool (decide_eq_false (by omega)).symm | exact congrArg Value.bool (decide_eq_true (by omega)).symm
   ·first
    |fail
    |skip
     clear H29; intro H39
     try simp only [decide_eq_true_eq, decide_eq_false_iff_not, Bool.not_eq_true', Bool.not_eq_false', Bool.and_eq_true, Bool.not_eq_true, Bool.not_eq_false] at hg30
     refine plain (y_fieldB rfl z_field69_3 rfl (by first | (simp only [Nat.zero_add, Nat.add_zero, Nat.reduceAdd]; rfl) | rfl)) rfl rfl rfl H39 ?_
     clear H39; intro a40 H40
     refine plain (y_loadB rfl z_agg9 rfl MM q_ix_c4_3) rfl rfl rfl H40 ?_
     clear H40; intro a41 H41
     refine plain (y_slen rfl Tryd.underlying9 rfl) rfl rfl rfl H41 ?_
     clear H41; intro a42 H42
     refine plain (y_gtr rfl rfl rfl) rfl rfl rfl H42 ?_
     clear H42; intro a43 H43
     refine plain (y_pick_f rfl rfl rfl) rfl rfl rfl H43 ?_
     clear H43; intro a44 H44
     refine fin ?_
     refine then_n ?_
     refine cnd H44 rfl (fun hc45 => ?_) (fun hc45 => ?_) -- cond 3
     ·skip
      try simp only [decide_eq_true_eq, decide_eq_false_iff_not, Bool.not_eq_true', Bool.not_eq_false', Bool.and_eq_true, Bool.not_eq_true, Bool.not_eq_false] at hc45
      refine wp_seq ?_
      refine reg ?_
      refine plain (y_assign rfl rfl) rfl rfl rfl H44 ?_
      clear H44; intro a46 H46
      refine fin ?_
      refine then_n ?_
      refine wp_ret ?_
      refine then_r ?_
      -- return 3
      refine ret1 rfl H46 rfl ?_
      try simp only [Note.text0] at *
      refine ⟨_, [], rfl, ⟨?_, rfl⟩, H46.sep.sub (List.nil_sublist _)⟩
      clear H46
      rw [Note.Item.ok_is]
      first | exact congrArg Value.bool (decide_eq_decide.2 (by omega)) | exact congrArg Value.bool (decide_eq_false (by omega)).symm | exact congrArg Value.bool (decide_eq_true (by omega)).symm
     ·skip
      try simp only [decide_eq_true_eq, decide_eq_false_iff_not, Bool.not_eq_true', Bool.not_eq_false', Bool.and_eq_true, Bool.not_eq_true, Bool.not_eq_false] at hc45
      refine wp_skip ?_
      refine then_n ?_
      refine wp_seq ?_
      refine wp_seq ?_
      refine reg ?_
      refine plain (y_fieldB rfl z_field69_0 rfl (by first | (simp only [Nat.zero_add, Nat.add_zero, Nat.reduceAdd]; rfl) | rfl)) rfl rfl rfl H44 ?_
      clear H44; intro a47 H47
      refine plain (y_loadB rfl z_agg3 rfl MM q_ix_c4_0) rfl rfl rfl H47 ?_
      clear H47; intro a48 H48
      refine plain (y_eql rfl rfl rfl) rfl rfl rfl H48 ?_
      clear H48; intro a49 H49
      refine fin ?_
      refine then_n ?_
      refine cnd H49 rfl (fun hc50 => ?_) (fun hc50 => ?_) -- cond 4
      ·skip
       try simp only [decide_eq_true_eq, decide_eq_false_iff_not, Bool.not_eq_true', Bool.not_eq_false', Bool.and_eq_true, Bool.not_eq_true, Bool.not_eq_false] at hc50
       refine wp_seq ?_
       refine reg ?_
       refine plain (y_fieldB rfl z_field69_1 rfl (by first | (simp only [Nat.zero_add, Nat.add_zero, Nat.reduceAdd]; rfl) | rfl)) rfl rfl rfl H49 ?_
       clear H49; intro a51 H51
       refine plain (y_loadB rfl z_agg3 rfl MM q_ix_c4_1) rfl rfl rfl H51 ?_
       clear H51; intro a52 H52
       refine plain (y_eql rfl rfl rfl) rfl rfl rfl H52 ?_
       clear H52; intro a53 H53
       refine plain (y_move rfl rfl) rfl rfl rfl H53 ?_
       clear H53; intro a54 H54
       refine Sx.part (d := 25) H54 rfl (fun hg55 => ?_) (fun hg55 => ?_)
       ·first
        |fail
        |skip
         clear H54; intro H56
         try simp only [decide_eq_true_eq, decide_eq_false_iff_not, Bool.not_eq_true', Bool.not_eq_false', Bool.and_eq_true, Bool.not_eq_true, Bool.not_eq_false] at hg55
         refine plain (y_fieldB rfl z_field69_3 rfl (by first | (simp only [Nat.zero_add, Nat.add_zero, Nat.reduceAdd]; rfl) | rfl)) rfl rfl rfl H56 ?_
         clear H56; intro a57 H57
         refine plain (y_loadB rfl z_agg9 rfl MM q_ix_c4_3) rfl rfl rfl H57 ?_
         clear H57; intro a58 H58
         refine plain (y_seql rfl rfl rfl) rfl rfl rfl H58 ?_
         clear H58; intro a59 H59
         refine plain (y_pick_t rfl rfl rfl) rfl rfl rfl H59 ?_
         clear H59; intro a60 H60
         refine plain (y_assign rfl rfl) rfl rfl rfl H60 ?_
         clear H60; intro a61 H61
         refine fin ?_
         refine then_n ?_
         refine wp_ret ?_
         refine then_r ?_
         -- return 4
         refine ret1 rfl H61 rfl ?_
         try simp only [Note.text0] at *
         refine ⟨_, [], rfl, ⟨?_, rfl⟩, H61.sep.sub (List.nil_sublist _)⟩
         clear H61
         rw [Note.Item.ok_is]
         first | exact congrArg Value.bool (decide_eq_decide.2 (by omega)) | exact congrArg Value.bool (decide_eq_false (by omega)).symm | exact congrArg Value.bool (decide_eq_true (by omega)).symm
       ·first
        |fail
        |skip
         clear H54; intro H62
         try simp only [decide_eq_true_eq, decide_eq_false_iff_not, Bool.not_eq_true', Bool.not_eq_false', Bool.and_eq_true, Bool.not_eq_true, Bool.not_eq_false] at hg55
         refine skip rfl rfl rfl H62 ?_
         clear H62; intro a63 H63
         refine skip rfl rfl rfl H63 ?_
         clear H63; intro a64 H64
         refine skip rfl rfl rfl H64 ?_
         clear H64; intro a65 H65
         refine plain (y_pick_f rfl rfl rfl) rfl rfl rfl H65 ?_
         clear H65; intro a66 H66
         refine plain (y_assign rfl rfl) rfl rfl rfl H66 ?_
         clear H66; intro a67 H67
         refine fin ?_
         refine then_n ?_
         refine wp_ret ?_
         refine then_r ?_
         -- return 5
         refine ret1 rfl H67 rfl ?_
         try simp only [Note.text0] at *
         refine ⟨_, [], rfl, ⟨?_, rfl⟩, H67.sep.sub (List.nil_sublist _)⟩
         clear H67
         rw [Note.Item.ok_is]
         first | exact congrArg Value.bool (decide_eq_decide.2 (by omega)) | exact congrArg Value.bool (decide_eq_false (by omega)).symm | exact congrArg Value.bool (decide_eq_true (by omega)).symm
      ·skip
       try simp only [decide_eq_true_eq, decide_eq_false_iff_not, Bool.not_eq_true', Bool.not_eq_false', Bool.and_eq_true, Bool.not_eq_true, Bool.not_eq_false] at hc50
       refine wp_skip ?_
       refine then_n ?_
       refine wp_seq ?_
       refine reg ?_
       refine plain (y_fieldB rfl z_field69_0 rfl (by first | (simp only [Nat.zero_add, Nat.add_zero, Nat.reduceAdd]; rfl) | rfl)) rfl rfl rfl H49 ?_
       clear H49; intro a68 H68
       refine plain (y_loadB rfl z_agg3 rfl MM q_ix_c4_0) rfl rfl rfl H68 ?_
       clear H68; intro a69 H69
       refine plain (y_eql rfl rfl rfl) rfl rfl rfl H69 ?_
       clear H69; intro a70 H70
       refine plain (y_move rfl rfl) rfl rfl rfl H70 ?_
       clear H70; intro a71 H71
       refine Sx.part (d := 33) H71 rfl (fun hg72 => ?_) (fun hg72 => ?_)
       ·first
        |fail
        |skip
         clear H71; intro H73
         try simp only [decide_eq_true_eq, decide_eq_false_iff_not, Bool.not_eq_true', Bool.not_eq_false', Bool.and_eq_true, Bool.not_eq_true, Bool.not_eq_false] at hg72
         refine skip rfl rfl rfl H73 ?_
         clear H73; intro a74 H74
         refine skip rfl rfl rfl H74 ?_
         clear H74; intro a75 H75
         refine skip rfl rfl rfl H75 ?_
         clear H75; intro a76 H76
         refine plain (y_pick_t rfl rfl rfl) rfl rfl rfl H76 ?_
         clear H76; intro a77 H77
         refine plain (y_move rfl rfl) rfl rfl rfl H77 ?_
         clear H77; intro a78 H78
         refine plain (y_fieldB rfl z_field69_2 rfl (by first | (simp only [Nat.zero_add, Nat.add_zero, Nat.reduceAdd]; rfl) | rfl)) rfl rfl rfl H78 ?_
         clear H78; intro a79 H79
         refine plain (y_loadB rfl z_agg3 rfl MM q_ix_c4_2) rfl rfl rfl H79 ?_
         clear H79; intro a80 H80
         refine plain (y_eql rfl rfl rfl) rfl rfl rfl H80 ?_
         clear H80; intro a81 H81
         refine plain (y_pick_t rfl rfl rfl) rfl rfl rfl H81 ?_
         clear H81; intro a82 H82
         refine plain (y_assign rfl rfl) rfl rfl rfl H82 ?_
         clear H82; intro a83 H83
         refine fin ?_
         refine then_n ?_
         refine wp_ret ?_
         -- return 6
         refine ret1 rfl H83 rfl ?_
         try simp only [Note.text0] at *
         refine ⟨_, [], rfl, ⟨?_, rfl⟩, H83.sep.sub (List.nil_sublist _)⟩
         clear H83
         rw [Note.Item.ok_is]
         first | exact congrArg Value.bool (decide_eq_decide.2 (by omega)) | exact congrArg Value.bool (decide_eq_false (by omega)).symm | exact congrArg Value.bool (decide_eq_true (by omega)).symm
       ·first
        |fail
        |skip
         clear H71; intro H84
         try simp only [decide_eq_true_eq, decide_eq_false_iff_not, Bool.not_eq_true', Bool.not_eq_false', Bool.and_eq_true, Bool.not_eq_true, Bool.not_eq_false] at hg72
         refine plain (y_fieldB rfl z_field69_0 rfl (by first | (simp only [Nat.zero_add, Nat.add_zero, Nat.reduceAdd]; rfl) | rfl)) rfl rfl rfl H84 ?_
         clear H84; intro a85 H85
         refine plain (y_loadB rfl z_agg3 rfl MM q_ix_c4_0) rfl rfl rfl H85 ?_
         clear H85; intro a86 H86
         refine plain (y_eql rfl rfl rfl) rfl rfl rfl H86 ?_
         clear H86; intro a87 H87
         refine plain (y_pick_f rfl rfl rfl) rfl rfl rfl H87 ?_
         clear H87; intro a88 H88
         refine plain (y_move rfl rfl) rfl rfl rfl H88 ?_
         clear H88; intro a89 H89
         refine Sx.part (d := 38) H89 rfl (fun hg90 => ?_) (fun hg90 => ?_)
         ·first
          |fail
          |skip
           clear H89; intro H91
           try simp only [decide_eq_true_eq, decide_eq_false_iff_not, Bool.not_eq_true', Bool.not_eq_false', Bool.and_eq_true, Bool.not_eq_true, Bool.not_eq_false] at hg90
           refine plain (y_fieldB rfl z_field69_2 rfl (by first | (simp only [Nat.zero_add, Nat.add_zero, Nat.reduceAdd]; rfl) | rfl)) rfl rfl rfl H91 ?_
           clear H91; intro a92 H92
           refine plain (y_loadB rfl z_agg3 rfl MM q_ix_c4_2) rfl rfl rfl H92 ?_
           clear H92; intro a93 H93
           refine plain (y_eql rfl rfl rfl) rfl rfl rfl H93 ?_
           clear H93; intro a94 H94
           refine plain (y_pick_t rfl rfl rfl) rfl rfl rfl H94 ?_
           clear H94; intro a95 H95
           refine plain (y_assign rfl rfl) rfl rfl rfl H95 ?_
           clear H95; intro a96 H96
           refine fin ?_
           refine then_n ?_
           refine wp_ret ?_
           -- return 7
           refine ret1 rfl H96 rfl ?_
           try simp only [Note.text0] at *
           refine ⟨_, [], rfl, ⟨?_, rfl⟩, H96.sep.sub (List.nil_sublist _)⟩
           clear H96
           rw [Note.Item.ok_is]
           first | exact congrArg Value.bool (decide_eq_decide.2 (by omega)) | exact congrArg Value.bool (decide_eq_false (by omega)).symm | exact congrArg Value.bool (decide_eq_true (by omega)).symm
         ·first
          |fail
          |skip
           clear H89; intro H97
           try simp only [decide_eq_true_eq, decide_eq_false_iff_not, Bool.not_eq_true', Bool.not_eq_false', Bool.and_eq_true, Bool.not_eq_true, Bool.not_eq_false] at hg90
           refine skip rfl rfl rfl H97 ?_
           clear H97; intro a98 H98
           refine skip rfl rfl rfl H98 ?_
           clear H98; intro a99 H99
           refine skip rfl rfl rfl H99 ?_
           clear H99; intro a100 H100
           refine plain (y_pick_f rfl rfl rfl) rfl rfl rfl H100 ?_
           clear H100; intro a101 H101
           refine plain (y_assign rfl rfl) rfl rfl rfl H101 ?_
           clear H101; intro a102 H102
           refine fin ?_
           refine then_n ?_
           refine wp_ret ?_
           -- return 8
           refine ret1 rfl H102 rfl ?_
           try simp only [Note.text0] at *
           refine ⟨_, [], rfl, ⟨?_, rfl⟩, H102.sep.sub (List.nil_sublist _)⟩
           clear H102
           rw [Note.Item.ok_is]
           first | exact congrArg Value.bool (decide_eq_decide.2 (by omega)) | exact congrArg Value.bool (decide_eq_false (by omega)).symm | exact congrArg Value.bool (decide_eq_true (by omega)).symm
set_option maxRecDepth 100000 in
set_option maxHeartbeats 1000000 in
theorem rwitem (i : Note.Item) (wf : Note.Item.Wf i) (w : World) : Calls Tryd.prog 36 #[.agg (Note.Item.cells i).toArray] w (Gives (.tuple #[str (Note.writeItem i).1, .int .i64 (Note.writeItem i).2]) [] w) := by
 have lz32 : (List.replicate 32 (0 : UInt8)).length = 32 := List.length_replicate
 refine enterL (args := [.agg (Note.Item.cells i).toArray]) Tryd.func36 rfl rfl (l := []) (Sep.refl _) ?_
 intro a0 H0
 refine wp_seq ?_
 refine reg ?_
 refine st_box rfl rfl (agg_cells _) rfl rfl rfl H0 ?_
 clear H0; intro b1 a1 wx1 H1
 refine plain (y_assign rfl rfl) rfl rfl rfl H1 ?_
 clear H1; intro a2 H2
 refine plain (y_assign rfl rfl) rfl rfl rfl H2 ?_
 clear H2; intro a3 H3
 refine fin ?_
 refine then_n ?_
 refine wp_seq ?_
 refine wp_seq ?_
 refine reg ?_
 refine plain (y_loadAB rfl z_agg69 z_size69 rfl MM q_ld_c4_0_4 q_len_c4) rfl rfl rfl H3 ?_
 clear H3; intro a4 H4
 refine st_callg rfl z_call51 rfl rfl rfl rfl H4 (ritem i wf _) ?_
 clear H4; intro a5 wx5 H5
 refine plain ((by first | exact y_not_d rfl rfl | exact y_not rfl rfl)) rfl rfl rfl H5 ?_
 clear H5; intro a6 H6
 refine fin ?_
 refine then_n ?_
 refine cnd H6 rfl (fun hc7 => ?_) (fun hc7 => ?_) -- cond 1
 ·skip
  try simp only [decide_eq_true_eq, decide_eq_false_iff_not, Bool.not_eq_true', Bool.not_eq_false', Bool.and_eq_true, Bool.not_eq_true, Bool.not_eq_false] at hc7
  have hk := hc7
  refine wp_seq ?_
  refine reg ?_
  refine plain (y_assign rfl rfl) rfl rfl rfl H6 ?_
  clear H6; intro a8 H8
  refine plain (y_assign rfl rfl) rfl rfl rfl H8 ?_
  clear H8; intro a9 H9
  refine fin ?_
  refine then_n ?_
  refine wp_ret ?_
  refine then_r ?_
  -- return 1
  refine ret2 rfl H9 rfl rfl ?_
  exact ⟨_, [], rfl, ⟨by rw [Note.writeItem, hk]; rfl, rfl⟩, H9.sep.sub (List.nil_sublist _)⟩
 ·skip
  try simp only [decide_eq_true_eq, decide_eq_false_iff_not, Bool.not_eq_true', Bool.not_eq_false', Bool.and_eq_true, Bool.not_eq_true, Bool.not_eq_false] at hc7
  have hk := hc7
  refine wp_skip ?_
  refine then_n ?_
  refine wp_seq ?_
  refine hreg _ (fun _ h => h) (by kernel_rfl) H6 ?_
  clear H6; intro wx10 H10
  refine htake 0 rfl (by kernel_rfl) (y_fieldB rfl z_field69_0 rfl (by first | (simp only [Nat.zero_add, Nat.add_zero, Nat.reduceAdd]; rfl) | rfl)) rfl rfl rfl (fun _ h => h.subA) H10 ?_
  clear H10; intro a11 H11
  refine htake 1 rfl (by kernel_rfl) (y_loadB rfl z_agg3 rfl MM q_ix_c4_0) rfl rfl rfl (fun _ h => h.subA) H11 ?_
  clear H11; intro a12 H12
  refine htake 3 rfl (by kernel_rfl) (y_fieldB rfl z_field69_1 rfl (by first | (simp only [Nat.zero_add, Nat.add_zero, Nat.reduceAdd]; rfl) | rfl)) rfl rfl rfl (fun _ h => h.subA) H12 ?_
  clear H12; intro a13 H13
  refine htake 4 rfl (by kernel_rfl) (y_loadB rfl z_agg3 rfl MM q_ix_c4_1) rfl rfl rfl (fun _ h => h.subA) H13 ?_
  clear H13; intro a14 H14
  refine htake 6 rfl (by kernel_rfl) (y_fieldB rfl z_field69_2 rfl (by first | (simp only [Nat.zero_add, Nat.add_zero, Nat.reduceAdd]; rfl) | rfl)) rfl rfl rfl (fun _ h => h.subA) H14 ?_
  clear H14; intro a15 H15
  refine htake 7 rfl (by kernel_rfl) (y_loadB rfl z_agg3 rfl MM q_ix_c4_2) rfl rfl rfl (fun _ h => h.subA) H15 ?_
  clear H15; intro a16 H16
  refine htake 9 rfl (by kernel_rfl) (y_fieldB rfl z_field69_3 rfl (by first | (simp only [Nat.zero_add, Nat.add_zero, Nat.reduceAdd]; rfl) | rfl)) rfl rfl rfl (fun _ h => h.subA) H16 ?_
  clear H16; intro a17 H17
  refine htake 10 rfl (by kernel_rfl) (y_loadB rfl z_agg9 rfl MM q_ix_c4_3) rfl rfl rfl (fun _ h => h.subA) H17 ?_
  clear H17; intro a18 H18
  refine hgo 2 rfl (by kernel_rfl) ?_
  refine st_callg rfl z_call53 rfl rfl rfl rfl H18 (rtext _ (by first | exact wf.kind.2 | exact wf.who.2 | exact wf.n.2) _) ?_
  clear H18; intro a19 wx19 H19
  refine hfin (H19.sep.sub (by first | exact S0 | exact S1 | repeat (first | exact S1 | exact S0 | apply S2 | apply S3))) ?_
  refine hgo 5 rfl (by kernel_rfl) ?_
  refine st_callg rfl z_call53 rfl rfl rfl rfl H19 (rtext _ (by first | exact wf.kind.2 | exact wf.who.2 | exact wf.n.2) _) ?_
  clear H19; intro a20 wx20 H20
  refine hfin (H20.sep.sub (by first | exact S0 | exact S1 | repeat (first | exact S1 | exact S0 | apply S2 | apply S3))) ?_
  refine hgo 8 rfl (by kernel_rfl) ?_
  refine st_callg rfl z_call53 rfl rfl rfl rfl H20 (rtext _ (by first | exact wf.kind.2 | exact wf.who.2 | exact wf.n.2) _) ?_
  clear H20; intro a21 wx21 H21
  refine hfin (H21.sep.sub (by first | exact S0 | exact S1 | repeat (first | exact S1 | exact S0 | apply S2 | apply S3))) ?_
  refine hgo 11 rfl (by kernel_rfl) ?_
  refine st_buildSlice1 (xs := [.tmp 9, .tmp 12, .tmp 15, .tmp 17]) rfl Tryd.underlying67 z_size9 z_zero9 rfl rfl rfl rfl rfl rfl rfl rfl rfl H21 ?_
  clear H21; intro b22 a22 wx22 H22
  refine hfin (H22.sep.sub (by first | exact S0 | exact S1 | repeat (first | exact S1 | exact S0 | apply S2 | apply S3))) ?_
  refine hgo 12 rfl (by kernel_rfl) ?_
  refine st_callg rfl z_call52 rfl rfl rfl rfl H22 (rlist [Note.num i.kind, Note.num i.who, Note.num i.n, i.text] _ _ _ rfl (Rd.ofSep (rd_blkA MM) H22.sep) (by simp)) ?_
  clear H22; intro a23 wx23 H23
  refine hfin (H23.sep.sub (by first | exact S0 | exact S1 | repeat (first | exact S1 | exact S0 | apply S2 | apply S3))) ?_
  refine htake 13 rfl (by kernel_rfl) (y_extract rfl rfl rfl) rfl rfl rfl (fun _ h => h.subA) H23 ?_
  clear H23; intro a24 H24
  refine htake 14 rfl (by kernel_rfl) (y_extract rfl rfl rfl) rfl rfl rfl (fun _ h => h.subA) H24 ?_
  clear H24; intro a25 H25
  refine htake 15 rfl (by kernel_rfl) (y_assign rfl rfl) rfl rfl rfl (fun _ h => h.subA) H25 ?_
  clear H25; intro a26 H26
  refine htake 16 rfl (by kernel_rfl) (y_assign rfl rfl) rfl rfl rfl (fun _ h => h.subA) H26 ?_
  clear H26; intro a27 H27
  refine hdone (by kernel_rfl) ?_
  refine then_n ?_
  refine wp_ret ?_
  -- return 2
  refine ret2 rfl H27 rfl rfl ?_
  exact ⟨_, [], rfl, ⟨by rw [Note.writeItem, hk]; rfl, rfl⟩, H27.sep.sub (List.nil_sublist _)⟩

end Go.Proofs.YtlhddgkbbdfacaaDoor.C_RefI

set_option linter.unusedVariables false
set_option linter.unusedSimpArgs false
namespace Go.Proofs.YtlhddgkbbdfacaaDoor.C_Eq
open Go.Sx Go.RowKit

theorem z_agg9 : aggB Tryd.prog 9 = some false := by kernel_rfl
theorem q_ix_c4_3 {a0 a1 a2 a3 : Value} : (a0 :: a1 :: a2 :: a3 :: [])[3]? = some a3 := (ix_c (o := 2) (ix_c (o := 1) (ix_c (o := 0) ix_0)))
theorem z_agg3 : aggB Tryd.prog 3 = some false := by kernel_rfl
theorem q_ix_c4_2 {a0 a1 a2 a3 : Value} : (a0 :: a1 :: a2 :: a3 :: [])[2]? = some a2 := (ix_c (o := 1) (ix_c (o := 0) ix_0))
theorem q_ix_c4_1 {a0 a1 a2 a3 : Value} : (a0 :: a1 :: a2 :: a3 :: [])[1]? = some a1 := (ix_c (o := 0) ix_0)
theorem q_ix_c4_0 {a0 a1 a2 a3 : Value} : (a0 :: a1 :: a2 :: a3 :: [])[0]? = some a0 := ix_0
theorem eqr_Item (x y : Note.Item)  : EqR Tryd.prog 10000 69 (.agg (Note.Item.cells x).toArray) (.agg (Note.Item.cells y).toArray) (decide (x = y)) := by
  have h : EqR Tryd.prog 10000 69 (.agg (Note.Item.cells x).toArray) (.agg (Note.Item.cells y).toArray) (decide (x.kind = y.kind) && (decide (x.who = y.who) && (decide (x.n = y.n) && (decide (x.text = y.text) && true)))) := eqr_struct Tryd.underlying69 (by kernel_rfl) (eqf_c (by decide) (pa_1 z_agg3 q_ix_c4_0) (pa_1 z_agg3 q_ix_c4_0) (eqr_int Tryd.underlying3) (eqf_c (by decide) (pa_1 z_agg3 q_ix_c4_1) (pa_1 z_agg3 q_ix_c4_1) (eqr_int Tryd.underlying3) (eqf_c (by decide) (pa_1 z_agg3 q_ix_c4_2) (pa_1 z_agg3 q_ix_c4_2) (eqr_int Tryd.underlying3) (eqf_c (by decide) (pa_1 z_agg9 q_ix_c4_3) (pa_1 z_agg9 q_ix_c4_3) (eqr_str Tryd.underlying9) eqf_n))))
  have e : decide (x = y) = (decide (x.kind = y.kind) && (decide (x.who = y.who) && (decide (x.n = y.n) && (decide (x.text = y.text) && true)))) := by
    rw [Bool.eq_iff_iff]
    cases x
    cases y
    simp
  rw [e]
  exact h

end Go.Proofs.YtlhddgkbbdfacaaDoor.C_Eq

set_option linter.unusedVariables false
set_option linter.unusedSimpArgs false
namespace Go.Proofs.YtlhddgkbbdfacaaDoor.C_Hash
open Go.Sx Go.RowKit Go.Proofs.YtlhddgkbbdfacaaDoor.C_Block Go.Proofs.YtlhddgkbbdfacaaDoor.C_Sum Go.Proofs.YtlhddgkbbdfacaaDoor.C_Ref Go.Proofs.YtlhddgkbbdfacaaDoor.C_RSum Go.Proofs.YtlhddgkbbdfacaaDoor.C_Num Go.Proofs.YtlhddgkbbdfacaaDoor.C_Lay Go.Proofs.YtlhddgkbbdfacaaDoor.C_Leaf Go.Proofs.YtlhddgkbbdfacaaDoor.C_Item Go.Proofs.YtlhddgkbbdfacaaDoor.C_RefI Go.Proofs.YtlhddgkbbdfacaaDoor.C_Eq

theorem z_zeroN23 : zeroL Tryd.prog 23 = some ((List.replicate 32 (0 : UInt8)).map u8) := by kernel_rfl
theorem z_field26_0 : fieldB Tryd.prog 26 0 = some 0 := by kernel_rfl
theorem z_agg3 : aggB Tryd.prog 3 = some false := by kernel_rfl
theorem q_ix_c2b32c1_0 {a0 a1 a3 : Value} {t2 : List UInt8} : (a0 :: a1 :: (t2.map u8 ++ (a3 :: [])))[0]? = some a0 := ix_0
theorem z_size5 : sizeB Tryd.prog 5 = some 1 := by kernel_rfl
theorem z_size23 : sizeB Tryd.prog 23 = some 32 := by kernel_rfl
theorem q_one_b32 {t0 : List UInt8} : (t0.map u8).all (·.oneCell') = true := (one_u8 _)
theorem q_len_b32 {t0 : List UInt8} (h0 : t0.length = 32) : (t0.map u8).length = 32 := (len_e (k := 32) h0)
theorem q_spl_b32_0_b32 {t0 : List UInt8} {s0 : List UInt8} (h0 : t0.length = 32) (g0 : s0.length = 32) : spl (t0.map u8) 0 (s0.map u8) = s0.map u8 := (spl_a (z := 32) (len_e (k := 32) h0) (len_e (k := 32) g0))
theorem z_agg23 : aggB Tryd.prog 23 = some true := by kernel_rfl
theorem z_field26_1 : fieldB Tryd.prog 26 1 = some 1 := by kernel_rfl
theorem q_ix_c2b32c1_1 {a0 a1 a3 : Value} {t2 : List UInt8} : (a0 :: a1 :: (t2.map u8 ++ (a3 :: [])))[1]? = some a1 := (ix_c (o := 0) ix_0)
theorem z_field26_3 : fieldB Tryd.prog 26 3 = some 34 := by kernel_rfl
theorem z_agg24 : aggB Tryd.prog 24 = some false := by kernel_rfl
theorem q_ix_c2b32c1_34 {a0 a1 a3 : Value} {t2 : List UInt8} (h2 : t2.length = 32) : (a0 :: a1 :: (t2.map u8 ++ (a3 :: [])))[34]? = some a3 := (ix_c (o := 33) (ix_c (o := 32) (ix_b (k := 32) (o := 0) h2 rfl ix_0)))
theorem z_call30 : callB Tryd.prog 30 = true := by kernel_rfl
theorem z_field26_2 : fieldB Tryd.prog 26 2 = some 2 := by kernel_rfl
theorem q_ld_c2b32c1_2_32 {a0 a1 a3 : Value} {t2 : List UInt8} (h2 : t2.length = 32) : ((a0 :: a1 :: (t2.map u8 ++ (a3 :: []))).drop 2).take 32 = t2.map u8 := (ld_c (o := 1) (ld_c (o := 0) (ld_h h2)))
theorem z_size9 : sizeB Tryd.prog 9 = some 1 := by kernel_rfl
theorem z_zero9 : zeroL Tryd.prog 9 = some ([.string ⟨#[]⟩]) := by kernel_rfl
theorem z_size69 : sizeB Tryd.prog 69 = some 4 := by kernel_rfl
theorem z_agg69 : aggB Tryd.prog 69 = some true := by kernel_rfl
theorem z_zeroN69 : zeroL Tryd.prog 69 = some ((.int .i64 0 :: (.int .i64 0 :: (.int .i64 0 :: (.string ⟨#[]⟩ :: []))))) := by kernel_rfl
theorem q_one_c4 {a0 a1 a2 a3 : Value} (o0 : a0.oneCell' = true) (o1 : a1.oneCell' = true) (o2 : a2.oneCell' = true) (o3 : a3.oneCell' = true) : (a0 :: a1 :: a2 :: a3 :: []).all (·.oneCell') = true := (one_c o0 (one_c o1 (one_c o2 (one_c o3 one_n))))
theorem q_len_c4 {a0 a1 a2 a3 : Value} : (a0 :: a1 :: a2 :: a3 :: []).length = 4 := (len_c (n := 3) (len_c (n := 2) (len_c (n := 1) (len_c (n := 0) len_n))))
theorem q_spl_c4_0_c4 {a0 a1 a2 a3 : Value} {b0 b1 b2 b3 : Value} : spl (a0 :: a1 :: a2 :: a3 :: []) 0 (b0 :: b1 :: b2 :: b3 :: []) = b0 :: b1 :: b2 :: b3 :: [] := (spl_a (z := 4) (len_c (n := 3) (len_c (n := 2) (len_c (n := 1) (len_c (n := 0) len_n)))) (len_c (n := 3) (len_c (n := 2) (len_c (n := 1) (len_c (n := 0) len_n)))))
theorem q_ld_c4_0_4 {a0 a1 a2 a3 : Value} : ((a0 :: a1 :: a2 :: a3 :: []).drop 0).take 4 = a0 :: a1 :: a2 :: a3 :: [] := (ld_a (len_c (n := 3) (len_c (n := 2) (len_c (n := 1) (len_c (n := 0) len_n)))))
theorem z_places69 : placesB Tryd.prog 69 = some [(0, 1), (1, 1), (2, 1), (3, 1)] := by kernel_rfl
theorem z_call31 : callB Tryd.prog 31 = true := by kernel_rfl
theorem z_slice67 : sliceB Tryd.prog 67 = some (9, 1, 16) := by kernel_rfl
theorem z_notint67 : notIntB Tryd.prog 67 = true := by kernel_rfl
theorem z_call32 : callB Tryd.prog 32 = true := by kernel_rfl
theorem z_call33 : callB Tryd.prog 33 = true := by kernel_rfl
theorem z_call34 : callB Tryd.prog 34 = true := by kernel_rfl
theorem z_call35 : callB Tryd.prog 35 = true := by kernel_rfl
theorem z_call36 : callB Tryd.prog 36 = true := by kernel_rfl
theorem z_call37 : callB Tryd.prog 37 = true := by kernel_rfl
theorem z_call38 : callB Tryd.prog 38 = true := by kernel_rfl

set_option maxRecDepth 100000 in
set_option maxHeartbeats 4000000 in
theorem thash (x : Inbox.BA) (wx : Tree.W0 x) (hl : x.b.items.length ≤ 9223372036854775807) {w : World} (hR : Rd w x.A (Inbox.ic x.b.items)) (hG : Glob 0 Sha.K w) : Calls Tryd.prog 9 #[.agg (Inbox.BA.cells x).toArray] w (Gives (.tuple #[.agg ((Tree.hash x.b).1.map u8).toArray, .int .i64 (Tree.hash x.b).2]) [] w) := by
 have hpl := wx.parent
 have hnu := wx.number
 have hsa := wx.salt
 unfold Note.I64 at hnu hsa
 have hZl : Note.Z.length = 32 := Note.Z_len
 have lz32 : (List.replicate 32 (0 : UInt8)).length = 32 := List.length_replicate
 have lz0 := wx.parent
 refine enterL (args := [.agg (Inbox.BA.cells x).toArray]) Tryd.func9 rfl rfl (l := []) (Sep.refl _) ?_
 intro a0 H0
 refine wp_seq ?_
 refine reg ?_
 refine st_box rfl rfl (agg_cells _) rfl rfl rfl H0 ?_
 clear H0; intro b1 a1 wx1 H1
 refine st_alloc rfl z_zeroN23 rfl rfl rfl H1 ?_
 clear H1; intro b2 a2 wx2 H2
 refine plain (y_assign rfl rfl) rfl rfl rfl H2 ?_
 clear H2; intro a3 H3
 refine fin ?_
 refine then_n ?_
 refine wp_seq ?_
 refine wp_seq ?_
 refine reg ?_
 refine plain (y_fieldB rfl z_field26_0 rfl (by first | (simp only [Nat.zero_add, Nat.add_zero, Nat.reduceAdd]; rfl) | rfl)) rfl rfl rfl H3 ?_
 clear H3; intro a4 H4
 refine plain (y_loadB rfl z_agg3 rfl MM q_ix_c2b32c1_0) rfl rfl rfl H4 ?_
 clear H4; intro a5 H5
 refine plain (y_lss rfl rfl rfl) rfl rfl rfl H5 ?_
 clear H5; intro a6 H6
 refine plain (y_move rfl rfl) rfl rfl rfl H6 ?_
 clear H6; intro a7 H7
 refine Sx.part (d := 18) H7 rfl (fun hg8 => ?_) (fun hg8 => ?_)
 ·first
  |fail
  |skip
   clear H7; intro H9
   try simp only [decide_eq_true_eq, decide_eq_false_iff_not, Bool.not_eq_true', Bool.not_eq_false', Bool.and_eq_true, Bool.not_eq_true, Bool.not_eq_false] at hg8
   refine skip rfl rfl rfl H9 ?_
   clear H9; intro a10 H10
   refine skip rfl rfl rfl H10 ?_
   clear H10; intro a11 H11
   refine skip rfl rfl rfl H11 ?_
   clear H11; intro a12 H12
   refine plain (y_pick_t rfl rfl rfl) rfl rfl rfl H12 ?_
   clear H12; intro a13 H13
   refine plain (y_move rfl rfl) rfl rfl rfl H13 ?_
   clear H13; intro a14 H14
   refine skip rfl rfl rfl H14 ?_
   clear H14; intro a15 H15
   refine skip rfl rfl rfl H15 ?_
   clear H15; intro a16 H16
   refine skip rfl rfl rfl H16 ?_
   clear H16; intro a17 H17
   refine plain (y_pick_t rfl rfl rfl) rfl rfl rfl H17 ?_
   clear H17; intro a18 H18
   refine plain (y_move rfl rfl) rfl rfl rfl H18 ?_
   clear H18; intro a19 H19
   refine skip rfl rfl rfl H19 ?_
   clear H19; intro a20 H20
   refine skip rfl rfl rfl H20 ?_
   clear H20; intro a21 H21
   refine skip rfl rfl rfl H21 ?_
   clear H21; intro a22 H22
   refine plain (y_pick_t rfl rfl rfl) rfl rfl rfl H22 ?_
   clear H22; intro a23 H23
   refine plain (y_move rfl rfl) rfl rfl rfl H23 ?_
   clear H23; intro a24 H24
   refine skip rfl rfl rfl H24 ?_
   clear H24; intro a25 H25
   refine skip rfl rfl rfl H25 ?_
   clear H25; intro a26 H26
   refine skip rfl rfl rfl H26 ?_
   clear H26; intro a27 H27
   refine skip rfl rfl rfl H27 ?_
   clear H27; intro a28 H28
   refine plain (y_pick_t rfl rfl rfl) rfl rfl rfl H28 ?_
   clear H28; intro a29 H29
   refine fin ?_
   refine then_n ?_
   refine cnd_t H29 rfl ?_
   refine wp_seq ?_
   refine reg ?_
   refine plain (y_buildA rfl z_zeroN23 Tryd.underlying23 z_size5 rfl lay_n) rfl rfl rfl H29 ?_
   clear H29; intro a31 H31
   refine st_storeN rfl z_size23 rfl rfl (agg_cells _) UU q_one_b32 (q_len_b32 (by first | assumption | exact Sha.sum_length _)) (q_len_b32 (by first | assumption | exact Sha.sum_length _)) (q_spl_b32_0_b32 (by first | assumption | exact Sha.sum_length _) (by first | assumption | exact Sha.sum_length _)) (by decide) rfl rfl H31 ?_
   clear H31; intro wx32 H32
   refine plain (y_assign rfl rfl) rfl rfl rfl H32 ?_
   clear H32; intro a33 H33
   refine fin ?_
   refine then_n ?_
   refine wp_ret ?_
   refine then_r ?_
   -- return 1
   refine retct rfl H33 rfl z_agg23 z_size23 MM (q_len_b32 (by first | assumption | exact Sha.sum_length _)) rfl ?_
   first | (have hz := Tree.zero_of hkl hz0; rw [hz]; exact ⟨_, [], rfl, ⟨rfl, rfl⟩, H33.sep.sub (List.nil_sublist _)⟩) | (have hz := Tree.hash_at (b := x.b) hkl hwe; rw [hz]; exact ⟨_, [], rfl, ⟨rfl, rfl⟩, H33.sep.sub (List.nil_sublist _)⟩) | (have hz := Tree.hash_big hob hal hbg; rw [hz]; exact ⟨_, [], rfl, ⟨rfl, rfl⟩, H33.sep.sub (List.nil_sublist _)⟩) | (have hz := Tree.hash_fine hob hal hsm; rw [hz]; exact ⟨_, [], rfl, ⟨rfl, rfl⟩, H33.sep.sub (List.nil_sublist _)⟩) | (have hz := Tree.hash_bad (b := x.b) (by rw [Tree.okBlock_is]; omega); rw [hz]; exact ⟨_, [], rfl, ⟨rfl, rfl⟩, H33.sep.sub (List.nil_sublist _)⟩)
 ·first
  |fail
  |skip
   clear H7; intro H34
   try simp only [decide_eq_true_eq, decide_eq_false_iff_not, Bool.not_eq_true', Bool.not_eq_false', Bool.and_eq_true, Bool.not_eq_true, Bool.not_eq_false] at hg8
   refine plain (y_fieldB rfl z_field26_0 rfl (by first | (simp only [Nat.zero_add, Nat.add_zero, Nat.reduceAdd]; rfl) | rfl)) rfl rfl rfl H34 ?_
   clear H34; intro a35 H35
   refine plain (y_loadB rfl z_agg3 rfl MM q_ix_c2b32c1_0) rfl rfl rfl H35 ?_
   clear H35; intro a36 H36
   refine plain (y_gtr rfl rfl rfl) rfl rfl rfl H36 ?_
   clear H36; intro a37 H37
   refine plain (y_pick_f rfl rfl rfl) rfl rfl rfl H37 ?_
   clear H37; intro a38 H38
   refine plain (y_move rfl rfl) rfl rfl rfl H38 ?_
   clear H38; intro a39 H39
   refine Sx.part (d := 23) H39 rfl (fun hg40 => ?_) (fun hg40 => ?_)
   ·first
    |fail
    |skip
     clear H39; intro H41
     try simp only [decide_eq_true_eq, decide_eq_false_iff_not, Bool.not_eq_true', Bool.not_eq_false', Bool.and_eq_true, Bool.not_eq_true, Bool.not_eq_false] at hg40
     refine skip rfl rfl rfl H41 ?_
     clear H41; intro a42 H42
     refine skip rfl rfl rfl H42 ?_
     clear H42; intro a43 H43
     refine skip rfl rfl rfl H43 ?_
     clear H43; intro a44 H44
     refine plain (y_pick_t rfl rfl rfl) rfl rfl rfl H44 ?_
     clear H44; intro a45 H45
     refine plain (y_move rfl rfl) rfl rfl rfl H45 ?_
     clear H45; intro a46 H46
     refine skip rfl rfl rfl H46 ?_
     clear H46; intro a47 H47
     refine skip rfl rfl rfl H47 ?_
     clear H47; intro a48 H48
     refine skip rfl rfl rfl H48 ?_
     clear H48; intro a49 H49
     refine plain (y_pick_t rfl rfl rfl) rfl rfl rfl H49 ?_
     clear H49; intro a50 H50
     refine plain (y_move rfl rfl) rfl rfl rfl H50 ?_
     clear H50; intro a51 H51
     refine skip rfl rfl rfl H51 ?_
     clear H51; intro a52 H52
     refine skip rfl rfl rfl H52 ?_
     clear H52; intro a53 H53
     refine skip rfl rfl rfl H53 ?_
     clear H53; intro a54 H54
     refine skip rfl rfl rfl H54 ?_
     clear H54; intro a55 H55
     refine plain (y_pick_t rfl rfl rfl) rfl rfl rfl H55 ?_
     clear H55; intro a56 H56
     refine fin ?_
     refine then_n ?_
     refine cnd_t H56 rfl ?_
     refine wp_seq ?_
     refine reg ?_
     refine plain (y_buildA rfl z_zeroN23 Tryd.underlying23 z_size5 rfl lay_n) rfl rfl rfl H56 ?_
     clear H56; intro a58 H58
     refine st_storeN rfl z_size23 rfl rfl (agg_cells _) UU q_one_b32 (q_len_b32 (by first | assumption | exact Sha.sum_length _)) (q_len_b32 (by first | assumption | exact Sha.sum_length _)) (q_spl_b32_0_b32 (by first | assumption | exact Sha.sum_length _) (by first | assumption | exact Sha.sum_length _)) (by decide) rfl rfl H58 ?_
     clear H58; intro wx59 H59
     refine plain (y_assign rfl rfl) rfl rfl rfl H59 ?_
     clear H59; intro a60 H60
     refine fin ?_
     refine then_n ?_
     refine wp_ret ?_
     refine then_r ?_
     -- return 2
     refine retct rfl H60 rfl z_agg23 z_size23 MM (q_len_b32 (by first | assumption | exact Sha.sum_length _)) rfl ?_
     first | (have hz := Tree.zero_of hkl hz0; rw [hz]; exact ⟨_, [], rfl, ⟨rfl, rfl⟩, H60.sep.sub (List.nil_sublist _)⟩) | (have hz := Tree.hash_at (b := x.b) hkl hwe; rw [hz]; exact ⟨_, [], rfl, ⟨rfl, rfl⟩, H60.sep.sub (List.nil_sublist _)⟩) | (have hz := Tree.hash_big hob hal hbg; rw [hz]; exact ⟨_, [], rfl, ⟨rfl, rfl⟩, H60.sep.sub (List.nil_sublist _)⟩) | (have hz := Tree.hash_fine hob hal hsm; rw [hz]; exact ⟨_, [], rfl, ⟨rfl, rfl⟩, H60.sep.sub (List.nil_sublist _)⟩) | (have hz := Tree.hash_bad (b := x.b) (by rw [Tree.okBlock_is]; omega); rw [hz]; exact ⟨_, [], rfl, ⟨rfl, rfl⟩, H60.sep.sub (List.nil_sublist _)⟩)
   ·first
    |fail
    |skip
     clear H39; intro H61
     try simp only [decide_eq_true_eq, decide_eq_false_iff_not, Bool.not_eq_true', Bool.not_eq_false', Bool.and_eq_true, Bool.not_eq_true, Bool.not_eq_false] at hg40
     refine plain (y_fieldB rfl z_field26_1 rfl (by first | (simp only [Nat.zero_add, Nat.add_zero, Nat.reduceAdd]; rfl) | rfl)) rfl rfl rfl H61 ?_
     clear H61; intro a62 H62
     refine plain (y_loadB rfl z_agg3 rfl MM q_ix_c2b32c1_1) rfl rfl rfl H62 ?_
     clear H62; intro a63 H63
     refine plain (y_lss rfl rfl rfl) rfl rfl rfl H63 ?_
     clear H63; intro a64 H64
     refine plain (y_pick_f rfl rfl rfl) rfl rfl rfl H64 ?_
     clear H64; intro a65 H65
     refine plain (y_move rfl rfl) rfl rfl rfl H65 ?_
     clear H65; intro a66 H66
     refine Sx.part (d := 28) H66 rfl (fun hg67 => ?_) (fun hg67 => ?_)
     ·first
      |fail
      |skip
       clear H66; intro H68
       try simp only [decide_eq_true_eq, decide_eq_false_iff_not, Bool.not_eq_true', Bool.not_eq_false', Bool.and_eq_true, Bool.not_eq_true, Bool.not_eq_false] at hg67
       refine skip rfl rfl rfl H68 ?_
       clear H68; intro a69 H69
       refine skip rfl rfl rfl H69 ?_
       clear H69; intro a70 H70
       refine skip rfl rfl rfl H70 ?_
       clear H70; intro a71 H71
       refine plain (y_pick_t rfl rfl rfl) rfl rfl rfl H71 ?_
       clear H71; intro a72 H72
       refine plain (y_move rfl rfl) rfl rfl rfl H72 ?_
       clear H72; intro a73 H73
       refine skip rfl rfl rfl H73 ?_
       clear H73; intro a74 H74
       refine skip rfl rfl rfl H74 ?_
       clear H74; intro a75 H75
       refine skip rfl rfl rfl H75 ?_
       clear H75; intro a76 H76
       refine skip rfl rfl rfl H76 ?_
       clear H76; intro a77 H77
       refine plain (y_pick_t rfl rfl rfl) rfl rfl rfl H77 ?_
       clear H77; intro a78 H78
       refine fin ?_
       refine then_n ?_
       refine cnd_t H78 rfl ?_
       refine wp_seq ?_
       refine reg ?_
       refine plain (y_buildA rfl z_zeroN23 Tryd.underlying23 z_size5 rfl lay_n) rfl rfl rfl H78 ?_
       clear H78; intro a80 H80
       refine st_storeN rfl z_size23 rfl rfl (agg_cells _) UU q_one_b32 (q_len_b32 (by first | assumption | exact Sha.sum_length _)) (q_len_b32 (by first | assumption | exact Sha.sum_length _)) (q_spl_b32_0_b32 (by first | assumption | exact Sha.sum_length _) (by first | assumption | exact Sha.sum_length _)) (by decide) rfl rfl H80 ?_
       clear H80; intro wx81 H81
       refine plain (y_assign rfl rfl) rfl rfl rfl H81 ?_
       clear H81; intro a82 H82
       refine fin ?_
       refine then_n ?_
       refine wp_ret ?_
       refine then_r ?_
       -- return 3
       refine retct rfl H82 rfl z_agg23 z_size23 MM (q_len_b32 (by first | assumption | exact Sha.sum_length _)) rfl ?_
       first | (have hz := Tree.zero_of hkl hz0; rw [hz]; exact ⟨_, [], rfl, ⟨rfl, rfl⟩, H82.sep.sub (List.nil_sublist _)⟩) | (have hz := Tree.hash_at (b := x.b) hkl hwe; rw [hz]; exact ⟨_, [], rfl, ⟨rfl, rfl⟩, H82.sep.sub (List.nil_sublist _)⟩) | (have hz := Tree.hash_big hob hal hbg; rw [hz]; exact ⟨_, [], rfl, ⟨rfl, rfl⟩, H82.sep.sub (List.nil_sublist _)⟩) | (have hz := Tree.hash_fine hob hal hsm; rw [hz]; exact ⟨_, [], rfl, ⟨rfl, rfl⟩, H82.sep.sub (List.nil_sublist _)⟩) | (have hz := Tree.hash_bad (b := x.b) (by rw [Tree.okBlock_is]; omega); rw [hz]; exact ⟨_, [], rfl, ⟨rfl, rfl⟩, H82.sep.sub (List.nil_sublist _)⟩)
     ·first
      |fail
      |skip
       clear H66; intro H83
       try simp only [decide_eq_true_eq, decide_eq_false_iff_not, Bool.not_eq_true', Bool.not_eq_false', Bool.and_eq_true, Bool.not_eq_true, Bool.not_eq_false] at hg67
       refine plain (y_fieldB rfl z_field26_1 rfl (by first | (simp only [Nat.zero_add, Nat.add_zero, Nat.reduceAdd]; rfl) | rfl)) rfl rfl rfl H83 ?_
       clear H83; intro a84 H84
       refine plain (y_loadB rfl z_agg3 rfl MM q_ix_c2b32c1_1) rfl rfl rfl H84 ?_
       clear H84; intro a85 H85
       refine plain (y_gtr rfl rfl rfl) rfl rfl rfl H85 ?_
       clear H85; intro a86 H86
       refine plain (y_pick_f rfl rfl rfl) rfl rfl rfl H86 ?_
       clear H86; intro a87 H87
       refine plain (y_move rfl rfl) rfl rfl rfl H87 ?_
       clear H87; intro a88 H88
       refine Sx.part (d := 33) H88 rfl (fun hg89 => ?_) (fun hg89 => ?_)
       ·first
        |fail
        |skip
         clear H88; intro H90
         try simp only [decide_eq_true_eq, decide_eq_false_iff_not, Bool.not_eq_true', Bool.not_eq_false', Bool.and_eq_true, Bool.not_eq_true, Bool.not_eq_false] at hg89
         refine skip rfl rfl rfl H90 ?_
         clear H90; intro a91 H91
         refine skip rfl rfl rfl H91 ?_
         clear H91; intro a92 H92
         refine skip rfl rfl rfl H92 ?_
         clear H92; intro a93 H93
         refine skip rfl rfl rfl H93 ?_
         clear H93; intro a94 H94
         refine plain (y_pick_t rfl rfl rfl) rfl rfl rfl H94 ?_
         clear H94; intro a95 H95
         refine fin ?_
         refine then_n ?_
         refine cnd_t H95 rfl ?_
         refine wp_seq ?_
         refine reg ?_
         refine plain (y_buildA rfl z_zeroN23 Tryd.underlying23 z_size5 rfl lay_n) rfl rfl rfl H95 ?_
         clear H95; intro a97 H97
         refine st_storeN rfl z_size23 rfl rfl (agg_cells _) UU q_one_b32 (q_len_b32 (by first | assumption | exact Sha.sum_length _)) (q_len_b32 (by first | assumption | exact Sha.sum_length _)) (q_spl_b32_0_b32 (by first | assumption | exact Sha.sum_length _) (by first | assumption | exact Sha.sum_length _)) (by decide) rfl rfl H97 ?_
         clear H97; intro wx98 H98
         refine plain (y_assign rfl rfl) rfl rfl rfl H98 ?_
         clear H98; intro a99 H99
         refine fin ?_
         refine then_n ?_
         refine wp_ret ?_
         refine then_r ?_
         -- return 4
         refine retct rfl H99 rfl z_agg23 z_size23 MM (q_len_b32 (by first | assumption | exact Sha.sum_length _)) rfl ?_
         first | (have hz := Tree.zero_of hkl hz0; rw [hz]; exact ⟨_, [], rfl, ⟨rfl, rfl⟩, H99.sep.sub (List.nil_sublist _)⟩) | (have hz := Tree.hash_at (b := x.b) hkl hwe; rw [hz]; exact ⟨_, [], rfl, ⟨rfl, rfl⟩, H99.sep.sub (List.nil_sublist _)⟩) | (have hz := Tree.hash_big hob hal hbg; rw [hz]; exact ⟨_, [], rfl, ⟨rfl, rfl⟩, H99.sep.sub (List.nil_sublist _)⟩) | (have hz := Tree.hash_fine hob hal hsm; rw [hz]; exact ⟨_, [], rfl, ⟨rfl, rfl⟩, H99.sep.sub (List.nil_sublist _)⟩) | (have hz := Tree.hash_bad (b := x.b) (by rw [Tree.okBlock_is]; omega); rw [hz]; exact ⟨_, [], rfl, ⟨rfl, rfl⟩, H99.sep.sub (List.nil_sublist _)⟩)
       ·first
        |fail
        |skip
         clear H88; intro H100
         try simp only [decide_eq_true_eq, decide_eq_false_iff_not, Bool.not_eq_true', Bool.not_eq_false', Bool.and_eq_true, Bool.not_eq_true, Bool.not_eq_false] at hg89
         refine plain (y_fieldB rfl z_field26_3 rfl (by first | (simp only [Nat.zero_add, Nat.add_zero, Nat.reduceAdd]; rfl) | rfl)) rfl rfl rfl H100 ?_
         clear H100; intro a101 H101
         refine plain (y_loadB rfl z_agg24 rfl MM (q_ix_c2b32c1_34 (by first | assumption | exact Sha.sum_length _))) rfl rfl rfl H101 ?_
         clear H101; intro a102 H102
         refine plain (y_len rfl Tryd.underlying24 rfl) rfl rfl rfl H102 ?_
         clear H102; intro a103 H103
         refine plain (y_gtr rfl rfl rfl) rfl rfl rfl H103 ?_
         clear H103; intro a104 H104
         refine plain (y_pick_f rfl rfl rfl) rfl rfl rfl H104 ?_
         clear H104; intro a105 H105
         refine fin ?_
         refine then_n ?_
         refine cnd H105 rfl (fun hc106 => ?_) (fun hc106 => ?_) -- cond 5
         ·skip
          try simp only [decide_eq_true_eq, decide_eq_false_iff_not, Bool.not_eq_true', Bool.not_eq_false', Bool.and_eq_true, Bool.not_eq_true, Bool.not_eq_false] at hc106
          refine wp_seq ?_
          refine reg ?_
          refine plain (y_buildA rfl z_zeroN23 Tryd.underlying23 z_size5 rfl lay_n) rfl rfl rfl H105 ?_
          clear H105; intro a107 H107
          refine st_storeN rfl z_size23 rfl rfl (agg_cells _) UU q_one_b32 (q_len_b32 (by first | assumption | exact Sha.sum_length _)) (q_len_b32 (by first | assumption | exact Sha.sum_length _)) (q_spl_b32_0_b32 (by first | assumption | exact Sha.sum_length _) (by first | assumption | exact Sha.sum_length _)) (by decide) rfl rfl H107 ?_
          clear H107; intro wx108 H108
          refine plain (y_assign rfl rfl) rfl rfl rfl H108 ?_
          clear H108; intro a109 H109
          refine fin ?_
          refine then_n ?_
          refine wp_ret ?_
          refine then_r ?_
          -- return 5
          refine retct rfl H109 rfl z_agg23 z_size23 MM (q_len_b32 (by first | assumption | exact Sha.sum_length _)) rfl ?_
          first | (have hz := Tree.zero_of hkl hz0; rw [hz]; exact ⟨_, [], rfl, ⟨rfl, rfl⟩, H109.sep.sub (List.nil_sublist _)⟩) | (have hz := Tree.hash_at (b := x.b) hkl hwe; rw [hz]; exact ⟨_, [], rfl, ⟨rfl, rfl⟩, H109.sep.sub (List.nil_sublist _)⟩) | (have hz := Tree.hash_big hob hal hbg; rw [hz]; exact ⟨_, [], rfl, ⟨rfl, rfl⟩, H109.sep.sub (List.nil_sublist _)⟩) | (have hz := Tree.hash_fine hob hal hsm; rw [hz]; exact ⟨_, [], rfl, ⟨rfl, rfl⟩, H109.sep.sub (List.nil_sublist _)⟩) | (have hz := Tree.hash_bad (b := x.b) (by rw [Tree.okBlock_is]; omega); rw [hz]; exact ⟨_, [], rfl, ⟨rfl, rfl⟩, H109.sep.sub (List.nil_sublist _)⟩)
         ·skip
          try simp only [decide_eq_true_eq, decide_eq_false_iff_not, Bool.not_eq_true', Bool.not_eq_false', Bool.and_eq_true, Bool.not_eq_true, Bool.not_eq_false] at hc106
          refine wp_skip ?_
          refine then_n ?_
          refine wp_seq ?_
          have hob : Tree.okBlock x.b = true := by rw [Tree.okBlock_is]; omega
          refine reg ?_
          refine plain (y_fieldB rfl z_field26_0 rfl (by first | (simp only [Nat.zero_add, Nat.add_zero, Nat.reduceAdd]; rfl) | rfl)) rfl rfl rfl H105 ?_
          clear H105; intro a110 H110
          refine plain (y_loadB rfl z_agg3 rfl MM q_ix_c2b32c1_0) rfl rfl rfl H110 ?_
          clear H110; intro a111 H111
          refine st_callg rfl z_call30 rfl rfl rfl rfl H111 (num x.b.number (by omega) _) ?_
          clear H111; intro a112 wx112 H112
          refine plain (y_move rfl rfl) rfl rfl rfl H112 ?_
          clear H112; intro a113 H113
          refine plain (y_extract rfl rfl rfl) rfl rfl rfl H113 ?_
          clear H113; intro a114 H114
          refine plain (y_extract rfl rfl rfl) rfl rfl rfl H114 ?_
          clear H114; intro a115 H115
          refine plain (y_assign rfl rfl) rfl rfl rfl H115 ?_
          clear H115; intro a116 H116
          refine plain (y_assign rfl rfl) rfl rfl rfl H116 ?_
          clear H116; intro a117 H117
          refine fin ?_
          refine then_n ?_
          refine wp_seq ?_
          refine reg ?_
          refine plain (y_fieldB rfl z_field26_1 rfl (by first | (simp only [Nat.zero_add, Nat.add_zero, Nat.reduceAdd]; rfl) | rfl)) rfl rfl rfl H117 ?_
          clear H117; intro a118 H118
          refine plain (y_loadB rfl z_agg3 rfl MM q_ix_c2b32c1_1) rfl rfl rfl H118 ?_
          clear H118; intro a119 H119
          refine st_callg rfl z_call30 rfl rfl rfl rfl H119 (num x.b.salt (by omega) _) ?_
          clear H119; intro a120 wx120 H120
          refine plain (y_move rfl rfl) rfl rfl rfl H120 ?_
          clear H120; intro a121 H121
          refine plain (y_extract rfl rfl rfl) rfl rfl rfl H121 ?_
          clear H121; intro a122 H122
          refine plain (y_extract rfl rfl rfl) rfl rfl rfl H122 ?_
          clear H122; intro a123 H123
          refine plain (y_assign rfl rfl) rfl rfl rfl H123 ?_
          clear H123; intro a124 H124
          refine plain (y_assign rfl rfl) rfl rfl rfl H124 ?_
          clear H124; intro a125 H125
          refine fin ?_
          refine then_n ?_
          refine wp_seq ?_
          refine reg ?_
          refine plain (y_move rfl rfl) rfl rfl rfl H125 ?_
          clear H125; intro a126 H126
          refine plain (y_move rfl rfl) rfl rfl rfl H126 ?_
          clear H126; intro a127 H127
          refine plain (y_fieldB rfl z_field26_2 rfl (by first | (simp only [Nat.zero_add, Nat.add_zero, Nat.reduceAdd]; rfl) | rfl)) rfl rfl rfl H127 ?_
          clear H127; intro a128 H128
          refine plain (y_slA_all rfl Tryd.underlying23 z_size5 (by decide) rfl) rfl rfl rfl H128 ?_
          clear H128; intro a129 H129
          refine plain (y_bstrN rfl Tryd.underlying66 Tryd.underlying5 Tryd.underlying9 rfl (rd_blk MM 32 (q_ld_c2b32c1_2_32 (by first | assumption | exact Sha.sum_length _))) (Eq.symm (by first | assumption | exact Sha.sum_length _))) rfl rfl rfl H129 ?_
          clear H129; intro a130 H130
          refine st_buildSlice1 (xs := [.tmp 52, .tmp 53, .tmp 56]) rfl Tryd.underlying67 z_size9 z_zero9 rfl rfl rfl rfl rfl rfl rfl rfl rfl H130 ?_
          clear H130; intro b131 a131 wx131 H131
          refine plain (y_assign rfl rfl) rfl rfl rfl H131 ?_
          clear H131; intro a132 H132
          refine fin ?_
          refine then_n ?_
          refine wp_seq ?_
          refine wp_seq ?_
          refine reg ?_
          refine plain (y_fieldB rfl z_field26_3 rfl (by first | (simp only [Nat.zero_add, Nat.add_zero, Nat.reduceAdd]; rfl) | rfl)) rfl rfl rfl H132 ?_
          clear H132; intro a133 H133
          refine plain (y_loadB rfl z_agg24 rfl MM (q_ix_c2b32c1_34 (by first | assumption | exact Sha.sum_length _))) rfl rfl rfl H133 ?_
          clear H133; intro a134 H134
          refine plain (y_len rfl Tryd.underlying24 rfl) rfl rfl rfl H134 ?_
          clear H134; intro a135 H135
          refine plain (y_move rfl rfl) rfl rfl rfl H135 ?_
          clear H135; intro a136 H136
          refine fin ?_
          refine then_n ?_
          refine wp_block ?_
          replace H136 := H136.asRow (b := b131) (size := 1) (m := 3) UU rfl (by unfold maxLen; omega)
          refine loop (ι := Nat × Value) (fun y => [(1, .pointer (some ⟨b1, 0, none⟩)), (2, .pointer (some ⟨b2, 0, none⟩)), (3, .int .i64 0), (8, y.2), (59, .slice x.A x.b.items.length x.c), (60, .int .i64 (x.b.items.length : Int)), (61, .int .i64 (y.1 : Int))]) (fun y => [It.row 9 1 y.2 (3 + y.1) ((Tree.head3 x.b ++ Tree.itexts x.b.items y.1).map str), It.blk b2 23 ((List.replicate 32 (0 : UInt8)).map u8), It.blk b1 26 (Inbox.BA.cells x)]) (fun y => y.1 ≤ x.b.items.length ∧ ∀ j, j < y.1 → (Note.writeItem (x.b.items.getD j Note.Item.zero)).2 = 0) (fun y => x.b.items.length - y.1) ((0, .slice (some ⟨b131, 0, none⟩) 3 3)) ⟨Nat.zero_le _, fun j hj => absurd hj (by omega)⟩ (H136.weak ⟨rfl, rfl, rfl, rfl, rfl, rfl, rfl, trivial⟩ rfl) ?_
          clear H136; intro y a137 wx137 hok137 H137
          obtain ⟨k, v⟩ := y
          dsimp only at hok137 H137
          obtain ⟨hok, hwr⟩ := hok137
          obtain ⟨A1, c1, rfl, hR1, hm1⟩ := row_shape (v := v) H137.sep MM
          refine wp_seq ?_
          refine reg ?_
          refine plain (y_lss rfl rfl rfl) rfl rfl rfl H137 ?_
          clear H137; intro a138 H138
          refine fin ?_
          refine then_n ?_
          refine wp_seq ?_
          refine cnd H138 rfl (fun hc139 => ?_) (fun hc139 => ?_) -- cond 6
          ·skip
           try simp only [decide_eq_true_eq, decide_eq_false_iff_not, Bool.not_eq_true', Bool.not_eq_false', Bool.and_eq_true, Bool.not_eq_true, Bool.not_eq_false] at hc139
           refine wp_skip ?_
           refine then_n ?_
           refine wp_seq ?_
           refine wp_block ?_
           refine wp_seq ?_
           have hkl : k < x.b.items.length := by omega
           have wfi := wx.items _ (Inbox.memD Note.Item.zero hkl)
           refine reg ?_
           refine plain (y_ixR rfl Tryd.underlying24 z_size69 rfl rfl (by omega) (by omega) (rd_old hR (by simp)) (by rw [Inbox.ic_len]; omega)) rfl rfl rfl H138 ?_
           clear H138; intro a140 H140
           refine plain (y_loadAS rfl z_agg69 z_size69 rfl (rd_old hR (by simp)) (show _ = Note.Item.cells (x.b.items.getD k Note.Item.zero) from Inbox.ic_take k (by omega)) rfl (by decide)) rfl rfl rfl H140 ?_
           clear H140; intro a141 H141
           refine st_alloc rfl z_zeroN69 rfl rfl rfl H141 ?_
           clear H141; intro b142 a142 wx142 H142
           refine st_storeN rfl z_size69 rfl rfl (agg_cells _) UU (q_one_c4 rfl rfl rfl rfl) q_len_c4 q_len_c4 q_spl_c4_0_c4 (by decide) rfl rfl H142 ?_
           clear H142; intro wx143 H143
           refine fin ?_
           refine then_n ?_
           refine wp_seq ?_
           refine wp_seq ?_
           refine reg ?_
           refine plain (y_loadAB rfl z_agg69 z_size69 rfl MM q_ld_c4_0_4 q_len_c4) rfl rfl rfl H143 ?_
           clear H143; intro a144 H144
           refine plain (y_build rfl z_zeroN69 z_places69 rfl lay_n) rfl rfl rfl H144 ?_
           clear H144; intro a145 H145
           refine plain (y_teql rfl (by kernel_rfl) rfl rfl (eqr_Item (x.b.items.getD k Note.Item.zero) Note.Item.zero)) rfl rfl rfl H145 ?_
           clear H145; intro a146 H146
           refine fin ?_
           refine then_n ?_
           refine cnd H146 rfl (fun hc147 => ?_) (fun hc147 => ?_) -- cond 7
           ·skip
            try simp only [decide_eq_true_eq, decide_eq_false_iff_not, Bool.not_eq_true', Bool.not_eq_false', Bool.and_eq_true, Bool.not_eq_true, Bool.not_eq_false] at hc147
            have hz0 := hc147
            refine wp_seq ?_
            refine reg ?_
            refine plain (y_buildA rfl z_zeroN23 Tryd.underlying23 z_size5 rfl lay_n) rfl rfl rfl H146 ?_
            clear H146; intro a148 H148
            refine st_storeN rfl z_size23 rfl rfl (agg_cells _) UU q_one_b32 (q_len_b32 (by first | assumption | exact Sha.sum_length _)) (q_len_b32 (by first | assumption | exact Sha.sum_length _)) (q_spl_b32_0_b32 (by first | assumption | exact Sha.sum_length _) (by first | assumption | exact Sha.sum_length _)) (by decide) rfl rfl H148 ?_
            clear H148; intro wx149 H149
            refine plain (y_assign rfl rfl) rfl rfl rfl H149 ?_
            clear H149; intro a150 H150
            refine fin ?_
            refine then_n ?_
            refine wp_ret ?_
            refine then_r ?_
            refine inb_r ?_
            refine then_r ?_
            refine then_r ?_
            refine inb_r ?_
            refine then_r ?_
            -- return 6
            refine retct rfl H150 rfl z_agg23 z_size23 MM (q_len_b32 (by first | assumption | exact Sha.sum_length _)) rfl ?_
            first | (have hz := Tree.zero_of hkl hz0; rw [hz]; exact ⟨_, [], rfl, ⟨rfl, rfl⟩, H150.sep.sub (List.nil_sublist _)⟩) | (have hz := Tree.hash_at (b := x.b) hkl hwe; rw [hz]; exact ⟨_, [], rfl, ⟨rfl, rfl⟩, H150.sep.sub (List.nil_sublist _)⟩) | (have hz := Tree.hash_big hob hal hbg; rw [hz]; exact ⟨_, [], rfl, ⟨rfl, rfl⟩, H150.sep.sub (List.nil_sublist _)⟩) | (have hz := Tree.hash_fine hob hal hsm; rw [hz]; exact ⟨_, [], rfl, ⟨rfl, rfl⟩, H150.sep.sub (List.nil_sublist _)⟩) | (have hz := Tree.hash_bad (b := x.b) (by rw [Tree.okBlock_is]; omega); rw [hz]; exact ⟨_, [], rfl, ⟨rfl, rfl⟩, H150.sep.sub (List.nil_sublist _)⟩)
           ·skip
            try simp only [decide_eq_true_eq, decide_eq_false_iff_not, Bool.not_eq_true', Bool.not_eq_false', Bool.and_eq_true, Bool.not_eq_true, Bool.not_eq_false] at hc147
            have hz1 := hc147
            refine wp_skip ?_
            refine then_n ?_
            refine wp_seq ?_
            refine reg ?_
            refine plain (y_loadAB rfl z_agg69 z_size69 rfl MM q_ld_c4_0_4 q_len_c4) rfl rfl rfl H146 ?_
            clear H146; intro a151 H151
            refine st_callg rfl z_call31 rfl rfl rfl rfl H151 (nwitem (x.b.items.getD k Note.Item.zero) wfi _) ?_
            clear H151; intro a152 wx152 H152
            refine plain (y_move rfl rfl) rfl rfl rfl H152 ?_
            clear H152; intro a153 H153
            refine plain (y_extract rfl rfl rfl) rfl rfl rfl H153 ?_
            clear H153; intro a154 H154
            refine plain (y_extract rfl rfl rfl) rfl rfl rfl H154 ?_
            clear H154; intro a155 H155
            refine plain (y_assign rfl rfl) rfl rfl rfl H155 ?_
            clear H155; intro a156 H156
            refine plain (y_assign rfl rfl) rfl rfl rfl H156 ?_
            clear H156; intro a157 H157
            refine fin ?_
            refine then_n ?_
            refine wp_seq ?_
            refine wp_seq ?_
            refine reg ?_
            refine plain (y_move rfl rfl) rfl rfl rfl H157 ?_
            clear H157; intro a158 H158
            refine plain (y_neq rfl rfl rfl) rfl rfl rfl H158 ?_
            clear H158; intro a159 H159
            refine fin ?_
            refine then_n ?_
            refine cnd H159 rfl (fun hc160 => ?_) (fun hc160 => ?_) -- cond 8
            ·skip
             try simp only [decide_eq_true_eq, decide_eq_false_iff_not, Bool.not_eq_true', Bool.not_eq_false', Bool.and_eq_true, Bool.not_eq_true, Bool.not_eq_false] at hc160
             have hwe := hc160
             refine wp_seq ?_
             refine reg ?_
             refine plain (y_buildA rfl z_zeroN23 Tryd.underlying23 z_size5 rfl lay_n) rfl rfl rfl H159 ?_
             clear H159; intro a161 H161
             refine st_storeN rfl z_size23 rfl rfl (agg_cells _) UU q_one_b32 (q_len_b32 (by first | assumption | exact Sha.sum_length _)) (q_len_b32 (by first | assumption | exact Sha.sum_length _)) (q_spl_b32_0_b32 (by first | assumption | exact Sha.sum_length _) (by first | assumption | exact Sha.sum_length _)) (by decide) rfl rfl H161 ?_
             clear H161; intro wx162 H162
             refine plain (y_assign rfl rfl) rfl rfl rfl H162 ?_
             clear H162; intro a163 H163
             refine fin ?_
             refine then_n ?_
             refine wp_ret ?_
             refine then_r ?_
             refine inb_r ?_
             refine then_r ?_
             refine then_r ?_
             refine inb_r ?_
             refine then_r ?_
             -- return 7
             refine retct rfl H163 rfl z_agg23 z_size23 MM (q_len_b32 (by first | assumption | exact Sha.sum_length _)) rfl ?_
             first | (have hz := Tree.zero_of hkl hz0; rw [hz]; exact ⟨_, [], rfl, ⟨rfl, rfl⟩, H163.sep.sub (List.nil_sublist _)⟩) | (have hz := Tree.hash_at (b := x.b) hkl hwe; rw [hz]; exact ⟨_, [], rfl, ⟨rfl, rfl⟩, H163.sep.sub (List.nil_sublist _)⟩) | (have hz := Tree.hash_big hob hal hbg; rw [hz]; exact ⟨_, [], rfl, ⟨rfl, rfl⟩, H163.sep.sub (List.nil_sublist _)⟩) | (have hz := Tree.hash_fine hob hal hsm; rw [hz]; exact ⟨_, [], rfl, ⟨rfl, rfl⟩, H163.sep.sub (List.nil_sublist _)⟩) | (have hz := Tree.hash_bad (b := x.b) (by rw [Tree.okBlock_is]; omega); rw [hz]; exact ⟨_, [], rfl, ⟨rfl, rfl⟩, H163.sep.sub (List.nil_sublist _)⟩)
            ·skip
             try simp only [decide_eq_true_eq, decide_eq_false_iff_not, Bool.not_eq_true', Bool.not_eq_false', Bool.and_eq_true, Bool.not_eq_true, Bool.not_eq_false] at hc160
             have hwo := hc160
             refine wp_skip ?_
             refine then_n ?_
             refine reg ?_
             refine plain (y_move rfl rfl) rfl rfl rfl H159 ?_
             clear H159; intro a164 H164
             refine plain (y_move rfl rfl) rfl rfl rfl H164 ?_
             clear H164; intro a165 H165
             refine st_buildSlice1 (xs := [.tmp 78]) rfl Tryd.underlying67 z_size9 z_zero9 rfl rfl rfl rfl rfl rfl rfl rfl rfl H165 ?_
             clear H165; intro b166 a166 wx166 H166
             refine st_append rfl z_slice67 z_notint67 rfl rfl (fun _ => UU) (fun w hs => Src.slice ((rd_blkA MM) w hs) rfl (by simp [Value.oneCell'])) (by unfold maxLen at *; omega) (by omega) rfl rfl rfl H166 ?_
             clear H166; intro v167 a167 wx167 hnil167 H167
             obtain ⟨ArY, crY, hvrY, hRrY, hmrY⟩ := row_shape (v := v167) H167.sep MM
             subst hvrY
             refine plain (y_assign rfl rfl) rfl rfl rfl H167 ?_
             clear H167; intro a168 H168
             refine fin ?_
             refine inb_n ?_
             refine then_n ?_
             refine reg ?_
             refine plain (y_add rfl rfl rfl (by first | exact w64 (by omega) (by omega) | rfl)) rfl rfl rfl H168 ?_
             clear H168; intro a169 H169
             refine plain (y_move rfl rfl) rfl rfl rfl H169 ?_
             clear H169; intro a170 H170
             refine fin ?_
             refine then_n ?_
             refine ⟨(k + 1, .slice ArY (3 + k + 1) crY), by dsimp only; omega, ⟨by dsimp only; omega, fun j hj => ?_⟩, (H170.drop (List.Sublist.cons _ (List.Sublist.cons _ (List.Sublist.refl _)))).weak ⟨rfl, rfl, rfl, rfl, rfl, rfl, fi rfl (by dsimp only; omega), trivial⟩ (by dsimp only; exact ir2 (by omega) (by rw [Tree.itexts_next hkl, ← List.append_assoc, List.map_append (l₂ := [_])]; rfl) rfl)⟩
             by_cases e : j = k
             ·subst e; exact Decidable.not_not.1 hwo
             ·exact hwr j (by omega)
          ·skip
           try simp only [decide_eq_true_eq, decide_eq_false_iff_not, Bool.not_eq_true', Bool.not_eq_false', Bool.and_eq_true, Bool.not_eq_true, Bool.not_eq_false] at hc139
           refine wp_exit ?_
           refine then_x ?_
           refine then_x ?_
           refine inb_hit ?_
           refine then_n ?_
           refine wp_seq ?_
           have hal : x.b.items.all Note.Item.ok = true := Tree.items_ok (fun j hj => hwr j (by omega))
           have htx : Tree.head3 x.b ++ Tree.itexts x.b.items k = Tree.texts x.b := by rw [Tree.texts_is, show x.b.items.length = k by omega]
           rw [htx] at H138
           refine reg ?_
           refine plain (y_move rfl rfl) rfl rfl rfl H138 ?_
           clear H138; intro a171 H171
           refine st_callg rfl z_call32 rfl rfl rfl rfl H171 (lst (Tree.texts x.b) A1 _ c1 (by rw [← htx, List.length_append, Tree.itexts_len (by omega)]; rfl) (Rd.ofSep (rd_row MM) H171.sep) (by rw [← htx, List.length_append, Tree.itexts_len (by omega)]; show 3 + k ≤ _; omega)) ?_
           clear H171; intro a172 wx172 H172
           refine plain (y_move rfl rfl) rfl rfl rfl H172 ?_
           clear H172; intro a173 H173
           refine plain (y_extract rfl rfl rfl) rfl rfl rfl H173 ?_
           clear H173; intro a174 H174
           refine plain (y_extract rfl rfl rfl) rfl rfl rfl H174 ?_
           clear H174; intro a175 H175
           refine plain (y_assign rfl rfl) rfl rfl rfl H175 ?_
           clear H175; intro a176 H176
           refine plain (y_assign rfl rfl) rfl rfl rfl H176 ?_
           clear H176; intro a177 H177
           refine fin ?_
           refine then_n ?_
           refine wp_seq ?_
           refine wp_seq ?_
           refine reg ?_
           refine plain (y_move rfl rfl) rfl rfl rfl H177 ?_
           clear H177; intro a178 H178
           refine plain (y_neq rfl rfl rfl) rfl rfl rfl H178 ?_
           clear H178; intro a179 H179
           refine fin ?_
           refine then_n ?_
           refine cnd H179 rfl (fun hc180 => ?_) (fun hc180 => ?_) -- cond 9
           ·skip
            try simp only [decide_eq_true_eq, decide_eq_false_iff_not, Bool.not_eq_true', Bool.not_eq_false', Bool.and_eq_true, Bool.not_eq_true, Bool.not_eq_false] at hc180
            have hbg := hc180
            refine wp_seq ?_
            refine reg ?_
            refine plain (y_buildA rfl z_zeroN23 Tryd.underlying23 z_size5 rfl lay_n) rfl rfl rfl H179 ?_
            clear H179; intro a181 H181
            refine st_storeN rfl z_size23 rfl rfl (agg_cells _) UU q_one_b32 (q_len_b32 (by first | assumption | exact Sha.sum_length _)) (q_len_b32 (by first | assumption | exact Sha.sum_length _)) (q_spl_b32_0_b32 (by first | assumption | exact Sha.sum_length _) (by first | assumption | exact Sha.sum_length _)) (by decide) rfl rfl H181 ?_
            clear H181; intro wx182 H182
            refine plain (y_assign rfl rfl) rfl rfl rfl H182 ?_
            clear H182; intro a183 H183
            refine fin ?_
            refine then_n ?_
            refine wp_ret ?_
            refine then_r ?_
            -- return 8
            refine retct rfl H183 rfl z_agg23 z_size23 MM (q_len_b32 (by first | assumption | exact Sha.sum_length _)) rfl ?_
            first | (have hz := Tree.zero_of hkl hz0; rw [hz]; exact ⟨_, [], rfl, ⟨rfl, rfl⟩, H183.sep.sub (List.nil_sublist _)⟩) | (have hz := Tree.hash_at (b := x.b) hkl hwe; rw [hz]; exact ⟨_, [], rfl, ⟨rfl, rfl⟩, H183.sep.sub (List.nil_sublist _)⟩) | (have hz := Tree.hash_big hob hal hbg; rw [hz]; exact ⟨_, [], rfl, ⟨rfl, rfl⟩, H183.sep.sub (List.nil_sublist _)⟩) | (have hz := Tree.hash_fine hob hal hsm; rw [hz]; exact ⟨_, [], rfl, ⟨rfl, rfl⟩, H183.sep.sub (List.nil_sublist _)⟩) | (have hz := Tree.hash_bad (b := x.b) (by rw [Tree.okBlock_is]; omega); rw [hz]; exact ⟨_, [], rfl, ⟨rfl, rfl⟩, H183.sep.sub (List.nil_sublist _)⟩)
           ·skip
            try simp only [decide_eq_true_eq, decide_eq_false_iff_not, Bool.not_eq_true', Bool.not_eq_false', Bool.and_eq_true, Bool.not_eq_true, Bool.not_eq_false] at hc180
            have hsm := Decidable.not_not.1 hc180
            refine wp_skip ?_
            refine then_n ?_
            refine wp_seq ?_
            refine reg ?_
            refine plain (y_move rfl rfl) rfl rfl rfl H179 ?_
            clear H179; intro a184 H184
            refine st_callg rfl z_call33 rfl rfl rfl rfl H184 (dsum (Oct.list (Tree.texts x.b)).1 (by have := Oct.list_len (l := Tree.texts x.b); omega) (hG.frm H184.sep.frm (by simp))) ?_
            clear H184; intro a185 wx185 H185
            refine st_storeN rfl z_size23 rfl rfl (agg_cells _) UU q_one_b32 (q_len_b32 (by first | assumption | exact Sha.sum_length _)) (q_len_b32 (by first | assumption | exact Sha.sum_length _)) (q_spl_b32_0_b32 (by first | assumption | exact Sha.sum_length _) (by first | assumption | exact Sha.sum_length _)) (by decide) rfl rfl H185 ?_
            clear H185; intro wx186 H186
            refine plain (y_assign rfl rfl) rfl rfl rfl H186 ?_
            clear H186; intro a187 H187
            refine fin ?_
            refine then_n ?_
            refine wp_ret ?_
            -- return 9
            refine retct rfl H187 rfl z_agg23 z_size23 MM (q_len_b32 (by first | assumption | exact Sha.sum_length _)) rfl ?_
            first | (have hz := Tree.zero_of hkl hz0; rw [hz]; exact ⟨_, [], rfl, ⟨rfl, rfl⟩, H187.sep.sub (List.nil_sublist _)⟩) | (have hz := Tree.hash_at (b := x.b) hkl hwe; rw [hz]; exact ⟨_, [], rfl, ⟨rfl, rfl⟩, H187.sep.sub (List.nil_sublist _)⟩) | (have hz := Tree.hash_big hob hal hbg; rw [hz]; exact ⟨_, [], rfl, ⟨rfl, rfl⟩, H187.sep.sub (List.nil_sublist _)⟩) | (have hz := Tree.hash_fine hob hal hsm; rw [hz]; exact ⟨_, [], rfl, ⟨rfl, rfl⟩, H187.sep.sub (List.nil_sublist _)⟩) | (have hz := Tree.hash_bad (b := x.b) (by rw [Tree.okBlock_is]; omega); rw [hz]; exact ⟨_, [], rfl, ⟨rfl, rfl⟩, H187.sep.sub (List.nil_sublist _)⟩)
set_option maxRecDepth 100000 in
set_option maxHeartbeats 4000000 in
theorem rthash (x : Inbox.BA) (wx : Tree.W0 x) (hl : x.b.items.length ≤ 9223372036854775807) {w : World} (hR : Rd w x.A (Inbox.ic x.b.items))  : Calls Tryd.prog 10 #[.agg (Inbox.BA.cells x).toArray] w (Gives (.tuple #[.agg ((Tree.hash x.b).1.map u8).toArray, .int .i64 (Tree.hash x.b).2]) [] w) := by
 have hpl := wx.parent
 have hnu := wx.number
 have hsa := wx.salt
 unfold Note.I64 at hnu hsa
 have hZl : Note.Z.length = 32 := Note.Z_len
 have lz32 : (List.replicate 32 (0 : UInt8)).length = 32 := List.length_replicate
 have lz0 := wx.parent
 refine enterL (args := [.agg (Inbox.BA.cells x).toArray]) Tryd.func10 rfl rfl (l := []) (Sep.refl _) ?_
 intro a0 H0
 refine wp_seq ?_
 refine reg ?_
 refine st_box rfl rfl (agg_cells _) rfl rfl rfl H0 ?_
 clear H0; intro b1 a1 wx1 H1
 refine st_alloc rfl z_zeroN23 rfl rfl rfl H1 ?_
 clear H1; intro b2 a2 wx2 H2
 refine plain (y_assign rfl rfl) rfl rfl rfl H2 ?_
 clear H2; intro a3 H3
 refine fin ?_
 refine then_n ?_
 refine wp_seq ?_
 refine wp_seq ?_
 refine reg ?_
 refine plain (y_fieldB rfl z_field26_0 rfl (by first | (simp only [Nat.zero_add, Nat.add_zero, Nat.reduceAdd]; rfl) | rfl)) rfl rfl rfl H3 ?_
 clear H3; intro a4 H4
 refine plain (y_loadB rfl z_agg3 rfl MM q_ix_c2b32c1_0) rfl rfl rfl H4 ?_
 clear H4; intro a5 H5
 refine plain (y_lss rfl rfl rfl) rfl rfl rfl H5 ?_
 clear H5; intro a6 H6
 refine plain (y_move rfl rfl) rfl rfl rfl H6 ?_
 clear H6; intro a7 H7
 refine Sx.part (d := 17) H7 rfl (fun hg8 => ?_) (fun hg8 => ?_)
 ·first
  |fail
  |skip
   clear H7; intro H9
   try simp only [decide_eq_true_eq, decide_eq_false_iff_not, Bool.not_eq_true', Bool.not_eq_false', Bool.and_eq_true, Bool.not_eq_true, Bool.not_eq_false] at hg8
   refine skip rfl rfl rfl H9 ?_
   clear H9; intro a10 H10
   refine skip rfl rfl rfl H10 ?_
   clear H10; intro a11 H11
   refine skip rfl rfl rfl H11 ?_
   clear H11; intro a12 H12
   refine plain (y_pick_t rfl rfl rfl) rfl rfl rfl H12 ?_
   clear H12; intro a13 H13
   refine plain (y_move rfl rfl) rfl rfl rfl H13 ?_
   clear H13; intro a14 H14
   refine skip rfl rfl rfl H14 ?_
   clear H14; intro a15 H15
   refine skip rfl rfl rfl H15 ?_
   clear H15; intro a16 H16
   refine skip rfl rfl rfl H16 ?_
   clear H16; intro a17 H17
   refine plain (y_pick_t rfl rfl rfl) rfl rfl rfl H17 ?_
   clear H17; intro a18 H18
   refine plain (y_move rfl rfl) rfl rfl rfl H18 ?_
   clear H18; intro a19 H19
   refine skip rfl rfl rfl H19 ?_
   clear H19; intro a20 H20
   refine skip rfl rfl rfl H20 ?_
   clear H20; intro a21 H21
   refine skip rfl rfl rfl H21 ?_
   clear H21; intro a22 H22
   refine plain (y_pick_t rfl rfl rfl) rfl rfl rfl H22 ?_
   clear H22; intro a23 H23
   refine plain (y_move rfl rfl) rfl rfl rfl H23 ?_
   clear H23; intro a24 H24
   refine skip rfl rfl rfl H24 ?_
   clear H24; intro a25 H25
   refine skip rfl rfl rfl H25 ?_
   clear H25; intro a26 H26
   refine skip rfl rfl rfl H26 ?_
   clear H26; intro a27 H27
   refine skip rfl rfl rfl H27 ?_
   clear H27; intro a28 H28
   refine plain (y_pick_t rfl rfl rfl) rfl rfl rfl H28 ?_
   clear H28; intro a29 H29
   refine fin ?_
   refine then_n ?_
   refine cnd_t H29 rfl ?_
   refine wp_seq ?_
   refine reg ?_
   refine plain (y_buildA rfl z_zeroN23 Tryd.underlying23 z_size5 rfl lay_n) rfl rfl rfl H29 ?_
   clear H29; intro a31 H31
   refine st_storeN rfl z_size23 rfl rfl (agg_cells _) UU q_one_b32 (q_len_b32 (by first | assumption | exact Sha.sum_length _)) (q_len_b32 (by first | assumption | exact Sha.sum_length _)) (q_spl_b32_0_b32 (by first | assumption | exact Sha.sum_length _) (by first | assumption | exact Sha.sum_length _)) (by decide) rfl rfl H31 ?_
   clear H31; intro wx32 H32
   refine plain (y_assign rfl rfl) rfl rfl rfl H32 ?_
   clear H32; intro a33 H33
   refine fin ?_
   refine then_n ?_
   refine wp_ret ?_
   refine then_r ?_
   -- return 1
   refine retct rfl H33 rfl z_agg23 z_size23 MM (q_len_b32 (by first | assumption | exact Sha.sum_length _)) rfl ?_
   first | (have hz := Tree.hash_at (b := x.b) hkl hwe; rw [hz]; exact ⟨_, [], rfl, ⟨rfl, rfl⟩, H33.sep.sub (List.nil_sublist _)⟩) | (have hz := Tree.hash_big hob hal hbg; rw [hz]; exact ⟨_, [], rfl, ⟨rfl, rfl⟩, H33.sep.sub (List.nil_sublist _)⟩) | (have hz := Tree.hash_fine hob hal hsm; rw [hz]; exact ⟨_, [], rfl, ⟨rfl, rfl⟩, H33.sep.sub (List.nil_sublist _)⟩) | (have hz := Tree.hash_bad (b := x.b) (by rw [Tree.okBlock_is]; omega); rw [hz]; exact ⟨_, [], rfl, ⟨rfl, rfl⟩, H33.sep.sub (List.nil_sublist _)⟩)
 ·first
  |fail
  |skip
   clear H7; intro H34
   try simp only [decide_eq_true_eq, decide_eq_false_iff_not, Bool.not_eq_true', Bool.not_eq_false', Bool.and_eq_true, Bool.not_eq_true, Bool.not_eq_false] at hg8
   refine plain (y_fieldB rfl z_field26_0 rfl (by first | (simp only [Nat.zero_add, Nat.add_zero, Nat.reduceAdd]; rfl) | rfl)) rfl rfl rfl H34 ?_
   clear H34; intro a35 H35
   refine plain (y_loadB rfl z_agg3 rfl MM q_ix_c2b32c1_0) rfl rfl rfl H35 ?_
   clear H35; intro a36 H36
   refine plain (y_gtr rfl rfl rfl) rfl rfl rfl H36 ?_
   clear H36; intro a37 H37
   refine plain (y_pick_f rfl rfl rfl) rfl rfl rfl H37 ?_
   clear H37; intro a38 H38
   refine plain (y_move rfl rfl) rfl rfl rfl H38 ?_
   clear H38; intro a39 H39
   refine Sx.part (d := 22) H39 rfl (fun hg40 => ?_) (fun hg40 => ?_)
   ·first
    |fail
    |skip
     clear H39; intro H41
     try simp only [decide_eq_true_eq, decide_eq_false_iff_not, Bool.not_eq_true', Bool.not_eq_false', Bool.and_eq_true, Bool.not_eq_true, Bool.not_eq_false] at hg40
     refine skip rfl rfl rfl H41 ?_
     clear H41; intro a42 H42
     refine skip rfl rfl rfl H42 ?_
     clear H42; intro a43 H43
     refine skip rfl rfl rfl H43 ?_
     clear H43; intro a44 H44
     refine plain (y_pick_t rfl rfl rfl) rfl rfl rfl H44 ?_
     clear H44; intro a45 H45
     refine plain (y_move rfl rfl) rfl rfl rfl H45 ?_
     clear H45; intro a46 H46
     refine skip rfl rfl rfl H46 ?_
     clear H46; intro a47 H47
     refine skip rfl rfl rfl H47 ?_
     clear H47; intro a48 H48
     refine skip rfl rfl rfl H48 ?_
     clear H48; intro a49 H49
     refine plain (y_pick_t rfl rfl rfl) rfl rfl rfl H49 ?_
     clear H49; intro a50 H50
     refine plain (y_move rfl rfl) rfl rfl rfl H50 ?_
     clear H50; intro a51 H51
     refine skip rfl rfl rfl H51 ?_
     clear H51; intro a52 H52
     refine skip rfl rfl rfl H52 ?_
     clear H52; intro a53 H53
     refine skip rfl rfl rfl H53 ?_
     clear H53; intro a54 H54
     refine skip rfl rfl rfl H54 ?_
     clear H54; intro a55 H55
     refine plain (y_pick_t rfl rfl rfl) rfl rfl rfl H55 ?_
     clear H55; intro a56 H56
     refine fin ?_
     refine then_n ?_
     refine cnd_t H56 rfl ?_
     refine wp_seq ?_
     refine reg ?_
     refine plain (y_buildA rfl z_zeroN23 Tryd.underlying23 z_size5 rfl lay_n) rfl rfl rfl H56 ?_
     clear H56; intro a58 H58
     refine st_storeN rfl z_size23 rfl rfl (agg_cells _) UU q_one_b32 (q_len_b32 (by first | assumption | exact Sha.sum_length _)) (q_len_b32 (by first | assumption | exact Sha.sum_length _)) (q_spl_b32_0_b32 (by first | assumption | exact Sha.sum_length _) (by first | assumption | exact Sha.sum_length _)) (by decide) rfl rfl H58 ?_
     clear H58; intro wx59 H59
     refine plain (y_assign rfl rfl) rfl rfl rfl H59 ?_
     clear H59; intro a60 H60
     refine fin ?_
     refine then_n ?_
     refine wp_ret ?_
     refine then_r ?_
     -- return 2
     refine retct rfl H60 rfl z_agg23 z_size23 MM (q_len_b32 (by first | assumption | exact Sha.sum_length _)) rfl ?_
     first | (have hz := Tree.hash_at (b := x.b) hkl hwe; rw [hz]; exact ⟨_, [], rfl, ⟨rfl, rfl⟩, H60.sep.sub (List.nil_sublist _)⟩) | (have hz := Tree.hash_big hob hal hbg; rw [hz]; exact ⟨_, [], rfl, ⟨rfl, rfl⟩, H60.sep.sub (List.nil_sublist _)⟩) | (have hz := Tree.hash_fine hob hal hsm; rw [hz]; exact ⟨_, [], rfl, ⟨rfl, rfl⟩, H60.sep.sub (List.nil_sublist _)⟩) | (have hz := Tree.hash_bad (b := x.b) (by rw [Tree.okBlock_is]; omega); rw [hz]; exact ⟨_, [], rfl, ⟨rfl, rfl⟩, H60.sep.sub (List.nil_sublist _)⟩)
   ·first
    |fail
    |skip
     clear H39; intro H61
     try simp only [decide_eq_true_eq, decide_eq_false_iff_not, Bool.not_eq_true', Bool.not_eq_false', Bool.and_eq_true, Bool.not_eq_true, Bool.not_eq_false] at hg40
     refine plain (y_fieldB rfl z_field26_1 rfl (by first | (simp only [Nat.zero_add, Nat.add_zero, Nat.reduceAdd]; rfl) | rfl)) rfl rfl rfl H61 ?_
     clear H61; intro a62 H62
     refine plain (y_loadB rfl z_agg3 rfl MM q_ix_c2b32c1_1) rfl rfl rfl H62 ?_
     clear H62; intro a63 H63
     refine plain (y_lss rfl rfl rfl) rfl rfl rfl H63 ?_
     clear H63; intro a64 H64
     refine plain (y_pick_f rfl rfl rfl) rfl rfl rfl H64 ?_
     clear H64; intro a65 H65
     refine plain (y_move rfl rfl) rfl rfl rfl H65 ?_
     clear H65; intro a66 H66
     refine Sx.part (d := 27) H66 rfl (fun hg67 => ?_) (fun hg67 => ?_)
     ·first
      |fail
      |skip
       clear H66; intro H68
       try simp only [decide_eq_true_eq, decide_eq_false_iff_not, Bool.not_eq_true', Bool.not_eq_false', Bool.and_eq_true, Bool.not_eq_true, Bool.not_eq_false] at hg67
       refine skip rfl rfl rfl H68 ?_
       clear H68; intro a69 H69
       refine skip rfl rfl rfl H69 ?_
       clear H69; intro a70 H70
       refine skip rfl rfl rfl H70 ?_
       clear H70; intro a71 H71
       refine plain (y_pick_t rfl rfl rfl) rfl rfl rfl H71 ?_
       clear H71; intro a72 H72
       refine plain (y_move rfl rfl) rfl rfl rfl H72 ?_
       clear H72; intro a73 H73
       refine skip rfl rfl rfl H73 ?_
       clear H73; intro a74 H74
       refine skip rfl rfl rfl H74 ?_
       clear H74; intro a75 H75
       refine skip rfl rfl rfl H75 ?_
       clear H75; intro a76 H76
       refine skip rfl rfl rfl H76 ?_
       clear H76; intro a77 H77
       refine plain (y_pick_t rfl rfl rfl) rfl rfl rfl H77 ?_
       clear H77; intro a78 H78
       refine fin ?_
       refine then_n ?_
       refine cnd_t H78 rfl ?_
       refine wp_seq ?_
       refine reg ?_
       refine plain (y_buildA rfl z_zeroN23 Tryd.underlying23 z_size5 rfl lay_n) rfl rfl rfl H78 ?_
       clear H78; intro a80 H80
       refine st_storeN rfl z_size23 rfl rfl (agg_cells _) UU q_one_b32 (q_len_b32 (by first | assumption | exact Sha.sum_length _)) (q_len_b32 (by first | assumption | exact Sha.sum_length _)) (q_spl_b32_0_b32 (by first | assumption | exact Sha.sum_length _) (by first | assumption | exact Sha.sum_length _)) (by decide) rfl rfl H80 ?_
       clear H80; intro wx81 H81
       refine plain (y_assign rfl rfl) rfl rfl rfl H81 ?_
       clear H81; intro a82 H82
       refine fin ?_
       refine then_n ?_
       refine wp_ret ?_
       refine then_r ?_
       -- return 3
       refine retct rfl H82 rfl z_agg23 z_size23 MM (q_len_b32 (by first | assumption | exact Sha.sum_length _)) rfl ?_
       first | (have hz := Tree.hash_at (b := x.b) hkl hwe; rw [hz]; exact ⟨_, [], rfl, ⟨rfl, rfl⟩, H82.sep.sub (List.nil_sublist _)⟩) | (have hz := Tree.hash_big hob hal hbg; rw [hz]; exact ⟨_, [], rfl, ⟨rfl, rfl⟩, H82.sep.sub (List.nil_sublist _)⟩) | (have hz := Tree.hash_fine hob hal hsm; rw [hz]; exact ⟨_, [], rfl, ⟨rfl, rfl⟩, H82.sep.sub (List.nil_sublist _)⟩) | (have hz := Tree.hash_bad (b := x.b) (by rw [Tree.okBlock_is]; omega); rw [hz]; exact ⟨_, [], rfl, ⟨rfl, rfl⟩, H82.sep.sub (List.nil_sublist _)⟩)
     ·first
      |fail
      |skip
       clear H66; intro H83
       try simp only [decide_eq_true_eq, decide_eq_false_iff_not, Bool.not_eq_true', Bool.not_eq_false', Bool.and_eq_true, Bool.not_eq_true, Bool.not_eq_false] at hg67
       refine plain (y_fieldB rfl z_field26_1 rfl (by first | (simp only [Nat.zero_add, Nat.add_zero, Nat.reduceAdd]; rfl) | rfl)) rfl rfl rfl H83 ?_
       clear H83; intro a84 H84
       refine plain (y_loadB rfl z_agg3 rfl MM q_ix_c2b32c1_1) rfl rfl rfl H84 ?_
       clear H84; intro a85 H85
       refine plain (y_gtr rfl rfl rfl) rfl rfl rfl H85 ?_
       clear H85; intro a86 H86
       refine plain (y_pick_f rfl rfl rfl) rfl rfl rfl H86 ?_
       clear H86; intro a87 H87
       refine plain (y_move rfl rfl) rfl rfl rfl H87 ?_
       clear H87; intro a88 H88
       refine Sx.part (d := 32) H88 rfl (fun hg89 => ?_) (fun hg89 => ?_)
       ·first
        |fail
        |skip
         clear H88; intro H90
         try simp only [decide_eq_true_eq, decide_eq_false_iff_not, Bool.not_eq_true', Bool.not_eq_false', Bool.and_eq_true, Bool.not_eq_true, Bool.not_eq_false] at hg89
         refine skip rfl rfl rfl H90 ?_
         clear H90; intro a91 H91
         refine skip rfl rfl rfl H91 ?_
         clear H91; intro a92 H92
         refine skip rfl rfl rfl H92 ?_
         clear H92; intro a93 H93
         refine skip rfl rfl rfl H93 ?_
         clear H93; intro a94 H94
         refine plain (y_pick_t rfl rfl rfl) rfl rfl rfl H94 ?_
         clear H94; intro a95 H95
         refine fin ?_
         refine then_n ?_
         refine cnd_t H95 rfl ?_
         refine wp_seq ?_
         refine reg ?_
         refine plain (y_buildA rfl z_zeroN23 Tryd.underlying23 z_size5 rfl lay_n) rfl rfl rfl H95 ?_
         clear H95; intro a97 H97
         refine st_storeN rfl z_size23 rfl rfl (agg_cells _) UU q_one_b32 (q_len_b32 (by first | assumption | exact Sha.sum_length _)) (q_len_b32 (by first | assumption | exact Sha.sum_length _)) (q_spl_b32_0_b32 (by first | assumption | exact Sha.sum_length _) (by first | assumption | exact Sha.sum_length _)) (by decide) rfl rfl H97 ?_
         clear H97; intro wx98 H98
         refine plain (y_assign rfl rfl) rfl rfl rfl H98 ?_
         clear H98; intro a99 H99
         refine fin ?_
         refine then_n ?_
         refine wp_ret ?_
         refine then_r ?_
         -- return 4
         refine retct rfl H99 rfl z_agg23 z_size23 MM (q_len_b32 (by first | assumption | exact Sha.sum_length _)) rfl ?_
         first | (have hz := Tree.hash_at (b := x.b) hkl hwe; rw [hz]; exact ⟨_, [], rfl, ⟨rfl, rfl⟩, H99.sep.sub (List.nil_sublist _)⟩) | (have hz := Tree.hash_big hob hal hbg; rw [hz]; exact ⟨_, [], rfl, ⟨rfl, rfl⟩, H99.sep.sub (List.nil_sublist _)⟩) | (have hz := Tree.hash_fine hob hal hsm; rw [hz]; exact ⟨_, [], rfl, ⟨rfl, rfl⟩, H99.sep.sub (List.nil_sublist _)⟩) | (have hz := Tree.hash_bad (b := x.b) (by rw [Tree.okBlock_is]; omega); rw [hz]; exact ⟨_, [], rfl, ⟨rfl, rfl⟩, H99.sep.sub (List.nil_sublist _)⟩)
       ·first
        |fail
        |skip
         clear H88; intro H100
         try simp only [decide_eq_true_eq, decide_eq_false_iff_not, Bool.not_eq_true', Bool.not_eq_false', Bool.and_eq_true, Bool.not_eq_true, Bool.not_eq_false] at hg89
         refine plain (y_fieldB rfl z_field26_3 rfl (by first | (simp only [Nat.zero_add, Nat.add_zero, Nat.reduceAdd]; rfl) | rfl)) rfl rfl rfl H100 ?_
         clear H100; intro a101 H101
         refine plain (y_loadB rfl z_agg24 rfl MM (q_ix_c2b32c1_34 (by first | assumption | exact Sha.sum_length _))) rfl rfl rfl H101 ?_
         clear H101; intro a102 H102
         refine plain (y_len rfl Tryd.underlying24 rfl) rfl rfl rfl H102 ?_
         clear H102; intro a103 H103
         refine plain (y_gtr rfl rfl rfl) rfl rfl rfl H103 ?_
         clear H103; intro a104 H104
         refine plain (y_pick_f rfl rfl rfl) rfl rfl rfl H104 ?_
         clear H104; intro a105 H105
         refine fin ?_
         refine then_n ?_
         refine cnd H105 rfl (fun hc106 => ?_) (fun hc106 => ?_) -- cond 5
         ·skip
          try simp only [decide_eq_true_eq, decide_eq_false_iff_not, Bool.not_eq_true', Bool.not_eq_false', Bool.and_eq_true, Bool.not_eq_true, Bool.not_eq_false] at hc106
          refine wp_seq ?_
          refine reg ?_
          refine plain (y_buildA rfl z_zeroN23 Tryd.underlying23 z_size5 rfl lay_n) rfl rfl rfl H105 ?_
          clear H105; intro a107 H107
          refine st_storeN rfl z_size23 rfl rfl (agg_cells _) UU q_one_b32 (q_len_b32 (by first | assumption | exact Sha.sum_length _)) (q_len_b32 (by first | assumption | exact Sha.sum_length _)) (q_spl_b32_0_b32 (by first | assumption | exact Sha.sum_length _) (by first | assumption | exact Sha.sum_length _)) (by decide) rfl rfl H107 ?_
          clear H107; intro wx108 H108
          refine plain (y_assign rfl rfl) rfl rfl rfl H108 ?_
          clear H108; intro a109 H109
          refine fin ?_
          refine then_n ?_
          refine wp_ret ?_
          refine then_r ?_
          -- return 5
          refine retct rfl H109 rfl z_agg23 z_size23 MM (q_len_b32 (by first | assumption | exact Sha.sum_length _)) rfl ?_
          first | (have hz := Tree.hash_at (b := x.b) hkl hwe; rw [hz]; exact ⟨_, [], rfl, ⟨rfl, rfl⟩, H109.sep.sub (List.nil_sublist _)⟩) | (have hz := Tree.hash_big hob hal hbg; rw [hz]; exact ⟨_, [], rfl, ⟨rfl, rfl⟩, H109.sep.sub (List.nil_sublist _)⟩) | (have hz := Tree.hash_fine hob hal hsm; rw [hz]; exact ⟨_, [], rfl, ⟨rfl, rfl⟩, H109.sep.sub (List.nil_sublist _)⟩) | (have hz := Tree.hash_bad (b := x.b) (by rw [Tree.okBlock_is]; omega); rw [hz]; exact ⟨_, [], rfl, ⟨rfl, rfl⟩, H109.sep.sub (List.nil_sublist _)⟩)
         ·skip
          try simp only [decide_eq_true_eq, decide_eq_false_iff_not, Bool.not_eq_true', Bool.not_eq_false', Bool.and_eq_true, Bool.not_eq_true, Bool.not_eq_false] at hc106
          refine wp_skip ?_
          refine then_n ?_
          refine wp_seq ?_
          have hob : Tree.okBlock x.b = true := by rw [Tree.okBlock_is]; omega
          refine reg ?_
          refine plain (y_fieldB rfl z_field26_0 rfl (by first | (simp only [Nat.zero_add, Nat.add_zero, Nat.reduceAdd]; rfl) | rfl)) rfl rfl rfl H105 ?_
          clear H105; intro a110 H110
          refine plain (y_loadB rfl z_agg3 rfl MM q_ix_c2b32c1_0) rfl rfl rfl H110 ?_
          clear H110; intro a111 H111
          refine st_callg rfl z_call34 rfl rfl rfl rfl H111 (numR x.b.number (by omega) _) ?_
          clear H111; intro a112 wx112 H112
          refine plain (y_move rfl rfl) rfl rfl rfl H112 ?_
          clear H112; intro a113 H113
          refine plain (y_extract rfl rfl rfl) rfl rfl rfl H113 ?_
          clear H113; intro a114 H114
          refine plain (y_extract rfl rfl rfl) rfl rfl rfl H114 ?_
          clear H114; intro a115 H115
          refine plain (y_assign rfl rfl) rfl rfl rfl H115 ?_
          clear H115; intro a116 H116
          refine plain (y_assign rfl rfl) rfl rfl rfl H116 ?_
          clear H116; intro a117 H117
          refine fin ?_
          refine then_n ?_
          refine wp_seq ?_
          refine reg ?_
          refine plain (y_fieldB rfl z_field26_1 rfl (by first | (simp only [Nat.zero_add, Nat.add_zero, Nat.reduceAdd]; rfl) | rfl)) rfl rfl rfl H117 ?_
          clear H117; intro a118 H118
          refine plain (y_loadB rfl z_agg3 rfl MM q_ix_c2b32c1_1) rfl rfl rfl H118 ?_
          clear H118; intro a119 H119
          refine st_callg rfl z_call34 rfl rfl rfl rfl H119 (numR x.b.salt (by omega) _) ?_
          clear H119; intro a120 wx120 H120
          refine plain (y_move rfl rfl) rfl rfl rfl H120 ?_
          clear H120; intro a121 H121
          refine plain (y_extract rfl rfl rfl) rfl rfl rfl H121 ?_
          clear H121; intro a122 H122
          refine plain (y_extract rfl rfl rfl) rfl rfl rfl H122 ?_
          clear H122; intro a123 H123
          refine plain (y_assign rfl rfl) rfl rfl rfl H123 ?_
          clear H123; intro a124 H124
          refine plain (y_assign rfl rfl) rfl rfl rfl H124 ?_
          clear H124; intro a125 H125
          refine fin ?_
          refine then_n ?_
          refine wp_seq ?_
          refine reg ?_
          refine plain (y_move rfl rfl) rfl rfl rfl H125 ?_
          clear H125; intro a126 H126
          refine plain (y_move rfl rfl) rfl rfl rfl H126 ?_
          clear H126; intro a127 H127
          refine plain (y_fieldB rfl z_field26_2 rfl (by first | (simp only [Nat.zero_add, Nat.add_zero, Nat.reduceAdd]; rfl) | rfl)) rfl rfl rfl H127 ?_
          clear H127; intro a128 H128
          refine plain (y_loadAB rfl z_agg23 z_size23 rfl MM (q_ld_c2b32c1_2_32 (by first | assumption | exact Sha.sum_length _)) (q_len_b32 (by first | assumption | exact Sha.sum_length _))) rfl rfl rfl H128 ?_
          clear H128; intro a129 H129
          refine st_callg rfl z_call35 rfl rfl rfl rfl H129 (rbytes x.b.parent hpl _) ?_
          clear H129; intro a130 wx130 H130
          refine st_buildSlice1 (xs := [.tmp 51, .tmp 52, .tmp 55]) rfl Tryd.underlying67 z_size9 z_zero9 rfl rfl rfl rfl rfl rfl rfl rfl rfl H130 ?_
          clear H130; intro b131 a131 wx131 H131
          refine plain (y_assign rfl rfl) rfl rfl rfl H131 ?_
          clear H131; intro a132 H132
          refine fin ?_
          refine then_n ?_
          refine wp_seq ?_
          refine wp_seq ?_
          refine reg ?_
          refine plain (y_assign rfl rfl) rfl rfl rfl H132 ?_
          clear H132; intro a133 H133
          refine fin ?_
          refine then_n ?_
          refine wp_block ?_
          replace H133 := H133.asRow (b := b131) (size := 1) (m := 3) UU rfl (by unfold maxLen; omega)
          refine loop (ι := Nat × Value) (fun y => [(1, .pointer (some ⟨b1, 0, none⟩)), (2, .pointer (some ⟨b2, 0, none⟩)), (3, .int .i64 0), (8, y.2), (9, .int .i64 (y.1 : Int))]) (fun y => [It.row 9 1 y.2 (3 + y.1) ((Tree.head3 x.b ++ Tree.itexts x.b.items y.1).map str), It.blk b2 23 ((List.replicate 32 (0 : UInt8)).map u8), It.blk b1 26 (Inbox.BA.cells x)]) (fun y => y.1 ≤ x.b.items.length ∧ ∀ j, j < y.1 → (Note.writeItem (x.b.items.getD j Note.Item.zero)).2 = 0) (fun y => x.b.items.length - y.1) ((0, .slice (some ⟨b131, 0, none⟩) 3 3)) ⟨Nat.zero_le _, fun j hj => absurd hj (by omega)⟩ (H133.weak ⟨rfl, rfl, rfl, rfl, rfl, trivial⟩ rfl) ?_
          clear H133; intro y a134 wx134 hok134 H134
          obtain ⟨k, v⟩ := y
          dsimp only at hok134 H134
          obtain ⟨hok, hwr⟩ := hok134
          obtain ⟨A1, c1, rfl, hR1, hm1⟩ := row_shape (v := v) H134.sep MM
          refine wp_seq ?_
          refine wp_seq ?_
          refine reg ?_
          refine plain (y_move rfl rfl) rfl rfl rfl H134 ?_
          clear H134; intro a135 H135
          refine plain (y_fieldB rfl z_field26_3 rfl (by first | (simp only [Nat.zero_add, Nat.add_zero, Nat.reduceAdd]; rfl) | rfl)) rfl rfl rfl H135 ?_
          clear H135; intro a136 H136
          refine plain (y_loadB rfl z_agg24 rfl MM (q_ix_c2b32c1_34 (by first | assumption | exact Sha.sum_length _))) rfl rfl rfl H136 ?_
          clear H136; intro a137 H137
          refine plain (y_len rfl Tryd.underlying24 rfl) rfl rfl rfl H137 ?_
          clear H137; intro a138 H138
          refine plain (y_lss rfl rfl rfl) rfl rfl rfl H138 ?_
          clear H138; intro a139 H139
          refine fin ?_
          refine then_n ?_
          refine cnd H139 rfl (fun hc140 => ?_) (fun hc140 => ?_) -- cond 6
          ·skip
           try simp only [decide_eq_true_eq, decide_eq_false_iff_not, Bool.not_eq_true', Bool.not_eq_false', Bool.and_eq_true, Bool.not_eq_true, Bool.not_eq_false] at hc140
           refine wp_skip ?_
           refine then_n ?_
           refine wp_seq ?_
           refine wp_block ?_
           refine wp_seq ?_
           have hkl : k < x.b.items.length := by omega
           have wfi := wx.items _ (Inbox.memD Note.Item.zero hkl)
           refine reg ?_
           refine plain (y_fieldB rfl z_field26_3 rfl (by first | (simp only [Nat.zero_add, Nat.add_zero, Nat.reduceAdd]; rfl) | rfl)) rfl rfl rfl H139 ?_
           clear H139; intro a141 H141
           refine plain (y_loadB rfl z_agg24 rfl MM (q_ix_c2b32c1_34 (by first | assumption | exact Sha.sum_length _))) rfl rfl rfl H141 ?_
           clear H141; intro a142 H142
           refine plain (y_move rfl rfl) rfl rfl rfl H142 ?_
           clear H142; intro a143 H143
           refine plain (y_ixR rfl Tryd.underlying24 z_size69 rfl rfl (by omega) (by omega) (rd_old hR (by simp)) (by rw [Inbox.ic_len]; omega)) rfl rfl rfl H143 ?_
           clear H143; intro a144 H144
           refine plain (y_loadAS rfl z_agg69 z_size69 rfl (rd_old hR (by simp)) (show _ = Note.Item.cells (x.b.items.getD k Note.Item.zero) from Inbox.ic_take k (by omega)) rfl (by decide)) rfl rfl rfl H144 ?_
           clear H144; intro a145 H145
           refine st_callg rfl z_call36 rfl rfl rfl rfl H145 (rwitem (x.b.items.getD k Note.Item.zero) wfi _) ?_
           clear H145; intro a146 wx146 H146
           refine plain (y_move rfl rfl) rfl rfl rfl H146 ?_
           clear H146; intro a147 H147
           refine plain (y_extract rfl rfl rfl) rfl rfl rfl H147 ?_
           clear H147; intro a148 H148
           refine plain (y_extract rfl rfl rfl) rfl rfl rfl H148 ?_
           clear H148; intro a149 H149
           refine plain (y_assign rfl rfl) rfl rfl rfl H149 ?_
           clear H149; intro a150 H150
           refine plain (y_assign rfl rfl) rfl rfl rfl H150 ?_
           clear H150; intro a151 H151
           refine fin ?_
           refine then_n ?_
           refine wp_seq ?_
           refine wp_seq ?_
           refine reg ?_
           refine plain (y_move rfl rfl) rfl rfl rfl H151 ?_
           clear H151; intro a152 H152
           refine plain (y_neq rfl rfl rfl) rfl rfl rfl H152 ?_
           clear H152; intro a153 H153
           refine fin ?_
           refine then_n ?_
           refine cnd H153 rfl (fun hc154 => ?_) (fun hc154 => ?_) -- cond 7
           ·skip
            try simp only [decide_eq_true_eq, decide_eq_false_iff_not, Bool.not_eq_true', Bool.not_eq_false', Bool.and_eq_true, Bool.not_eq_true, Bool.not_eq_false] at hc154
            have hwe := hc154
            refine wp_seq ?_
            refine reg ?_
            refine plain (y_buildA rfl z_zeroN23 Tryd.underlying23 z_size5 rfl lay_n) rfl rfl rfl H153 ?_
            clear H153; intro a155 H155
            refine st_storeN rfl z_size23 rfl rfl (agg_cells _) UU q_one_b32 (q_len_b32 (by first | assumption | exact Sha.sum_length _)) (q_len_b32 (by first | assumption | exact Sha.sum_length _)) (q_spl_b32_0_b32 (by first | assumption | exact Sha.sum_length _) (by first | assumption | exact Sha.sum_length _)) (by decide) rfl rfl H155 ?_
            clear H155; intro wx156 H156
            refine plain (y_assign rfl rfl) rfl rfl rfl H156 ?_
            clear H156; intro a157 H157
            refine fin ?_
            refine then_n ?_
            refine wp_ret ?_
            refine then_r ?_
            refine inb_r ?_
            refine then_r ?_
            refine then_r ?_
            refine inb_r ?_
            refine then_r ?_
            -- return 6
            refine retct rfl H157 rfl z_agg23 z_size23 MM (q_len_b32 (by first | assumption | exact Sha.sum_length _)) rfl ?_
            first | (have hz := Tree.hash_at (b := x.b) hkl hwe; rw [hz]; exact ⟨_, [], rfl, ⟨rfl, rfl⟩, H157.sep.sub (List.nil_sublist _)⟩) | (have hz := Tree.hash_big hob hal hbg; rw [hz]; exact ⟨_, [], rfl, ⟨rfl, rfl⟩, H157.sep.sub (List.nil_sublist _)⟩) | (have hz := Tree.hash_fine hob hal hsm; rw [hz]; exact ⟨_, [], rfl, ⟨rfl, rfl⟩, H157.sep.sub (List.nil_sublist _)⟩) | (have hz := Tree.hash_bad (b := x.b) (by rw [Tree.okBlock_is]; omega); rw [hz]; exact ⟨_, [], rfl, ⟨rfl, rfl⟩, H157.sep.sub (List.nil_sublist _)⟩)
           ·skip
            try simp only [decide_eq_true_eq, decide_eq_false_iff_not, Bool.not_eq_true', Bool.not_eq_false', Bool.and_eq_true, Bool.not_eq_true, Bool.not_eq_false] at hc154
            have hwo := hc154
            refine wp_skip ?_
            refine then_n ?_
            refine reg ?_
            refine plain (y_move rfl rfl) rfl rfl rfl H153 ?_
            clear H153; intro a158 H158
            refine plain (y_move rfl rfl) rfl rfl rfl H158 ?_
            clear H158; intro a159 H159
            refine st_buildSlice1 (xs := [.tmp 77]) rfl Tryd.underlying67 z_size9 z_zero9 rfl rfl rfl rfl rfl rfl rfl rfl rfl H159 ?_
            clear H159; intro b160 a160 wx160 H160
            refine st_append rfl z_slice67 z_notint67 rfl rfl (fun _ => UU) (fun w hs => Src.slice ((rd_blkA MM) w hs) rfl (by simp [Value.oneCell'])) (by unfold maxLen at *; omega) (by omega) rfl rfl rfl H160 ?_
            clear H160; intro v161 a161 wx161 hnil161 H161
            obtain ⟨ArY, crY, hvrY, hRrY, hmrY⟩ := row_shape (v := v161) H161.sep MM
            subst hvrY
            refine plain (y_assign rfl rfl) rfl rfl rfl H161 ?_
            clear H161; intro a162 H162
            refine fin ?_
            refine inb_n ?_
            refine then_n ?_
            refine reg ?_
            refine plain (y_move rfl rfl) rfl rfl rfl H162 ?_
            clear H162; intro a163 H163
            refine plain (y_add rfl rfl rfl (by first | exact w64 (by omega) (by omega) | rfl)) rfl rfl rfl H163 ?_
            clear H163; intro a164 H164
            refine plain (y_assign rfl rfl) rfl rfl rfl H164 ?_
            clear H164; intro a165 H165
            refine fin ?_
            refine then_n ?_
            refine ⟨(k + 1, .slice ArY (3 + k + 1) crY), by dsimp only; omega, ⟨by dsimp only; omega, fun j hj => ?_⟩, (H165.drop (List.Sublist.cons _ (List.Sublist.refl _))).weak ⟨rfl, rfl, rfl, rfl, fi rfl (by dsimp only; omega), trivial⟩ (by dsimp only; exact ir2 (by omega) (by rw [Tree.itexts_next hkl, ← List.append_assoc, List.map_append (l₂ := [_])]; rfl) rfl)⟩
            by_cases e : j = k
            ·subst e; exact Decidable.not_not.1 hwo
            ·exact hwr j (by omega)
          ·skip
           try simp only [decide_eq_true_eq, decide_eq_false_iff_not, Bool.not_eq_true', Bool.not_eq_false', Bool.and_eq_true, Bool.not_eq_true, Bool.not_eq_false] at hc140
           refine wp_exit ?_
           refine then_x ?_
           refine then_x ?_
           refine inb_hit ?_
           refine then_n ?_
           refine wp_seq ?_
           have hal : x.b.items.all Note.Item.ok = true := Tree.items_ok (fun j hj => hwr j (by omega))
           have htx : Tree.head3 x.b ++ Tree.itexts x.b.items k = Tree.texts x.b := by rw [Tree.texts_is, show x.b.items.length = k by omega]
           rw [htx] at H139
           refine reg ?_
           refine plain (y_move rfl rfl) rfl rfl rfl H139 ?_
           clear H139; intro a166 H166
           refine st_callg rfl z_call37 rfl rfl rfl rfl H166 (lstR (Tree.texts x.b) A1 _ c1 (by rw [← htx, List.length_append, Tree.itexts_len (by omega)]; rfl) (Rd.ofSep (rd_row MM) H166.sep) (by rw [← htx, List.length_append, Tree.itexts_len (by omega)]; show 3 + k ≤ _; omega)) ?_
           clear H166; intro a167 wx167 H167
           refine plain (y_move rfl rfl) rfl rfl rfl H167 ?_
           clear H167; intro a168 H168
           refine plain (y_extract rfl rfl rfl) rfl rfl rfl H168 ?_
           clear H168; intro a169 H169
           refine plain (y_extract rfl rfl rfl) rfl rfl rfl H169 ?_
           clear H169; intro a170 H170
           refine plain (y_assign rfl rfl) rfl rfl rfl H170 ?_
           clear H170; intro a171 H171
           refine plain (y_assign rfl rfl) rfl rfl rfl H171 ?_
           clear H171; intro a172 H172
           refine fin ?_
           refine then_n ?_
           refine wp_seq ?_
           refine wp_seq ?_
           refine reg ?_
           refine plain (y_move rfl rfl) rfl rfl rfl H172 ?_
           clear H172; intro a173 H173
           refine plain (y_neq rfl rfl rfl) rfl rfl rfl H173 ?_
           clear H173; intro a174 H174
           refine fin ?_
           refine then_n ?_
           refine cnd H174 rfl (fun hc175 => ?_) (fun hc175 => ?_) -- cond 8
           ·skip
            try simp only [decide_eq_true_eq, decide_eq_false_iff_not, Bool.not_eq_true', Bool.not_eq_false', Bool.and_eq_true, Bool.not_eq_true, Bool.not_eq_false] at hc175
            have hbg := hc175
            refine wp_seq ?_
            refine reg ?_
            refine plain (y_buildA rfl z_zeroN23 Tryd.underlying23 z_size5 rfl lay_n) rfl rfl rfl H174 ?_
            clear H174; intro a176 H176
            refine st_storeN rfl z_size23 rfl rfl (agg_cells _) UU q_one_b32 (q_len_b32 (by first | assumption | exact Sha.sum_length _)) (q_len_b32 (by first | assumption | exact Sha.sum_length _)) (q_spl_b32_0_b32 (by first | assumption | exact Sha.sum_length _) (by first | assumption | exact Sha.sum_length _)) (by decide) rfl rfl H176 ?_
            clear H176; intro wx177 H177
            refine plain (y_assign rfl rfl) rfl rfl rfl H177 ?_
            clear H177; intro a178 H178
            refine fin ?_
            refine then_n ?_
            refine wp_ret ?_
            refine then_r ?_
            -- return 7
            refine retct rfl H178 rfl z_agg23 z_size23 MM (q_len_b32 (by first | assumption | exact Sha.sum_length _)) rfl ?_
            first | (have hz := Tree.hash_at (b := x.b) hkl hwe; rw [hz]; exact ⟨_, [], rfl, ⟨rfl, rfl⟩, H178.sep.sub (List.nil_sublist _)⟩) | (have hz := Tree.hash_big hob hal hbg; rw [hz]; exact ⟨_, [], rfl, ⟨rfl, rfl⟩, H178.sep.sub (List.nil_sublist _)⟩) | (have hz := Tree.hash_fine hob hal hsm; rw [hz]; exact ⟨_, [], rfl, ⟨rfl, rfl⟩, H178.sep.sub (List.nil_sublist _)⟩) | (have hz := Tree.hash_bad (b := x.b) (by rw [Tree.okBlock_is]; omega); rw [hz]; exact ⟨_, [], rfl, ⟨rfl, rfl⟩, H178.sep.sub (List.nil_sublist _)⟩)
           ·skip
            try simp only [decide_eq_true_eq, decide_eq_false_iff_not, Bool.not_eq_true', Bool.not_eq_false', Bool.and_eq_true, Bool.not_eq_true, Bool.not_eq_false] at hc175
            have hsm := Decidable.not_not.1 hc175
            refine wp_skip ?_
            refine then_n ?_
            refine wp_seq ?_
            refine reg ?_
            refine plain (y_move rfl rfl) rfl rfl rfl H174 ?_
            clear H174; intro a179 H179
            refine st_callg rfl z_call38 rfl rfl rfl rfl H179 (rsum (Oct.list (Tree.texts x.b)).1 (by have := Oct.list_len (l := Tree.texts x.b); omega) _) ?_
            clear H179; intro a180 wx180 H180
            refine st_storeN rfl z_size23 rfl rfl (agg_cells _) UU q_one_b32 (q_len_b32 (by first | assumption | exact Sha.sum_length _)) (q_len_b32 (by first | assumption | exact Sha.sum_length _)) (q_spl_b32_0_b32 (by first | assumption | exact Sha.sum_length _) (by first | assumption | exact Sha.sum_length _)) (by decide) rfl rfl H180 ?_
            clear H180; intro wx181 H181
            refine plain (y_assign rfl rfl) rfl rfl rfl H181 ?_
            clear H181; intro a182 H182
            refine fin ?_
            refine then_n ?_
            refine wp_ret ?_
            -- return 8
            refine retct rfl H182 rfl z_agg23 z_size23 MM (q_len_b32 (by first | assumption | exact Sha.sum_length _)) rfl ?_
            first | (have hz := Tree.hash_at (b := x.b) hkl hwe; rw [hz]; exact ⟨_, [], rfl, ⟨rfl, rfl⟩, H182.sep.sub (List.nil_sublist _)⟩) | (have hz := Tree.hash_big hob hal hbg; rw [hz]; exact ⟨_, [], rfl, ⟨rfl, rfl⟩, H182.sep.sub (List.nil_sublist _)⟩) | (have hz := Tree.hash_fine hob hal hsm; rw [hz]; exact ⟨_, [], rfl, ⟨rfl, rfl⟩, H182.sep.sub (List.nil_sublist _)⟩) | (have hz := Tree.hash_bad (b := x.b) (by rw [Tree.okBlock_is]; omega); rw [hz]; exact ⟨_, [], rfl, ⟨rfl, rfl⟩, H182.sep.sub (List.nil_sublist _)⟩)

end Go.Proofs.YtlhddgkbbdfacaaDoor.C_Hash

set_option linter.unusedVariables false
set_option linter.unusedSimpArgs false
namespace Go.Proofs.YtlhddgkbbdfacaaDoor.C_Nx
open Go.Sx Go.RowKit Go.Proofs.YtlhddgkbbdfacaaDoor.C_Block Go.Proofs.YtlhddgkbbdfacaaDoor.C_Sum Go.Proofs.YtlhddgkbbdfacaaDoor.C_Ref Go.Proofs.YtlhddgkbbdfacaaDoor.C_RSum Go.Proofs.YtlhddgkbbdfacaaDoor.C_Num Go.Proofs.YtlhddgkbbdfacaaDoor.C_Lay Go.Proofs.YtlhddgkbbdfacaaDoor.C_Leaf Go.Proofs.YtlhddgkbbdfacaaDoor.C_Item Go.Proofs.YtlhddgkbbdfacaaDoor.C_RefI Go.Proofs.YtlhddgkbbdfacaaDoor.C_Eq Go.Proofs.YtlhddgkbbdfacaaDoor.C_Hash

theorem z_zeroN26 : zeroL Tryd.prog 26 = some ((.int .i64 0 :: (.int .i64 0 :: ((List.replicate 32 (0 : UInt8)).map u8 ++ (.slice none 0 0 :: []))))) := by kernel_rfl
theorem z_zeroN23 : zeroL Tryd.prog 23 = some ((List.replicate 32 (0 : UInt8)).map u8) := by kernel_rfl
theorem z_agg23 : aggB Tryd.prog 23 = some true := by kernel_rfl
theorem z_size23 : sizeB Tryd.prog 23 = some 32 := by kernel_rfl
theorem q_ld_b32_0_32 {t0 : List UInt8} (h0 : t0.length = 32) : ((t0.map u8).drop 0).take 32 = t0.map u8 := (ld_a (len_e (k := 32) h0))
theorem q_len_b32 {t0 : List UInt8} (h0 : t0.length = 32) : (t0.map u8).length = 32 := (len_e (k := 32) h0)
theorem z_size69 : sizeB Tryd.prog 69 = some 4 := by kernel_rfl
theorem z_zero69 : zeroL Tryd.prog 69 = some ([.int .i64 0, .int .i64 0, .int .i64 0, .string ⟨#[]⟩]) := by kernel_rfl
theorem z_slice24 : sliceB Tryd.prog 24 = some (69, 4, 40) := by kernel_rfl
theorem z_notint24 : notIntB Tryd.prog 24 = true := by kernel_rfl
theorem z_places26 : placesB Tryd.prog 26 = some [(0, 1), (1, 1), (2, 32), (34, 1)] := by kernel_rfl
theorem q_len_c2b32c1 {a0 a1 a3 : Value} {t2 : List UInt8} (h2 : t2.length = 32) : (a0 :: a1 :: (t2.map u8 ++ (a3 :: []))).length = 35 := (len_c (n := 34) (len_c (n := 33) (len_b (k := 32) (n := 1) h2 (len_c (n := 0) len_n))))
theorem q_spl_c2b32c1_0_c1 {a0 a1 a3 : Value} {t2 : List UInt8} {b0 : Value} : spl (a0 :: a1 :: (t2.map u8 ++ (a3 :: []))) 0 (b0 :: []) = b0 :: a1 :: (t2.map u8 ++ (a3 :: [])) := spl_0
theorem q_spl_c2b32c1_1_c1 {a0 a1 a3 : Value} {t2 : List UInt8} {b0 : Value} : spl (a0 :: a1 :: (t2.map u8 ++ (a3 :: []))) 1 (b0 :: []) = a0 :: b0 :: (t2.map u8 ++ (a3 :: [])) := (spl_c (o := 0) spl_0)
theorem q_spl_c2b32c1_2_b32 {a0 a1 a3 : Value} {t2 : List UInt8} {s0 : List UInt8} (h2 : t2.length = 32) (g0 : s0.length = 32) : spl (a0 :: a1 :: (t2.map u8 ++ (a3 :: []))) 2 (s0.map u8) = a0 :: a1 :: (s0.map u8 ++ (a3 :: [])) := (spl_c (o := 1) (spl_c (o := 0) (spl_h (z := 32) (len_e h2) (len_e g0))))
theorem q_spl_c2b32c1_34_c1 {a0 a1 a3 : Value} {t2 : List UInt8} {b0 : Value} (h2 : t2.length = 32) : spl (a0 :: a1 :: (t2.map u8 ++ (a3 :: []))) 34 (b0 :: []) = a0 :: a1 :: (t2.map u8 ++ (b0 :: [])) := (spl_c (o := 33) (spl_c (o := 32) (spl_b (k := 32) (o := 0) h2 rfl spl_0)))
theorem z_size26 : sizeB Tryd.prog 26 = some 35 := by kernel_rfl
theorem q_one_c2b32c1 {a0 a1 a3 : Value} {t2 : List UInt8} (o0 : a0.oneCell' = true) (o1 : a1.oneCell' = true) (o3 : a3.oneCell' = true) : (a0 :: a1 :: (t2.map u8 ++ (a3 :: []))).all (·.oneCell') = true := (one_c o0 (one_c o1 (one_b (one_c o3 one_n))))
theorem q_spl_c2b32c1_0_c2b32c1 {a0 a1 a3 : Value} {t2 : List UInt8} {b0 b1 b3 : Value} {s2 : List UInt8} (h2 : t2.length = 32) (g2 : s2.length = 32) : spl (a0 :: a1 :: (t2.map u8 ++ (a3 :: []))) 0 (b0 :: b1 :: (s2.map u8 ++ (b3 :: []))) = b0 :: b1 :: (s2.map u8 ++ (b3 :: [])) := (spl_a (z := 35) (len_c (n := 34) (len_c (n := 33) (len_b (k := 32) (n := 1) h2 (len_c (n := 0) len_n)))) (len_c (n := 34) (len_c (n := 33) (len_b (k := 32) (n := 1) g2 (len_c (n := 0) len_n)))))
theorem z_agg26 : aggB Tryd.prog 26 = some true := by kernel_rfl
theorem q_ld_c2b32c1_0_35 {a0 a1 a3 : Value} {t2 : List UInt8} (h2 : t2.length = 32) : ((a0 :: a1 :: (t2.map u8 ++ (a3 :: []))).drop 0).take 35 = a0 :: a1 :: (t2.map u8 ++ (a3 :: [])) := (ld_a (len_c (n := 34) (len_c (n := 33) (len_b (k := 32) (n := 1) h2 (len_c (n := 0) len_n)))))
theorem z_call9 : callB Tryd.prog 9 = true := by kernel_rfl
theorem q_one_b32 {t0 : List UInt8} : (t0.map u8).all (·.oneCell') = true := (one_u8 _)
theorem q_spl_b32_0_b32 {t0 : List UInt8} {s0 : List UInt8} (h0 : t0.length = 32) (g0 : s0.length = 32) : spl (t0.map u8) 0 (s0.map u8) = s0.map u8 := (spl_a (z := 32) (len_e (k := 32) h0) (len_e (k := 32) g0))
theorem z_field26_3 : fieldB Tryd.prog 26 3 = some 34 := by kernel_rfl
theorem z_agg24 : aggB Tryd.prog 24 = some false := by kernel_rfl
theorem q_ix_c2b32c1_34 {a0 a1 a3 : Value} {t2 : List UInt8} (h2 : t2.length = 32) : (a0 :: a1 :: (t2.map u8 ++ (a3 :: [])))[34]? = some a3 := (ix_c (o := 33) (ix_c (o := 32) (ix_b (k := 32) (o := 0) h2 rfl ix_0)))
theorem z_size24 : sizeB Tryd.prog 24 = some 1 := by kernel_rfl
theorem q_set_c2b32c1_34 {a0 a1 a3 : Value} {t2 : List UInt8} {v : Value} (h2 : t2.length = 32) : (a0 :: a1 :: (t2.map u8 ++ (a3 :: []))).set 34 v = a0 :: a1 :: (t2.map u8 ++ (v :: [])) := (set_c (o := 33) (set_c (o := 32) (set_b (k := 32) (o := 0) h2 rfl set_0)))

set_option maxRecDepth 100000 in
set_option maxHeartbeats 2000000 in
theorem tnext (number salt : Int) (hnu : Note.I64 number) (hsa : Note.I64 salt) (p : List UInt8) (hpl : p.length = 32) (A : Option Addr) (ci : Nat) (its : List Note.Item) (hit : ∀ i ∈ its, Note.Item.Wf i) (hib : its.length * 40 ≤ 140737488355328) {w : World} (hR : Rd w A (Inbox.ic its)) (hG : Glob 0 Sha.K w) : Calls Tryd.prog 39 #[.int .i64 number, .agg (p.map u8).toArray, .slice A its.length ci, .int .i64 salt] w (Post [] w fun r l' => ∃ A' c', r = .tuple #[.agg (Inbox.BA.cells (⟨⟨number, salt, p, its⟩, A', c'⟩ : Inbox.BA)).toArray, .agg ((Tree.hash ⟨number, salt, p, its⟩).1.map u8).toArray, .int .i64 (Tree.hash ⟨number, salt, p, its⟩).2] ∧ l' = [It.row 69 4 (.slice A' its.length c') its.length (Inbox.ic its)]) := by
 have hZl : Note.Z.length = 32 := Note.Z_len
 have lz32 : (List.replicate 32 (0 : UInt8)).length = 32 := List.length_replicate
 refine enterL (args := [.int .i64 number, .agg (p.map u8).toArray, .slice A its.length ci, .int .i64 salt]) Tryd.func39 rfl rfl (l := []) (Sep.refl _) ?_
 intro a0 H0
 refine wp_seq ?_
 refine reg ?_
 refine st_box rfl rfl (agg_cells _) rfl rfl rfl H0 ?_
 clear H0; intro b1 a1 wx1 H1
 refine st_alloc rfl z_zeroN26 rfl rfl rfl H1 ?_
 clear H1; intro b2 a2 wx2 H2
 refine st_alloc rfl z_zeroN23 rfl rfl rfl H2 ?_
 clear H2; intro b3 a3 wx3 H3
 refine plain (y_assign rfl rfl) rfl rfl rfl H3 ?_
 clear H3; intro a4 H4
 refine fin ?_
 refine then_n ?_
 refine wp_seq ?_
 refine hreg [It.blk b1 23 (p.map u8)] (fun _ h => h.subA) (by kernel_rfl) H4 ?_
 clear H4; intro wx5 H5
 refine htake 0 rfl (by kernel_rfl) (y_move rfl rfl) rfl rfl rfl (fun _ h => h.subA) H5 ?_
 clear H5; intro a6 H6
 refine htake 1 rfl (by kernel_rfl) (y_move rfl rfl) rfl rfl rfl (fun _ h => h.subA) H6 ?_
 clear H6; intro a7 H7
 refine htake 2 rfl (by kernel_rfl) (y_loadAB rfl z_agg23 z_size23 rfl MM (q_ld_b32_0_32 (by first | assumption | exact Tree.hash_len _)) (q_len_b32 (by first | assumption | exact Tree.hash_len _))) rfl rfl rfl (fun _ h => h.subA) H7 ?_
 clear H7; intro a8 H8
 refine htake 4 rfl (by kernel_rfl) (y_move rfl rfl) rfl rfl rfl (fun _ h => h.subA) H8 ?_
 clear H8; intro a9 H9
 refine hgo2 3 7 rfl rfl (by kernel_rfl) ?_ ?_
 ·skip
  refine st_buildSlice rfl Tryd.underlying24 z_size69 z_zero69 rfl rfl rfl (show _ = some ([] : List Value) from rfl) rfl rfl rfl H9 ?_
  clear H9; intro b10 a10 wx10 H10
  refine hfinA H10.sep ?_
  refine hgo2 5 7 rfl rfl (by kernel_rfl) ?_ ?_
  ·skip
   replace H10 := H10.asRow (b := b10) (size := 4) (m := 0) UU rfl (by unfold maxLen; omega)
   refine st_append rfl z_slice24 z_notint24 rfl rfl (fun _ => UU) (fun w hs => Src.slice ((rd_old hR (by simp)) w hs) (Inbox.ic_len _) (Tree.ic_cell _)) (by unfold maxLen at *; first | omega | (simp only [List.length_cons, List.length_nil, List.length_append, List.length_map]; omega)) (by omega) rfl rfl rfl H10 ?_
   clear H10; intro v11 a11 wx11 hnil11 H11
   obtain ⟨ArN, crN, hvrN, hRrN, hmrN⟩ := row_shape (v := v11) H11.sep MM
   subst hvrN
   simp only [List.nil_append, Nat.zero_add] at H11
   refine hfinA H11.sep ?_
   refine htake 6 rfl (by kernel_rfl) (y_build rfl z_zeroN26 z_places26 rfl (lay_1 (off := 0) (n := 35) rfl (q_len_c2b32c1 (by first | assumption | exact Tree.hash_len _)) (by decide) q_spl_c2b32c1_0_c1 (lay_1 (off := 1) (n := 35) rfl (q_len_c2b32c1 (by first | assumption | exact Tree.hash_len _)) (by decide) q_spl_c2b32c1_1_c1 (lay_f (off := 2) (z := 32) (n := 35) rfl (agg_cells _) (q_len_b32 (by first | assumption | exact Tree.hash_len _)) (q_len_c2b32c1 (by first | assumption | exact Tree.hash_len _)) (by decide) (q_spl_c2b32c1_2_b32 (by first | assumption | exact Tree.hash_len _) (by first | assumption | exact Tree.hash_len _)) (lay_1 (off := 34) (n := 35) rfl (q_len_c2b32c1 (by first | assumption | exact Tree.hash_len _)) (by decide) (q_spl_c2b32c1_34_c1 (by first | assumption | exact Tree.hash_len _)) lay_n (by rfl))) (by rfl)) (by rfl))) rfl rfl rfl (fun _ h => h.subA) H11 ?_
   clear H11; intro a12 H12
   refine hgo 7 rfl (by kernel_rfl) ?_
   refine st_alloc rfl z_zeroN26 rfl rfl rfl H12 ?_
   clear H12; intro b13 a13 wx13 H13
   refine hfinA H13.sep ?_
   refine hgo 8 rfl (by kernel_rfl) ?_
   refine st_storeN rfl z_size26 rfl rfl (agg_cells _) UU (q_one_c2b32c1 rfl rfl rfl) (q_len_c2b32c1 (by first | assumption | exact Tree.hash_len _)) (q_len_c2b32c1 (by first | assumption | exact Tree.hash_len _)) (q_spl_c2b32c1_0_c2b32c1 (by first | assumption | exact Tree.hash_len _) (by first | assumption | exact Tree.hash_len _)) (by decide) rfl rfl H13 ?_
   clear H13; intro wx14 H14
   refine hfinA H14.sep ?_
   refine hdone (by kernel_rfl) ?_
   refine then_n ?_
   refine wp_seq ?_
   refine reg ?_
   refine plain (y_loadAB rfl z_agg26 z_size26 rfl MM (q_ld_c2b32c1_0_35 (by first | assumption | exact Tree.hash_len _)) (q_len_c2b32c1 (by first | assumption | exact Tree.hash_len _))) rfl rfl rfl H14 ?_
   clear H14; intro a15 H15
   refine st_callg rfl z_call9 rfl rfl rfl rfl H15 (thash (⟨⟨number, salt, p, its⟩, ArN, crN⟩ : Inbox.BA) ⟨hnu, hsa, hpl, hit, hib⟩ (show its.length ≤ _ by omega) (Rd.ofSep (rd_row MM) H15.sep) (hG.frm H15.sep.frm (by simp))) ?_
   clear H15; intro a16 wx16 H16
   refine plain (y_move rfl rfl) rfl rfl rfl H16 ?_
   clear H16; intro a17 H17
   refine plain (y_extract rfl rfl rfl) rfl rfl rfl H17 ?_
   clear H17; intro a18 H18
   refine plain (y_extract rfl rfl rfl) rfl rfl rfl H18 ?_
   clear H18; intro a19 H19
   refine st_alloc rfl z_zeroN23 rfl rfl rfl H19 ?_
   clear H19; intro b20 a20 wx20 H20
   refine st_storeN rfl z_size23 rfl rfl (agg_cells _) UU q_one_b32 (q_len_b32 (by first | assumption | exact Tree.hash_len _)) (q_len_b32 (by first | assumption | exact Tree.hash_len _)) (q_spl_b32_0_b32 (by first | assumption | exact Tree.hash_len _) (by first | assumption | exact Tree.hash_len _)) (by decide) rfl rfl H20 ?_
   clear H20; intro wx21 H21
   refine plain (y_assign rfl rfl) rfl rfl rfl H21 ?_
   clear H21; intro a22 H22
   refine fin ?_
   refine then_n ?_
   refine wp_seq ?_
   refine hreg [It.blk b20 23 ((Tree.hash ⟨number, salt, p, its⟩).1.map u8), It.blk b13 26 (Inbox.BA.cells (⟨⟨number, salt, p, its⟩, ArN, crN⟩ : Inbox.BA))] (fun _ h => h.subA) (by kernel_rfl) H22 ?_
   clear H22; intro wx23 H23
   refine htake 0 rfl (by kernel_rfl) (y_loadAB rfl z_agg26 z_size26 rfl MM (q_ld_c2b32c1_0_35 (by first | assumption | exact Tree.hash_len _)) (q_len_c2b32c1 (by first | assumption | exact Tree.hash_len _))) rfl rfl rfl (fun _ h => h.subA) H23 ?_
   clear H23; intro a24 H24
   refine htake 1 rfl (by kernel_rfl) (y_loadAB rfl z_agg23 z_size23 rfl MM (q_ld_b32_0_32 (by first | assumption | exact Tree.hash_len _)) (q_len_b32 (by first | assumption | exact Tree.hash_len _))) rfl rfl rfl (fun _ h => h.subA) H24 ?_
   clear H24; intro a25 H25
   refine htake 2 rfl (by kernel_rfl) (y_move rfl rfl) rfl rfl rfl (fun _ h => h.subA) H25 ?_
   clear H25; intro a26 H26
   refine hgo 3 rfl (by kernel_rfl) ?_
   refine st_storeN rfl z_size26 rfl rfl (agg_cells _) UU (q_one_c2b32c1 rfl rfl rfl) (q_len_c2b32c1 (by first | assumption | exact Tree.hash_len _)) (q_len_c2b32c1 (by first | assumption | exact Tree.hash_len _)) (q_spl_c2b32c1_0_c2b32c1 (by first | assumption | exact Tree.hash_len _) (by first | assumption | exact Tree.hash_len _)) (by decide) rfl rfl H26 ?_
   clear H26; intro wx27 H27
   refine hfinA H27.sep ?_
   refine hgo 4 rfl (by kernel_rfl) ?_
   refine st_storeN rfl z_size23 rfl rfl (agg_cells _) UU q_one_b32 (q_len_b32 (by first | assumption | exact Tree.hash_len _)) (q_len_b32 (by first | assumption | exact Tree.hash_len _)) (q_spl_b32_0_b32 (by first | assumption | exact Tree.hash_len _) (by first | assumption | exact Tree.hash_len _)) (by decide) rfl rfl H27 ?_
   clear H27; intro wx28 H28
   refine hfinA H28.sep ?_
   refine htake 5 rfl (by kernel_rfl) (y_assign rfl rfl) rfl rfl rfl (fun _ h => h.subA) H28 ?_
   clear H28; intro a29 H29
   refine hdone (by kernel_rfl) ?_
   refine then_n ?_
   refine wp_ret ?_
   -- return 1
   refine retcct rfl H29 rfl z_agg26 z_size26 MM (q_len_c2b32c1 (by first | assumption | exact Tree.hash_len _)) rfl z_agg23 z_size23 MM (q_len_b32 (by first | assumption | exact Tree.hash_len _)) rfl ?_
   exact ⟨_, _, rfl, ⟨ArN, crN, rfl, rfl⟩, (H29.only (is := [It.row 69 4 (.slice ArN its.length crN) its.length (Inbox.ic its)]) (.cons PP (.nil _))).sep⟩
  ·skip
   refine st_alloc rfl z_zeroN26 rfl rfl rfl H10 ?_
   clear H10; intro b30 a30 wx30 H30
   refine hfinA H30.sep ?_
   refine hgo 5 rfl (by kernel_rfl) ?_
   replace H30 := H30.asRow (b := b10) (size := 4) (m := 0) UU rfl (by unfold maxLen; omega)
   refine st_append rfl z_slice24 z_notint24 rfl rfl (fun _ => UU) (fun w hs => Src.slice ((rd_old hR (by simp)) w hs) (Inbox.ic_len _) (Tree.ic_cell _)) (by unfold maxLen at *; first | omega | (simp only [List.length_cons, List.length_nil, List.length_append, List.length_map]; omega)) (by omega) rfl rfl rfl H30 ?_
   clear H30; intro v31 a31 wx31 hnil31 H31
   obtain ⟨ArN, crN, hvrN, hRrN, hmrN⟩ := row_shape (v := v31) H31.sep MM
   subst hvrN
   simp only [List.nil_append, Nat.zero_add] at H31
   refine hfinA H31.sep ?_
   refine htake 6 rfl (by kernel_rfl) (y_build rfl z_zeroN26 z_places26 rfl (lay_1 (off := 0) (n := 35) rfl (q_len_c2b32c1 (by first | assumption | exact Tree.hash_len _)) (by decide) q_spl_c2b32c1_0_c1 (lay_1 (off := 1) (n := 35) rfl (q_len_c2b32c1 (by first | assumption | exact Tree.hash_len _)) (by decide) q_spl_c2b32c1_1_c1 (lay_f (off := 2) (z := 32) (n := 35) rfl (agg_cells _) (q_len_b32 (by first | assumption | exact Tree.hash_len _)) (q_len_c2b32c1 (by first | assumption | exact Tree.hash_len _)) (by decide) (q_spl_c2b32c1_2_b32 (by first | assumption | exact Tree.hash_len _) (by first | assumption | exact Tree.hash_len _)) (lay_1 (off := 34) (n := 35) rfl (q_len_c2b32c1 (by first | assumption | exact Tree.hash_len _)) (by decide) (q_spl_c2b32c1_34_c1 (by first | assumption | exact Tree.hash_len _)) lay_n (by rfl))) (by rfl)) (by rfl))) rfl rfl rfl (fun _ h => h.subA) H31 ?_
   clear H31; intro a32 H32
   refine hgo 8 rfl (by kernel_rfl) ?_
   refine st_storeN rfl z_size26 rfl rfl (agg_cells _) UU (q_one_c2b32c1 rfl rfl rfl) (q_len_c2b32c1 (by first | assumption | exact Tree.hash_len _)) (q_len_c2b32c1 (by first | assumption | exact Tree.hash_len _)) (q_spl_c2b32c1_0_c2b32c1 (by first | assumption | exact Tree.hash_len _) (by first | assumption | exact Tree.hash_len _)) (by decide) rfl rfl H32 ?_
   clear H32; intro wx33 H33
   refine hfinA H33.sep ?_
   refine hdone (by kernel_rfl) ?_
   refine then_n ?_
   refine wp_seq ?_
   refine reg ?_
   refine plain (y_loadAB rfl z_agg26 z_size26 rfl MM (q_ld_c2b32c1_0_35 (by first | assumption | exact Tree.hash_len _)) (q_len_c2b32c1 (by first | assumption | exact Tree.hash_len _))) rfl rfl rfl H33 ?_
   clear H33; intro a34 H34
   refine st_callg rfl z_call9 rfl rfl rfl rfl H34 (thash (⟨⟨number, salt, p, its⟩, ArN, crN⟩ : Inbox.BA) ⟨hnu, hsa, hpl, hit, hib⟩ (show its.length ≤ _ by omega) (Rd.ofSep (rd_row MM) H34.sep) (hG.frm H34.sep.frm (by simp))) ?_
   clear H34; intro a35 wx35 H35
   refine plain (y_move rfl rfl) rfl rfl rfl H35 ?_
   clear H35; intro a36 H36
   refine plain (y_extract rfl rfl rfl) rfl rfl rfl H36 ?_
   clear H36; intro a37 H37
   refine plain (y_extract rfl rfl rfl) rfl rfl rfl H37 ?_
   clear H37; intro a38 H38
   refine st_alloc rfl z_zeroN23 rfl rfl rfl H38 ?_
   clear H38; intro b39 a39 wx39 H39
   refine st_storeN rfl z_size23 rfl rfl (agg_cells _) UU q_one_b32 (q_len_b32 (by first | assumption | exact Tree.hash_len _)) (q_len_b32 (by first | assumption | exact Tree.hash_len _)) (q_spl_b32_0_b32 (by first | assumption | exact Tree.hash_len _) (by first | assumption | exact Tree.hash_len _)) (by decide) rfl rfl H39 ?_
   clear H39; intro wx40 H40
   refine plain (y_assign rfl rfl) rfl rfl rfl H40 ?_
   clear H40; intro a41 H41
   refine fin ?_
   refine then_n ?_
   refine wp_seq ?_
   refine hreg [It.blk b39 23 ((Tree.hash ⟨number, salt, p, its⟩).1.map u8), It.blk b30 26 (Inbox.BA.cells (⟨⟨number, salt, p, its⟩, ArN, crN⟩ : Inbox.BA))] (fun _ h => h.subA) (by kernel_rfl) H41 ?_
   clear H41; intro wx42 H42
   refine htake 0 rfl (by kernel_rfl) (y_loadAB rfl z_agg26 z_size26 rfl MM (q_ld_c2b32c1_0_35 (by first | assumption | exact Tree.hash_len _)) (q_len_c2b32c1 (by first | assumption | exact Tree.hash_len _))) rfl rfl rfl (fun _ h => h.subA) H42 ?_
   clear H42; intro a43 H43
   refine htake 1 rfl (by kernel_rfl) (y_loadAB rfl z_agg23 z_size23 rfl MM (q_ld_b32_0_32 (by first | assumption | exact Tree.hash_len _)) (q_len_b32 (by first | assumption | exact Tree.hash_len _))) rfl rfl rfl (fun _ h => h.subA) H43 ?_
   clear H43; intro a44 H44
   refine htake 2 rfl (by kernel_rfl) (y_move rfl rfl) rfl rfl rfl (fun _ h => h.subA) H44 ?_
   clear H44; intro a45 H45
   refine hgo 3 rfl (by kernel_rfl) ?_
   refine st_storeN rfl z_size26 rfl rfl (agg_cells _) UU (q_one_c2b32c1 rfl rfl rfl) (q_len_c2b32c1 (by first | assumption | exact Tree.hash_len _)) (q_len_c2b32c1 (by first | assumption | exact Tree.hash_len _)) (q_spl_c2b32c1_0_c2b32c1 (by first | assumption | exact Tree.hash_len _) (by first | assumption | exact Tree.hash_len _)) (by decide) rfl rfl H45 ?_
   clear H45; intro wx46 H46
   refine hfinA H46.sep ?_
   refine hgo 4 rfl (by kernel_rfl) ?_
   refine st_storeN rfl z_size23 rfl rfl (agg_cells _) UU q_one_b32 (q_len_b32 (by first | assumption | exact Tree.hash_len _)) (q_len_b32 (by first | assumption | exact Tree.hash_len _)) (q_spl_b32_0_b32 (by first | assumption | exact Tree.hash_len _) (by first | assumption | exact Tree.hash_len _)) (by decide) rfl rfl H46 ?_
   clear H46; intro wx47 H47
   refine hfinA H47.sep ?_
   refine htake 5 rfl (by kernel_rfl) (y_assign rfl rfl) rfl rfl rfl (fun _ h => h.subA) H47 ?_
   clear H47; intro a48 H48
   refine hdone (by kernel_rfl) ?_
   refine then_n ?_
   refine wp_ret ?_
   -- return 2
   refine retcct rfl H48 rfl z_agg26 z_size26 MM (q_len_c2b32c1 (by first | assumption | exact Tree.hash_len _)) rfl z_agg23 z_size23 MM (q_len_b32 (by first | assumption | exact Tree.hash_len _)) rfl ?_
   exact ⟨_, _, rfl, ⟨ArN, crN, rfl, rfl⟩, (H48.only (is := [It.row 69 4 (.slice ArN its.length crN) its.length (Inbox.ic its)]) (.cons PP (.nil _))).sep⟩
 ·skip
  refine st_alloc rfl z_zeroN26 rfl rfl rfl H9 ?_
  clear H9; intro b49 a49 wx49 H49
  refine hfinA H49.sep ?_
  refine hgo 3 rfl (by kernel_rfl) ?_
  refine st_buildSlice rfl Tryd.underlying24 z_size69 z_zero69 rfl rfl rfl (show _ = some ([] : List Value) from rfl) rfl rfl rfl H49 ?_
  clear H49; intro b50 a50 wx50 H50
  refine hfinA H50.sep ?_
  refine hgo 5 rfl (by kernel_rfl) ?_
  replace H50 := H50.asRow (b := b50) (size := 4) (m := 0) UU rfl (by unfold maxLen; omega)
  refine st_append rfl z_slice24 z_notint24 rfl rfl (fun _ => UU) (fun w hs => Src.slice ((rd_old hR (by simp)) w hs) (Inbox.ic_len _) (Tree.ic_cell _)) (by unfold maxLen at *; first | omega | (simp only [List.length_cons, List.length_nil, List.length_append, List.length_map]; omega)) (by omega) rfl rfl rfl H50 ?_
  clear H50; intro v51 a51 wx51 hnil51 H51
  obtain ⟨ArN, crN, hvrN, hRrN, hmrN⟩ := row_shape (v := v51) H51.sep MM
  subst hvrN
  simp only [List.nil_append, Nat.zero_add] at H51
  refine hfinA H51.sep ?_
  refine htake 6 rfl (by kernel_rfl) (y_build rfl z_zeroN26 z_places26 rfl (lay_1 (off := 0) (n := 35) rfl (q_len_c2b32c1 (by first | assumption | exact Tree.hash_len _)) (by decide) q_spl_c2b32c1_0_c1 (lay_1 (off := 1) (n := 35) rfl (q_len_c2b32c1 (by first | assumption | exact Tree.hash_len _)) (by decide) q_spl_c2b32c1_1_c1 (lay_f (off := 2) (z := 32) (n := 35) rfl (agg_cells _) (q_len_b32 (by first | assumption | exact Tree.hash_len _)) (q_len_c2b32c1 (by first | assumption | exact Tree.hash_len _)) (by decide) (q_spl_c2b32c1_2_b32 (by first | assumption | exact Tree.hash_len _) (by first | assumption | exact Tree.hash_len _)) (lay_1 (off := 34) (n := 35) rfl (q_len_c2b32c1 (by first | assumption | exact Tree.hash_len _)) (by decide) (q_spl_c2b32c1_34_c1 (by first | assumption | exact Tree.hash_len _)) lay_n (by rfl))) (by rfl)) (by rfl))) rfl rfl rfl (fun _ h => h.subA) H51 ?_
  clear H51; intro a52 H52
  refine hgo 8 rfl (by kernel_rfl) ?_
  refine st_storeN rfl z_size26 rfl rfl (agg_cells _) UU (q_one_c2b32c1 rfl rfl rfl) (q_len_c2b32c1 (by first | assumption | exact Tree.hash_len _)) (q_len_c2b32c1 (by first | assumption | exact Tree.hash_len _)) (q_spl_c2b32c1_0_c2b32c1 (by first | assumption | exact Tree.hash_len _) (by first | assumption | exact Tree.hash_len _)) (by decide) rfl rfl H52 ?_
  clear H52; intro wx53 H53
  refine hfinA H53.sep ?_
  refine hdone (by kernel_rfl) ?_
  refine then_n ?_
  refine wp_seq ?_
  refine reg ?_
  refine plain (y_loadAB rfl z_agg26 z_size26 rfl MM (q_ld_c2b32c1_0_35 (by first | assumption | exact Tree.hash_len _)) (q_len_c2b32c1 (by first | assumption | exact Tree.hash_len _))) rfl rfl rfl H53 ?_
  clear H53; intro a54 H54
  refine st_callg rfl z_call9 rfl rfl rfl rfl H54 (thash (⟨⟨number, salt, p, its⟩, ArN, crN⟩ : Inbox.BA) ⟨hnu, hsa, hpl, hit, hib⟩ (show its.length ≤ _ by omega) (Rd.ofSep (rd_row MM) H54.sep) (hG.frm H54.sep.frm (by simp))) ?_
  clear H54; intro a55 wx55 H55
  refine plain (y_move rfl rfl) rfl rfl rfl H55 ?_
  clear H55; intro a56 H56
  refine plain (y_extract rfl rfl rfl) rfl rfl rfl H56 ?_
  clear H56; intro a57 H57
  refine plain (y_extract rfl rfl rfl) rfl rfl rfl H57 ?_
  clear H57; intro a58 H58
  refine st_alloc rfl z_zeroN23 rfl rfl rfl H58 ?_
  clear H58; intro b59 a59 wx59 H59
  refine st_storeN rfl z_size23 rfl rfl (agg_cells _) UU q_one_b32 (q_len_b32 (by first | assumption | exact Tree.hash_len _)) (q_len_b32 (by first | assumption | exact Tree.hash_len _)) (q_spl_b32_0_b32 (by first | assumption | exact Tree.hash_len _) (by first | assumption | exact Tree.hash_len _)) (by decide) rfl rfl H59 ?_
  clear H59; intro wx60 H60
  refine plain (y_assign rfl rfl) rfl rfl rfl H60 ?_
  clear H60; intro a61 H61
  refine fin ?_
  refine then_n ?_
  refine wp_seq ?_
  refine hreg [It.blk b59 23 ((Tree.hash ⟨number, salt, p, its⟩).1.map u8), It.blk b49 26 (Inbox.BA.cells (⟨⟨number, salt, p, its⟩, ArN, crN⟩ : Inbox.BA))] (fun _ h => h.subA) (by kernel_rfl) H61 ?_
  clear H61; intro wx62 H62
  refine htake 0 rfl (by kernel_rfl) (y_loadAB rfl z_agg26 z_size26 rfl MM (q_ld_c2b32c1_0_35 (by first | assumption | exact Tree.hash_len _)) (q_len_c2b32c1 (by first | assumption | exact Tree.hash_len _))) rfl rfl rfl (fun _ h => h.subA) H62 ?_
  clear H62; intro a63 H63
  refine htake 1 rfl (by kernel_rfl) (y_loadAB rfl z_agg23 z_size23 rfl MM (q_ld_b32_0_32 (by first | assumption | exact Tree.hash_len _)) (q_len_b32 (by first | assumption | exact Tree.hash_len _))) rfl rfl rfl (fun _ h => h.subA) H63 ?_
  clear H63; intro a64 H64
  refine htake 2 rfl (by kernel_rfl) (y_move rfl rfl) rfl rfl rfl (fun _ h => h.subA) H64 ?_
  clear H64; intro a65 H65
  refine hgo 3 rfl (by kernel_rfl) ?_
  refine st_storeN rfl z_size26 rfl rfl (agg_cells _) UU (q_one_c2b32c1 rfl rfl rfl) (q_len_c2b32c1 (by first | assumption | exact Tree.hash_len _)) (q_len_c2b32c1 (by first | assumption | exact Tree.hash_len _)) (q_spl_c2b32c1_0_c2b32c1 (by first | assumption | exact Tree.hash_len _) (by first | assumption | exact Tree.hash_len _)) (by decide) rfl rfl H65 ?_
  clear H65; intro wx66 H66
  refine hfinA H66.sep ?_
  refine hgo 4 rfl (by kernel_rfl) ?_
  refine st_storeN rfl z_size23 rfl rfl (agg_cells _) UU q_one_b32 (q_len_b32 (by first | assumption | exact Tree.hash_len _)) (q_len_b32 (by first | assumption | exact Tree.hash_len _)) (q_spl_b32_0_b32 (by first | assumption | exact Tree.hash_len _) (by first | assumption | exact Tree.hash_len _)) (by decide) rfl rfl H66 ?_
  clear H66; intro wx67 H67
  refine hfinA H67.sep ?_
  refine htake 5 rfl (by kernel_rfl) (y_assign rfl rfl) rfl rfl rfl (fun _ h => h.subA) H67 ?_
  clear H67; intro a68 H68
  refine hdone (by kernel_rfl) ?_
  refine then_n ?_
  refine wp_ret ?_
  -- return 3
  refine retcct rfl H68 rfl z_agg26 z_size26 MM (q_len_c2b32c1 (by first | assumption | exact Tree.hash_len _)) rfl z_agg23 z_size23 MM (q_len_b32 (by first | assumption | exact Tree.hash_len _)) rfl ?_
  exact ⟨_, _, rfl, ⟨ArN, crN, rfl, rfl⟩, (H68.only (is := [It.row 69 4 (.slice ArN its.length crN) its.length (Inbox.ic its)]) (.cons PP (.nil _))).sep⟩
set_option maxRecDepth 100000 in
set_option maxHeartbeats 1000000 in
theorem tcopied (x : Inbox.BA) (wx : Tree.W0 x) (hib : x.b.items.length * 40 ≤ 140737488355328) {w : World} (hR : Rd w x.A (Inbox.ic x.b.items)) : Calls Tryd.prog 40 #[.agg (Inbox.BA.cells x).toArray] w (Post [] w fun r l' => ∃ A' c', r = .agg (Inbox.BA.cells (⟨x.b, A', c'⟩ : Inbox.BA)).toArray ∧ l' = [It.row 69 4 (.slice A' x.b.items.length c') x.b.items.length (Inbox.ic x.b.items)]) := by
 have hpl := wx.parent
 have lz32 : (List.replicate 32 (0 : UInt8)).length = 32 := List.length_replicate
 have lz0 := wx.parent
 refine enterL (args := [.agg (Inbox.BA.cells x).toArray]) Tryd.func40 rfl rfl (l := []) (Sep.refl _) ?_
 intro a0 H0
 refine wp_seq ?_
 refine reg ?_
 refine st_box rfl rfl (agg_cells _) rfl rfl rfl H0 ?_
 clear H0; intro b1 a1 wx1 H1
 refine st_alloc rfl z_zeroN26 rfl rfl rfl H1 ?_
 clear H1; intro b2 a2 wx2 H2
 refine fin ?_
 refine then_n ?_
 refine wp_seq ?_
 refine reg ?_
 refine st_buildSlice rfl Tryd.underlying24 z_size69 z_zero69 rfl rfl rfl (show _ = some ([] : List Value) from rfl) rfl rfl rfl H2 ?_
 clear H2; intro b3 a3 wx3 H3
 refine plain (y_fieldB rfl z_field26_3 rfl (by first | (simp only [Nat.zero_add, Nat.add_zero, Nat.reduceAdd]; rfl) | rfl)) rfl rfl rfl H3 ?_
 clear H3; intro a4 H4
 refine plain (y_loadB rfl z_agg24 rfl MM (q_ix_c2b32c1_34 (by assumption))) rfl rfl rfl H4 ?_
 clear H4; intro a5 H5
 replace H5 := H5.asRow (b := b3) (size := 4) (m := 0) UU rfl (by unfold maxLen; omega)
 refine st_append rfl z_slice24 z_notint24 rfl rfl (fun _ => UU) (fun w hs => Src.slice ((rd_old hR (by simp)) w hs) (Inbox.ic_len _) (Tree.ic_cell _)) (by unfold maxLen at *; first | omega | (simp only [List.length_cons, List.length_nil, List.length_append, List.length_map]; omega)) (by omega) rfl rfl rfl H5 ?_
 clear H5; intro v6 a6 wx6 hnil6 H6
 obtain ⟨ArN, crN, hvrN, hRrN, hmrN⟩ := row_shape (v := v6) H6.sep MM
 subst hvrN
 simp only [List.nil_append, Nat.zero_add] at H6
 refine plain (y_fieldB rfl z_field26_3 rfl (by first | (simp only [Nat.zero_add, Nat.add_zero, Nat.reduceAdd]; rfl) | rfl)) rfl rfl rfl H6 ?_
 clear H6; intro a7 H7
 refine st_store1N rfl z_size24 rfl rfl rfl UU (q_len_c2b32c1 (by assumption)) (q_set_c2b32c1_34 (by assumption)) (by decide) rfl rfl H7 ?_
 clear H7; intro wx8 H8
 refine fin ?_
 refine then_n ?_
 refine wp_seq ?_
 refine reg ?_
 refine plain (y_loadAB rfl z_agg26 z_size26 rfl MM (q_ld_c2b32c1_0_35 (by assumption)) (q_len_c2b32c1 (by assumption))) rfl rfl rfl H8 ?_
 clear H8; intro a9 H9
 refine st_storeN rfl z_size26 rfl rfl (agg_cells _) UU (q_one_c2b32c1 rfl rfl rfl) (q_len_c2b32c1 (by assumption)) (q_len_c2b32c1 (by assumption)) (q_spl_c2b32c1_0_c2b32c1 (by assumption) (by assumption)) (by decide) rfl rfl H9 ?_
 clear H9; intro wx10 H10
 refine fin ?_
 refine then_n ?_
 refine wp_ret ?_
 -- return 1
 refine retc rfl H10 rfl z_agg26 z_size26 MM (q_len_c2b32c1 (by assumption)) ?_
 exact ⟨_, _, rfl, ⟨ArN, crN, rfl, rfl⟩, (H10.only (is := [It.row 69 4 (.slice ArN x.b.items.length crN) x.b.items.length (Inbox.ic x.b.items)]) (.cons PP (.nil _))).sep⟩

end Go.Proofs.YtlhddgkbbdfacaaDoor.C_Nx

set_option linter.unusedVariables false
set_option linter.unusedSimpArgs false
namespace Go.Proofs.YtlhddgkbbdfacaaDoor.C_Sm
open Go.Sx Go.RowKit

theorem z_field77_0 : fieldB Tryd.prog 77 0 = some 0 := by kernel_rfl
theorem z_agg36 : aggB Tryd.prog 36 = some false := by kernel_rfl
theorem z_call21 : callB Tryd.prog 21 = true := by kernel_rfl
theorem z_field77_2 : fieldB Tryd.prog 77 2 = some 2 := by kernel_rfl
theorem z_agg3 : aggB Tryd.prog 3 = some false := by kernel_rfl
theorem z_field77_3 : fieldB Tryd.prog 77 3 = some 3 := by kernel_rfl

set_option maxRecDepth 100000 in
set_option maxHeartbeats 1000000 in
theorem theight (X : List Inbox.BA) (hX : Tree.Wfs X) (h0 : 0 < X.length) (hlen : X.length ≤ 4097) (dp de : Int) (c : Nat) (v u : Value) {w : World} (hc_ : (It.blk c 77 [v, u, i64 dp, i64 de]).P w) (hv_ : (It.row 26 35 v X.length (Inbox.bc X)).P w)  : Calls Tryd.prog 21 #[.pointer (some ⟨c, 0, none⟩)] w (Gives (.int .i64 ((X.length : Int) - 1)) [] w) := by
 obtain ⟨A1, c1, rfl, hRx, hmx⟩ := Row.rd hv_
 have lz32 : (List.replicate 32 (0 : UInt8)).length = 32 := List.length_replicate
 refine enterL (args := [.pointer (some ⟨c, 0, none⟩)]) Tryd.func21 rfl rfl (l := []) (Sep.refl _) ?_
 intro a0 H0
 refine wp_seq ?_
 refine reg ?_
 refine plain (y_assign rfl rfl) rfl rfl rfl H0 ?_
 clear H0; intro a1 H1
 refine fin ?_
 refine then_n ?_
 refine wp_seq ?_
 refine wp_seq ?_
 refine reg ?_
 refine plain (y_move rfl rfl) rfl rfl rfl H1 ?_
 clear H1; intro a2 H2
 refine plain (y_peql rfl Tryd.underlying33 rfl rfl) rfl rfl rfl H2 ?_
 clear H2; intro a3 H3
 refine fin ?_
 refine then_n ?_
 refine cnd_f H3 rfl ?_
 refine wp_skip ?_
 refine then_n ?_
 refine wp_seq ?_
 refine reg ?_
 refine plain (y_move rfl rfl) rfl rfl rfl H3 ?_
 clear H3; intro a5 H5
 refine plain (y_nilCheck rfl rfl) rfl rfl rfl H5 ?_
 clear H5; intro a6 H6
 refine plain (y_fieldB rfl z_field77_0 rfl (by first | (simp only [Nat.zero_add, Nat.add_zero, Nat.reduceAdd]; rfl) | rfl)) rfl rfl rfl H6 ?_
 clear H6; intro a7 H7
 refine plain (y_loadO rfl z_agg36 rfl (blk_cell hc_ (by rfl)) (by simp)) rfl rfl rfl H7 ?_
 clear H7; intro a8 H8
 refine plain (y_len rfl Tryd.underlying36 rfl) rfl rfl rfl H8 ?_
 clear H8; intro a9 H9
 refine plain (y_sub rfl rfl rfl (by first | exact w64 (by omega) (by omega) | rfl)) rfl rfl rfl H9 ?_
 clear H9; intro a10 H10
 refine plain (y_assign rfl rfl) rfl rfl rfl H10 ?_
 clear H10; intro a11 H11
 refine fin ?_
 refine then_n ?_
 refine wp_ret ?_
 -- return 1
 refine ret1 rfl H11 rfl ?_
 exact ⟨_, [], rfl, ⟨rfl, rfl⟩, H11.sep.sub (List.nil_sublist _)⟩
set_option maxRecDepth 100000 in
set_option maxHeartbeats 1000000 in
theorem tfinal (X : List Inbox.BA) (hX : Tree.Wfs X) (h0 : 0 < X.length) (hlen : X.length ≤ 4097) (dp de : Int) (c : Nat) (v u : Value) (hdp : Note.I64 dp) (hdp0 : 0 ≤ dp) {w : World} (hc_ : (It.blk c 77 [v, u, i64 dp, i64 de]).P w) (hv_ : (It.row 26 35 v X.length (Inbox.bc X)).P w)  : Calls Tryd.prog 18 #[.pointer (some ⟨c, 0, none⟩)] w (Gives (.int .i64 (Tree.Chain.final (⟨Tree.bl X, dp, de⟩ : Tree.Chain))) [] w) := by
 have hdp2 := hdp.2
 have lz32 : (List.replicate 32 (0 : UInt8)).length = 32 := List.length_replicate
 refine enterL (args := [.pointer (some ⟨c, 0, none⟩)]) Tryd.func18 rfl rfl (l := []) (Sep.refl _) ?_
 intro a0 H0
 refine wp_seq ?_
 refine reg ?_
 refine plain (y_assign rfl rfl) rfl rfl rfl H0 ?_
 clear H0; intro a1 H1
 refine fin ?_
 refine then_n ?_
 refine wp_seq ?_
 refine wp_seq ?_
 refine reg ?_
 refine plain (y_move rfl rfl) rfl rfl rfl H1 ?_
 clear H1; intro a2 H2
 refine plain (y_peql rfl Tryd.underlying33 rfl rfl) rfl rfl rfl H2 ?_
 clear H2; intro a3 H3
 refine fin ?_
 refine then_n ?_
 refine cnd_f H3 rfl ?_
 refine wp_skip ?_
 refine then_n ?_
 refine wp_seq ?_
 refine qreg (by kernel_rfl) (by kernel_rfl) H3 ?_
 have F5 := H3.fr
 clear H3
 refine qplain (y_move rfl rfl) rfl rfl rfl F5 ?_
 clear F5; intro a6 H6
 refine qcallg rfl z_call21 rfl rfl rfl rfl H6 (fun w hs => (theight X hX h0 hlen dp de c v u (hs.keep hc_) (hs.keep hv_))) ?_
 clear H6; intro a7 H7
 refine qplain (y_move rfl rfl) rfl rfl rfl H7 ?_
 clear H7; intro a8 H8
 refine qplain (y_nilCheck rfl rfl) rfl rfl rfl H8 ?_
 clear H8; intro a9 H9
 refine qplain (y_fieldB rfl z_field77_2 rfl (by first | (simp only [Nat.zero_add, Nat.add_zero, Nat.reduceAdd]; rfl) | rfl)) rfl rfl rfl H9 ?_
 clear H9; intro a10 H10
 refine qplain (y_loadO rfl z_agg3 rfl (blk_cell hc_ (by rfl)) (by simp)) rfl rfl rfl H10 ?_
 clear H10; intro a11 H11
 refine qplain (y_sub rfl rfl rfl (by first | exact w64 (by omega) (by omega) | rfl)) rfl rfl rfl H11 ?_
 clear H11; intro a12 H12
 refine qplain (y_max2 rfl rfl rfl) rfl rfl rfl H12 ?_
 clear H12; intro a13 H13
 refine qplain (y_assign rfl rfl) rfl rfl rfl H13 ?_
 clear H13; intro a14 H14
 refine qfin H14 ?_
 clear H14; intro wx15 H15
 refine then_n ?_
 refine wp_ret ?_
 -- return 1
 refine ret1 rfl H15 rfl ?_
 exact ⟨_, [], rfl, ⟨by rw [Tree.final_max (by show 0 < (Tree.bl X).length; rw [Tree.bl_len]; exact h0)]; show _ = Value.int .i64 (max 0 (((Tree.bl X).length : Int) - 1 - dp)); rw [Tree.bl_len], rfl⟩, H15.sep.sub (List.nil_sublist _)⟩
set_option maxRecDepth 100000 in
set_option maxHeartbeats 1000000 in
theorem tdeepest (dp de : Int) (c : Nat) (v u : Value) {w : World} (hc_ : (It.blk c 77 [v, u, i64 dp, i64 de]).P w)  : Calls Tryd.prog 20 #[.pointer (some ⟨c, 0, none⟩)] w (Gives (.int .i64 de) [] w) := by
 have lz32 : (List.replicate 32 (0 : UInt8)).length = 32 := List.length_replicate
 refine enterL (args := [.pointer (some ⟨c, 0, none⟩)]) Tryd.func20 rfl rfl (l := []) (Sep.refl _) ?_
 intro a0 H0
 refine wp_seq ?_
 refine reg ?_
 refine plain (y_assign rfl rfl) rfl rfl rfl H0 ?_
 clear H0; intro a1 H1
 refine fin ?_
 refine then_n ?_
 refine wp_seq ?_
 refine wp_seq ?_
 refine reg ?_
 refine plain (y_move rfl rfl) rfl rfl rfl H1 ?_
 clear H1; intro a2 H2
 refine plain (y_peql rfl Tryd.underlying33 rfl rfl) rfl rfl rfl H2 ?_
 clear H2; intro a3 H3
 refine fin ?_
 refine then_n ?_
 refine cnd_f H3 rfl ?_
 refine wp_skip ?_
 refine then_n ?_
 refine wp_seq ?_
 refine reg ?_
 refine plain (y_move rfl rfl) rfl rfl rfl H3 ?_
 clear H3; intro a5 H5
 refine plain (y_nilCheck rfl rfl) rfl rfl rfl H5 ?_
 clear H5; intro a6 H6
 refine plain (y_fieldB rfl z_field77_3 rfl (by first | (simp only [Nat.zero_add, Nat.add_zero, Nat.reduceAdd]; rfl) | rfl)) rfl rfl rfl H6 ?_
 clear H6; intro a7 H7
 refine plain (y_loadO rfl z_agg3 rfl (blk_cell hc_ (by rfl)) (by simp)) rfl rfl rfl H7 ?_
 clear H7; intro a8 H8
 refine plain (y_assign rfl rfl) rfl rfl rfl H8 ?_
 clear H8; intro a9 H9
 refine fin ?_
 refine then_n ?_
 refine wp_ret ?_
 -- return 1
 refine ret1 rfl H9 rfl ?_
 exact ⟨_, [], rfl, ⟨rfl, rfl⟩, H9.sep.sub (List.nil_sublist _)⟩
end Go.Proofs.YtlhddgkbbdfacaaDoor.C_Sm

set_option linter.unusedVariables false
set_option linter.unusedSimpArgs false
namespace Go.Proofs.YtlhddgkbbdfacaaDoor.C_New
open Go.Sx Go.RowKit Go.Proofs.YtlhddgkbbdfacaaDoor.C_Block Go.Proofs.YtlhddgkbbdfacaaDoor.C_Sum Go.Proofs.YtlhddgkbbdfacaaDoor.C_Ref Go.Proofs.YtlhddgkbbdfacaaDoor.C_RSum Go.Proofs.YtlhddgkbbdfacaaDoor.C_Num Go.Proofs.YtlhddgkbbdfacaaDoor.C_Lay Go.Proofs.YtlhddgkbbdfacaaDoor.C_Leaf Go.Proofs.YtlhddgkbbdfacaaDoor.C_Item Go.Proofs.YtlhddgkbbdfacaaDoor.C_RefI Go.Proofs.YtlhddgkbbdfacaaDoor.C_Eq Go.Proofs.YtlhddgkbbdfacaaDoor.C_Hash Go.Proofs.YtlhddgkbbdfacaaDoor.C_Nx Go.Proofs.YtlhddgkbbdfacaaDoor.C_Sm

theorem z_zeroN26 : zeroL Tryd.prog 26 = some ((.int .i64 0 :: (.int .i64 0 :: ((List.replicate 32 (0 : UInt8)).map u8 ++ (.slice none 0 0 :: []))))) := by kernel_rfl
theorem z_places26 : placesB Tryd.prog 26 = some [(0, 1), (1, 1), (2, 32), (34, 1)] := by kernel_rfl
theorem z_call9 : callB Tryd.prog 9 = true := by kernel_rfl
theorem z_zeroN23 : zeroL Tryd.prog 23 = some ((List.replicate 32 (0 : UInt8)).map u8) := by kernel_rfl
theorem z_size23 : sizeB Tryd.prog 23 = some 32 := by kernel_rfl
theorem q_one_b32 {t0 : List UInt8} : (t0.map u8).all (·.oneCell') = true := (one_u8 _)
theorem q_len_b32 {t0 : List UInt8} (h0 : t0.length = 32) : (t0.map u8).length = 32 := (len_e (k := 32) h0)
theorem q_spl_b32_0_b32 {t0 : List UInt8} {s0 : List UInt8} (h0 : t0.length = 32) (g0 : s0.length = 32) : spl (t0.map u8) 0 (s0.map u8) = s0.map u8 := (spl_a (z := 32) (len_e (k := 32) h0) (len_e (k := 32) g0))
theorem z_size26 : sizeB Tryd.prog 26 = some 35 := by kernel_rfl
theorem z_zero26 : zeroL Tryd.prog 26 = some ([.int .i64 0, .int .i64 0, .int .u8 0, .int .u8 0, .int .u8 0, .int .u8 0, .int .u8 0, .int .u8 0, .int .u8 0, .int .u8 0, .int .u8 0, .int .u8 0, .int .u8 0, .int .u8 0, .int .u8 0, .int .u8 0, .int .u8 0, .int .u8 0, .int .u8 0, .int .u8 0, .int .u8 0, .int .u8 0, .int .u8 0, .int .u8 0, .int .u8 0, .int .u8 0, .int .u8 0, .int .u8 0, .int .u8 0, .int .u8 0, .int .u8 0, .int .u8 0, .int .u8 0, .int .u8 0, .slice none 0 0]) := by kernel_rfl
theorem z_agg23 : aggB Tryd.prog 23 = some true := by kernel_rfl
theorem q_ld_b32_0_32 {t0 : List UInt8} (h0 : t0.length = 32) : ((t0.map u8).drop 0).take 32 = t0.map u8 := (ld_a (len_e (k := 32) h0))
theorem z_zero23 : zeroL Tryd.prog 23 = some (List.replicate 32 (.int .u8 0)) := by kernel_rfl
theorem z_zeroN77 : zeroL Tryd.prog 77 = some ((.slice none 0 0 :: (.slice none 0 0 :: (.int .i64 0 :: (.int .i64 0 :: []))))) := by kernel_rfl
theorem z_places77 : placesB Tryd.prog 77 = some [(0, 1), (1, 1), (2, 1), (3, 1)] := by kernel_rfl
theorem q_len_c4 {a0 a1 a2 a3 : Value} : (a0 :: a1 :: a2 :: a3 :: []).length = 4 := (len_c (n := 3) (len_c (n := 2) (len_c (n := 1) (len_c (n := 0) len_n))))
theorem q_spl_c4_0_c1 {a0 a1 a2 a3 : Value} {b0 : Value} : spl (a0 :: a1 :: a2 :: a3 :: []) 0 (b0 :: []) = b0 :: a1 :: a2 :: a3 :: [] := spl_0
theorem q_spl_c4_1_c1 {a0 a1 a2 a3 : Value} {b0 : Value} : spl (a0 :: a1 :: a2 :: a3 :: []) 1 (b0 :: []) = a0 :: b0 :: a2 :: a3 :: [] := (spl_c (o := 0) spl_0)
theorem q_spl_c4_2_c1 {a0 a1 a2 a3 : Value} {b0 : Value} : spl (a0 :: a1 :: a2 :: a3 :: []) 2 (b0 :: []) = a0 :: a1 :: b0 :: a3 :: [] := (spl_c (o := 1) (spl_c (o := 0) spl_0))

set_option maxRecDepth 100000 in
set_option maxHeartbeats 2000000 in
theorem tnew (dp : Int) (h1 : 0 ≤ dp ∧ dp ≤ 4096) {w : World} (hG : Glob 0 Sha.K w) : Calls Tryd.prog 12 #[.int .i64 dp] w (Post [] w fun r l' => ∃ c v u, r = .tuple #[.pointer (some ⟨c, 0, none⟩), .int .i64 0] ∧ l' = [It.row 26 35 v [Inbox.BA.zero].length (Inbox.bc [Inbox.BA.zero]), It.row 23 32 u [Inbox.BA.zero].length (hc (Tree.hashes (Tree.bl [Inbox.BA.zero]))), It.blk c 77 [v, u, i64 dp, i64 0], (Tree.It.fz [Inbox.BA.zero])]) := by
 have hZl : Note.Z.length = 32 := Note.Z_len
 have lz32 : (List.replicate 32 (0 : UInt8)).length = 32 := List.length_replicate
 refine enterL (args := [.int .i64 dp]) Tryd.func12 rfl rfl (l := []) (Sep.refl _) ?_
 intro a0 H0
 refine wp_seq ?_
 refine reg ?_
 refine plain (y_assign rfl rfl) rfl rfl rfl H0 ?_
 clear H0; intro a1 H1
 refine plain (y_assign rfl rfl) rfl rfl rfl H1 ?_
 clear H1; intro a2 H2
 refine fin ?_
 refine then_n ?_
 refine wp_seq ?_
 refine wp_seq ?_
 refine reg ?_
 refine plain (y_move rfl rfl) rfl rfl rfl H2 ?_
 clear H2; intro a3 H3
 refine plain (y_lss rfl rfl rfl) rfl rfl rfl H3 ?_
 clear H3; intro a4 H4
 refine plain (y_move rfl rfl) rfl rfl rfl H4 ?_
 clear H4; intro a5 H5
 have H7 := H5.know (d := 8) (v := .bool false) rfl (congrArg Value.bool (decide_eq_false (by omega)))
 clear H5
 refine plain (y_move rfl rfl) rfl rfl rfl H7 ?_
 clear H7; intro a8 H8
 refine plain (y_gtr rfl rfl rfl) rfl rfl rfl H8 ?_
 clear H8; intro a9 H9
 refine plain (y_pick_f rfl rfl rfl) rfl rfl rfl H9 ?_
 clear H9; intro a10 H10
 refine fin ?_
 refine then_n ?_
 refine cnd H10 rfl (fun hc11 => ?_) (fun hc11 => ?_) -- cond 1
 ·(try simp only [decide_eq_true_eq, decide_eq_false_iff_not, Bool.not_eq_true', Bool.not_eq_false', Bool.and_eq_true, Bool.not_eq_true, Bool.not_eq_false] at hc11); (exfalso; omega)
 ·skip
  try simp only [decide_eq_true_eq, decide_eq_false_iff_not, Bool.not_eq_true', Bool.not_eq_false', Bool.and_eq_true, Bool.not_eq_true, Bool.not_eq_false] at hc11
  refine wp_skip ?_
  refine then_n ?_
  refine wp_seq ?_
  refine reg ?_
  refine plain (y_build rfl z_zeroN26 z_places26 rfl lay_n) rfl rfl rfl H10 ?_
  clear H10; intro a12 H12
  refine st_callg rfl z_call9 rfl rfl rfl rfl H12 (thash Inbox.BA.zero Tree.w0_zero (by decide) (Rd.nil _ _) (hG.frm H12.sep.frm (by simp))) ?_
  clear H12; intro a13 wx13 H13
  refine plain (y_move rfl rfl) rfl rfl rfl H13 ?_
  clear H13; intro a14 H14
  refine plain (y_extract rfl rfl rfl) rfl rfl rfl H14 ?_
  clear H14; intro a15 H15
  refine plain (y_extract rfl rfl rfl) rfl rfl rfl H15 ?_
  clear H15; intro a16 H16
  refine st_alloc rfl z_zeroN23 rfl rfl rfl H16 ?_
  clear H16; intro b17 a17 wx17 H17
  refine st_storeN rfl z_size23 rfl rfl (agg_cells _) UU q_one_b32 (q_len_b32 (by first | assumption | exact Tree.hash_len _)) (q_len_b32 (by first | assumption | exact Tree.hash_len _)) (q_spl_b32_0_b32 (by first | assumption | exact Tree.hash_len _) (by first | assumption | exact Tree.hash_len _)) (by decide) rfl rfl H17 ?_
  clear H17; intro wx18 H18
  refine plain (y_assign rfl rfl) rfl rfl rfl H18 ?_
  clear H18; intro a19 H19
  refine fin ?_
  refine then_n ?_
  refine wp_seq ?_
  refine reg ?_
  refine plain (y_build rfl z_zeroN26 z_places26 rfl lay_n) rfl rfl rfl H19 ?_
  clear H19; intro a20 H20
  refine st_buildSlice rfl Tryd.underlying36 z_size26 z_zero26 rfl rfl rfl (lay_agg (agg_cells _) (Inbox.BA.cells_len (x := Inbox.BA.zero) rfl) rfl) rfl rfl rfl H20 ?_
  clear H20; intro b21 a21 wx21 H21
  refine plain (y_loadAB rfl z_agg23 z_size23 rfl MM (q_ld_b32_0_32 (by first | assumption | exact Tree.hash_len _)) (q_len_b32 (by first | assumption | exact Tree.hash_len _))) rfl rfl rfl H21 ?_
  clear H21; intro a22 H22
  refine st_buildSlice rfl Tryd.underlying75 z_size23 z_zero23 rfl rfl rfl (lay_agg (agg_cells _) (by rw [List.length_map]; exact Tree.hash_len _) rfl) rfl rfl rfl H22 ?_
  clear H22; intro b23 a23 wx23 H23
  refine plain (y_move rfl rfl) rfl rfl rfl H23 ?_
  clear H23; intro a24 H24
  refine plain (y_build rfl z_zeroN77 z_places77 rfl (lay_1 (off := 0) (n := 4) rfl q_len_c4 (by decide) q_spl_c4_0_c1 (lay_1 (off := 1) (n := 4) rfl q_len_c4 (by decide) q_spl_c4_1_c1 (lay_1 (off := 2) (n := 4) rfl q_len_c4 (by decide) q_spl_c4_2_c1 lay_n (by rfl)) (by rfl)) (by rfl))) rfl rfl rfl H24 ?_
  clear H24; intro a25 H25
  refine st_box rfl rfl (agg_cells _) rfl rfl rfl H25 ?_
  clear H25; intro b26 a26 wx26 H26
  refine plain (y_assign rfl rfl) rfl rfl rfl H26 ?_
  clear H26; intro a27 H27
  refine plain (y_assign rfl rfl) rfl rfl rfl H27 ?_
  clear H27; intro a28 H28
  refine fin ?_
  refine then_n ?_
  refine wp_ret ?_
  -- return 1
  refine ret2 rfl H28 rfl rfl ?_
  replace H28 := H28.asRow (b := b21) (size := 35) (m := 1) UU rfl (by unfold maxLen; omega)
  replace H28 := H28.asRow (b := b23) (size := 32) (m := 1) UU (by rw [List.length_map]; exact Tree.hash_len _) (by unfold maxLen; omega)
  have hq := (Tree.St.addFz1 H28)
  have hq2 := (hq.only (is := [It.row 26 35 (.slice (some ⟨b21, 0, none⟩) 1 1) [Inbox.BA.zero].length (Inbox.bc [Inbox.BA.zero]), It.row 23 32 (.slice (some ⟨b23, 0, none⟩) 1 1) [Inbox.BA.zero].length (hc (Tree.hashes (Tree.bl [Inbox.BA.zero]))), It.blk b26 77 [(.slice (some ⟨b21, 0, none⟩) 1 1), (.slice (some ⟨b23, 0, none⟩) 1 1), i64 dp, i64 0], (Tree.It.fz [Inbox.BA.zero])]) (.cons PP (.cons PP (.cons PP (.cons PP (.nil _))))))
  exact ⟨_, _, rfl, ⟨_, _, _, rfl, rfl⟩, hq2.sep⟩

end Go.Proofs.YtlhddgkbbdfacaaDoor.C_New
