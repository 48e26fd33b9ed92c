/- Part of a proof about given Go functions: contracts of functions, or plain laws. -/
import Derived.Test.YtlaojmcpiggfeaaSxG
import Derived.Test.YtlaojmcpiggfeaaOct
import Derived.Test.YtlaojmcpiggfeaaProg
import Derived.Test.YtlaojmcpiggfeaaTNum
import Derived.Test.YtlaojmcpiggfeaaTRead
set_option linter.unusedVariables false
set_option linter.unusedSimpArgs false
namespace Go.Proofs.Ytlaojmcpiggfeaa.TLaw
open Go.Sx Go.RowKit Go.Proofs.Ytlaojmcpiggfeaa.TNum Go.Proofs.Ytlaojmcpiggfeaa.TRead

theorem z_call14 : callB Try.prog 14 = true := by kernel_rfl
theorem z_call35 : callB Try.prog 35 = true := by kernel_rfl
theorem z_call16 : callB Try.prog 16 = true := by kernel_rfl
theorem z_call15 : callB Try.prog 15 = true := by kernel_rfl
theorem z_call17 : callB Try.prog 17 = true := by kernel_rfl
theorem z_call18 : callB Try.prog 18 = true := by kernel_rfl
theorem z_call33 : callB Try.prog 33 = true := by kernel_rfl
theorem z_call34 : callB Try.prog 34 = true := by kernel_rfl

set_option maxRecDepth 100000 in
set_option maxHeartbeats 1000000 in
theorem awake (w : World) : Calls Try.prog 18 #[] w (Gives (.bool true) [] w) := by
  refine enterL (args := []) Try.func18 rfl rfl (l := []) (Sep.refl _) ?_
  intro a0 H0
  refine wp_seq ?_
  refine reg ?_
  refine plain (y_assign rfl rfl) rfl rfl rfl H0 ?_
  clear H0; intro a1 H1
  refine fin ?_
  refine then_n ?_
  refine wp_seq ?_
  refine reg ?_
  refine st_callg rfl z_call14 rfl rfl rfl rfl H1 (num _ (by omega) _) ?_
  clear H1; intro a2 w2 H2
  refine plain (y_move rfl rfl) rfl rfl rfl H2 ?_
  clear H2; intro a3 H3
  refine plain (y_extract rfl rfl rfl) rfl rfl rfl H3 ?_
  clear H3; intro a4 H4
  refine plain (y_extract rfl rfl rfl) rfl rfl rfl H4 ?_
  clear H4; intro a5 H5
  refine plain (y_assign rfl rfl) rfl rfl rfl H5 ?_
  clear H5; intro a6 H6
  refine plain (y_assign rfl rfl) rfl rfl rfl H6 ?_
  clear H6; intro a7 H7
  refine fin ?_
  refine then_n ?_
  refine wp_seq ?_
  refine reg ?_
  refine plain (y_move rfl rfl) rfl rfl rfl H7 ?_
  clear H7; intro a8 H8
  refine st_callg rfl z_call35 rfl rfl rfl rfl H8 (rnum _ 0 (by decide) (by omega) _) ?_
  clear H8; intro a9 w9 H9
  refine plain (y_move rfl rfl) rfl rfl rfl H9 ?_
  clear H9; intro a10 H10
  refine plain (y_extract rfl rfl rfl) rfl rfl rfl H10 ?_
  clear H10; intro a11 H11
  refine plain (y_extract rfl rfl rfl) rfl rfl rfl H11 ?_
  clear H11; intro a12 H12
  refine plain (y_extract rfl rfl rfl) rfl rfl rfl H12 ?_
  clear H12; intro a13 H13
  refine plain (y_assign rfl rfl) rfl rfl rfl H13 ?_
  clear H13; intro a14 H14
  refine plain (y_assign rfl rfl) rfl rfl rfl H14 ?_
  clear H14; intro a15 H15
  refine plain (y_assign rfl rfl) rfl rfl rfl H15 ?_
  clear H15; intro a16 H16
  refine fin ?_
  refine then_n ?_
  refine wp_seq ?_
  refine reg ?_
  refine st_callg rfl z_call16 rfl rfl rfl rfl H16 (txt _ (by decide) _) ?_
  clear H16; intro a17 w17 H17
  refine plain (y_move rfl rfl) rfl rfl rfl H17 ?_
  clear H17; intro a18 H18
  refine plain (y_extract rfl rfl rfl) rfl rfl rfl H18 ?_
  clear H18; intro a19 H19
  refine plain (y_extract rfl rfl rfl) rfl rfl rfl H19 ?_
  clear H19; intro a20 H20
  refine plain (y_assign rfl rfl) rfl rfl rfl H20 ?_
  clear H20; intro a21 H21
  refine plain (y_assign rfl rfl) rfl rfl rfl H21 ?_
  clear H21; intro a22 H22
  refine fin ?_
  refine then_n ?_
  refine wp_seq ?_
  refine reg ?_
  refine plain (y_move rfl rfl) rfl rfl rfl H22 ?_
  clear H22; intro a23 H23
  refine plain (y_eql rfl rfl rfl) rfl rfl rfl H23 ?_
  clear H23; intro a24 H24
  refine plain (y_move rfl rfl) rfl rfl rfl H24 ?_
  clear H24; intro a25 H25
  have H27 := H25.know (d := 24) (v := .bool true) rfl (by first | rfl | exact congrArg Value.bool (decide_eq_true (by first | rfl | decide)) | exact congrArg Value.bool (decide_eq_true (by simp)))
  clear H25
  refine plain (y_move rfl rfl) rfl rfl rfl H27 ?_
  clear H27; intro a28 H28
  refine plain (y_seql rfl rfl rfl) rfl rfl rfl H28 ?_
  clear H28; intro a29 H29
  refine plain (y_pick_t rfl rfl rfl) rfl rfl rfl H29 ?_
  clear H29; intro a30 H30
  refine plain (y_move rfl rfl) rfl rfl rfl H30 ?_
  clear H30; intro a31 H31
  have H33 := H31.know (d := 28) (v := .bool true) rfl (by first | rfl | exact congrArg Value.bool (decide_eq_true (by first | rfl | decide)) | exact congrArg Value.bool (decide_eq_true (by simp)))
  clear H31
  refine plain (y_move rfl rfl) rfl rfl rfl H33 ?_
  clear H33; intro a34 H34
  refine plain (y_eql rfl rfl rfl) rfl rfl rfl H34 ?_
  clear H34; intro a35 H35
  refine plain (y_pick_t rfl rfl rfl) rfl rfl rfl H35 ?_
  clear H35; intro a36 H36
  refine plain (y_move rfl rfl) rfl rfl rfl H36 ?_
  clear H36; intro a37 H37
  have H39 := H37.know (d := 32) (v := .bool true) rfl (by first | rfl | exact congrArg Value.bool (decide_eq_true (by first | rfl | decide)) | exact congrArg Value.bool (decide_eq_true (by simp)))
  clear H37
  refine plain (y_move rfl rfl) rfl rfl rfl H39 ?_
  clear H39; intro a40 H40
  refine plain (y_eql rfl rfl rfl) rfl rfl rfl H40 ?_
  clear H40; intro a41 H41
  refine plain (y_pick_t rfl rfl rfl) rfl rfl rfl H41 ?_
  clear H41; intro a42 H42
  refine plain (y_move rfl rfl) rfl rfl rfl H42 ?_
  clear H42; intro a43 H43
  have H45 := H43.know (d := 36) (v := .bool true) rfl (by first | rfl | exact congrArg Value.bool (decide_eq_true (by first | rfl | decide)) | exact congrArg Value.bool (decide_eq_true (by simp)))
  clear H43
  refine plain (y_move rfl rfl) rfl rfl rfl H45 ?_
  clear H45; intro a46 H46
  refine plain (y_eql rfl rfl rfl) rfl rfl rfl H46 ?_
  clear H46; intro a47 H47
  refine plain (y_pick_t rfl rfl rfl) rfl rfl rfl H47 ?_
  clear H47; intro a48 H48
  refine plain (y_move rfl rfl) rfl rfl rfl H48 ?_
  clear H48; intro a49 H49
  have H51 := H49.know (d := 40) (v := .bool true) rfl (by first | rfl | exact congrArg Value.bool (decide_eq_true (by first | rfl | decide)) | exact congrArg Value.bool (decide_eq_true (by simp)))
  clear H49
  refine plain (y_move rfl rfl) rfl rfl rfl H51 ?_
  clear H51; intro a52 H52
  refine plain (y_seql rfl rfl rfl) rfl rfl rfl H52 ?_
  clear H52; intro a53 H53
  refine plain (y_pick_t rfl rfl rfl) rfl rfl rfl H53 ?_
  clear H53; intro a54 H54
  refine plain (y_move rfl rfl) rfl rfl rfl H54 ?_
  clear H54; intro a55 H55
  have H57 := H55.know (d := 44) (v := .bool true) rfl (by first | rfl | exact congrArg Value.bool (decide_eq_true (by first | rfl | decide)) | exact congrArg Value.bool (decide_eq_true (by simp)))
  clear H55
  refine plain (y_move rfl rfl) rfl rfl rfl H57 ?_
  clear H57; intro a58 H58
  refine plain (y_eql rfl rfl rfl) rfl rfl rfl H58 ?_
  clear H58; intro a59 H59
  refine plain (y_pick_t rfl rfl rfl) rfl rfl rfl H59 ?_
  clear H59; intro a60 H60
  refine plain (y_assign rfl rfl) rfl rfl rfl H60 ?_
  clear H60; intro a61 H61
  refine fin ?_
  refine then_n ?_
  refine wp_ret ?_
  -- return 1
  refine ret1 rfl H61 rfl ?_
  exact ⟨_, [], rfl, ⟨(by first | rfl | exact congrArg Value.bool (decide_eq_true (by first | rfl | decide))), rfl⟩, H61.sep.sub (List.nil_sublist _)⟩
set_option maxRecDepth 100000 in
set_option maxHeartbeats 1000000 in
theorem octetsLays (n : Int) (hn : n ≤ 9223372036854775807) (s : List UInt8) (hs : s.length ≤ 9223372036854775807) (w : World) : Calls Try.prog 3 #[.int .i64 n, str s] w (Gives (.bool true) [] w) := by
  refine enterL (args := [.int .i64 n, str s]) Try.func3 rfl rfl (l := []) (Sep.refl _) ?_
  intro a0 H0
  refine wp_seq ?_
  refine reg ?_
  refine plain (y_assign rfl rfl) rfl rfl rfl H0 ?_
  clear H0; intro a1 H1
  refine fin ?_
  refine then_n ?_
  refine wp_seq ?_
  refine reg ?_
  refine plain (y_move rfl rfl) rfl rfl rfl H1 ?_
  clear H1; intro a2 H2
  refine st_callg rfl z_call14 rfl rfl rfl rfl H2 (num _ hn _) ?_
  clear H2; intro a3 w3 H3
  refine plain (y_move rfl rfl) rfl rfl rfl H3 ?_
  clear H3; intro a4 H4
  refine plain (y_extract rfl rfl rfl) rfl rfl rfl H4 ?_
  clear H4; intro a5 H5
  refine plain (y_extract rfl rfl rfl) rfl rfl rfl H5 ?_
  clear H5; intro a6 H6
  refine plain (y_assign rfl rfl) rfl rfl rfl H6 ?_
  clear H6; intro a7 H7
  refine plain (y_assign rfl rfl) rfl rfl rfl H7 ?_
  clear H7; intro a8 H8
  refine fin ?_
  refine then_n ?_
  refine wp_seq ?_
  refine reg ?_
  refine plain (y_move rfl rfl) rfl rfl rfl H8 ?_
  clear H8; intro a9 H9
  refine st_callg rfl z_call15 rfl rfl rfl rfl H9 (numR _ hn _) ?_
  clear H9; intro a10 w10 H10
  refine plain (y_move rfl rfl) rfl rfl rfl H10 ?_
  clear H10; intro a11 H11
  refine plain (y_extract rfl rfl rfl) rfl rfl rfl H11 ?_
  clear H11; intro a12 H12
  refine plain (y_extract rfl rfl rfl) rfl rfl rfl H12 ?_
  clear H12; intro a13 H13
  refine plain (y_assign rfl rfl) rfl rfl rfl H13 ?_
  clear H13; intro a14 H14
  refine plain (y_assign rfl rfl) rfl rfl rfl H14 ?_
  clear H14; intro a15 H15
  refine fin ?_
  refine then_n ?_
  refine wp_seq ?_
  refine reg ?_
  refine plain (y_move rfl rfl) rfl rfl rfl H15 ?_
  clear H15; intro a16 H16
  refine st_callg rfl z_call16 rfl rfl rfl rfl H16 (txt _ hs _) ?_
  clear H16; intro a17 w17 H17
  refine plain (y_move rfl rfl) rfl rfl rfl H17 ?_
  clear H17; intro a18 H18
  refine plain (y_extract rfl rfl rfl) rfl rfl rfl H18 ?_
  clear H18; intro a19 H19
  refine plain (y_extract rfl rfl rfl) rfl rfl rfl H19 ?_
  clear H19; intro a20 H20
  refine plain (y_assign rfl rfl) rfl rfl rfl H20 ?_
  clear H20; intro a21 H21
  refine plain (y_assign rfl rfl) rfl rfl rfl H21 ?_
  clear H21; intro a22 H22
  refine fin ?_
  refine then_n ?_
  refine wp_seq ?_
  refine reg ?_
  refine plain (y_move rfl rfl) rfl rfl rfl H22 ?_
  clear H22; intro a23 H23
  refine st_callg rfl z_call17 rfl rfl rfl rfl H23 (txtR _ hs _) ?_
  clear H23; intro a24 w24 H24
  refine plain (y_move rfl rfl) rfl rfl rfl H24 ?_
  clear H24; intro a25 H25
  refine plain (y_extract rfl rfl rfl) rfl rfl rfl H25 ?_
  clear H25; intro a26 H26
  refine plain (y_extract rfl rfl rfl) rfl rfl rfl H26 ?_
  clear H26; intro a27 H27
  refine plain (y_assign rfl rfl) rfl rfl rfl H27 ?_
  clear H27; intro a28 H28
  refine plain (y_assign rfl rfl) rfl rfl rfl H28 ?_
  clear H28; intro a29 H29
  refine fin ?_
  refine then_n ?_
  refine wp_seq ?_
  refine reg ?_
  refine st_callg rfl z_call18 rfl rfl rfl rfl H29 (awake _) ?_
  clear H29; intro a30 w30 H30
  refine plain (y_move rfl rfl) rfl rfl rfl H30 ?_
  clear H30; intro a31 H31
  refine plain (y_move rfl rfl) rfl rfl rfl H31 ?_
  clear H31; intro a32 H32
  refine plain (y_move rfl rfl) rfl rfl rfl H32 ?_
  clear H32; intro a33 H33
  refine plain (y_seql rfl rfl rfl) rfl rfl rfl H33 ?_
  clear H33; intro a34 H34
  refine plain (y_pick_t rfl rfl rfl) rfl rfl rfl H34 ?_
  clear H34; intro a35 H35
  refine plain (y_move rfl rfl) rfl rfl rfl H35 ?_
  clear H35; intro a36 H36
  have H38 := H36.know (d := 39) (v := .bool true) rfl (by first | rfl | exact congrArg Value.bool (decide_eq_true (by first | rfl | decide)) | exact congrArg Value.bool (decide_eq_true (by simp)))
  clear H36
  refine plain (y_move rfl rfl) rfl rfl rfl H38 ?_
  clear H38; intro a39 H39
  refine plain (y_move rfl rfl) rfl rfl rfl H39 ?_
  clear H39; intro a40 H40
  refine plain (y_eql rfl rfl rfl) rfl rfl rfl H40 ?_
  clear H40; intro a41 H41
  refine plain (y_pick_t rfl rfl rfl) rfl rfl rfl H41 ?_
  clear H41; intro a42 H42
  refine plain (y_move rfl rfl) rfl rfl rfl H42 ?_
  clear H42; intro a43 H43
  have H45 := H43.know (d := 44) (v := .bool true) rfl (by first | rfl | exact congrArg Value.bool (decide_eq_true (by first | rfl | decide)) | exact congrArg Value.bool (decide_eq_true (by simp)))
  clear H43
  refine plain (y_move rfl rfl) rfl rfl rfl H45 ?_
  clear H45; intro a46 H46
  refine plain (y_move rfl rfl) rfl rfl rfl H46 ?_
  clear H46; intro a47 H47
  refine plain (y_seql rfl rfl rfl) rfl rfl rfl H47 ?_
  clear H47; intro a48 H48
  refine plain (y_pick_t rfl rfl rfl) rfl rfl rfl H48 ?_
  clear H48; intro a49 H49
  refine plain (y_move rfl rfl) rfl rfl rfl H49 ?_
  clear H49; intro a50 H50
  have H52 := H50.know (d := 49) (v := .bool true) rfl (by first | rfl | exact congrArg Value.bool (decide_eq_true (by first | rfl | decide)) | exact congrArg Value.bool (decide_eq_true (by simp)))
  clear H50
  refine plain (y_move rfl rfl) rfl rfl rfl H52 ?_
  clear H52; intro a53 H53
  refine plain (y_move rfl rfl) rfl rfl rfl H53 ?_
  clear H53; intro a54 H54
  refine plain (y_eql rfl rfl rfl) rfl rfl rfl H54 ?_
  clear H54; intro a55 H55
  refine plain (y_pick_t rfl rfl rfl) rfl rfl rfl H55 ?_
  clear H55; intro a56 H56
  refine plain (y_assign rfl rfl) rfl rfl rfl H56 ?_
  clear H56; intro a57 H57
  refine fin ?_
  refine then_n ?_
  refine wp_ret ?_
  -- return 1
  refine ret1 rfl H57 rfl ?_
  exact ⟨_, [], rfl, ⟨(by first | rfl | exact congrArg Value.bool (decide_eq_true (by first | rfl | decide))), rfl⟩, H57.sep.sub (List.nil_sublist _)⟩
set_option maxRecDepth 100000 in
set_option maxHeartbeats 1000000 in
theorem octetsLists (l : List (List UInt8)) (A : Option Addr) (m c : Nat) (hm : m = l.length) (w : World) (hR : Rd w A (l.map str)) (hl : l.length ≤ 9223372036854775807) : Calls Try.prog 9 #[.slice A m c] w (Gives (.bool true) [] w) := by
  subst hm
  refine enterL (args := [.slice A l.length c]) Try.func9 rfl rfl (l := []) (Sep.refl _) ?_
  intro a0 H0
  refine wp_seq ?_
  refine reg ?_
  refine plain (y_assign rfl rfl) rfl rfl rfl H0 ?_
  clear H0; intro a1 H1
  refine fin ?_
  refine then_n ?_
  refine wp_seq ?_
  refine reg ?_
  refine plain (y_move rfl rfl) rfl rfl rfl H1 ?_
  clear H1; intro a2 H2
  refine st_callg rfl z_call33 rfl rfl rfl rfl H2 (lst l _ _ _ rfl (Rd.frm hR H2.sep.frm (by simp)) hl) ?_
  clear H2; intro a3 w3 H3
  refine plain (y_move rfl rfl) rfl rfl rfl H3 ?_
  clear H3; intro a4 H4
  refine plain (y_extract rfl rfl rfl) rfl rfl rfl H4 ?_
  clear H4; intro a5 H5
  refine plain (y_extract rfl rfl rfl) rfl rfl rfl H5 ?_
  clear H5; intro a6 H6
  refine plain (y_assign rfl rfl) rfl rfl rfl H6 ?_
  clear H6; intro a7 H7
  refine plain (y_assign rfl rfl) rfl rfl rfl H7 ?_
  clear H7; intro a8 H8
  refine fin ?_
  refine then_n ?_
  refine wp_seq ?_
  refine reg ?_
  refine plain (y_move rfl rfl) rfl rfl rfl H8 ?_
  clear H8; intro a9 H9
  refine st_callg rfl z_call34 rfl rfl rfl rfl H9 (lstR l _ _ _ rfl (Rd.frm hR H9.sep.frm (by simp)) hl) ?_
  clear H9; intro a10 w10 H10
  refine plain (y_move rfl rfl) rfl rfl rfl H10 ?_
  clear H10; intro a11 H11
  refine plain (y_extract rfl rfl rfl) rfl rfl rfl H11 ?_
  clear H11; intro a12 H12
  refine plain (y_extract rfl rfl rfl) rfl rfl rfl H12 ?_
  clear H12; intro a13 H13
  refine plain (y_assign rfl rfl) rfl rfl rfl H13 ?_
  clear H13; intro a14 H14
  refine plain (y_assign rfl rfl) rfl rfl rfl H14 ?_
  clear H14; intro a15 H15
  refine fin ?_
  refine then_n ?_
  refine wp_seq ?_
  refine reg ?_
  refine st_callg rfl z_call18 rfl rfl rfl rfl H15 (awake _) ?_
  clear H15; intro a16 w16 H16
  refine plain (y_move rfl rfl) rfl rfl rfl H16 ?_
  clear H16; intro a17 H17
  refine plain (y_move rfl rfl) rfl rfl rfl H17 ?_
  clear H17; intro a18 H18
  refine plain (y_move rfl rfl) rfl rfl rfl H18 ?_
  clear H18; intro a19 H19
  refine plain (y_seql rfl rfl rfl) rfl rfl rfl H19 ?_
  clear H19; intro a20 H20
  refine plain (y_pick_t rfl rfl rfl) rfl rfl rfl H20 ?_
  clear H20; intro a21 H21
  refine plain (y_move rfl rfl) rfl rfl rfl H21 ?_
  clear H21; intro a22 H22
  have H24 := H22.know (d := 23) (v := .bool true) rfl (by first | rfl | exact congrArg Value.bool (decide_eq_true (by first | rfl | decide)) | exact congrArg Value.bool (decide_eq_true (by simp)))
  clear H22
  refine plain (y_move rfl rfl) rfl rfl rfl H24 ?_
  clear H24; intro a25 H25
  refine plain (y_move rfl rfl) rfl rfl rfl H25 ?_
  clear H25; intro a26 H26
  refine plain (y_eql rfl rfl rfl) rfl rfl rfl H26 ?_
  clear H26; intro a27 H27
  refine plain (y_pick_t rfl rfl rfl) rfl rfl rfl H27 ?_
  clear H27; intro a28 H28
  refine plain (y_assign rfl rfl) rfl rfl rfl H28 ?_
  clear H28; intro a29 H29
  refine fin ?_
  refine then_n ?_
  refine wp_ret ?_
  -- return 1
  refine ret1 rfl H29 rfl ?_
  exact ⟨_, [], rfl, ⟨(by first | rfl | exact congrArg Value.bool (decide_eq_true (by first | rfl | decide))), rfl⟩, H29.sep.sub (List.nil_sublist _)⟩

end Go.Proofs.Ytlaojmcpiggfeaa.TLaw
