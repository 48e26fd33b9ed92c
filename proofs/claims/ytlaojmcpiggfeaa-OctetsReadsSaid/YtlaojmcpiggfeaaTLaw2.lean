/- Part of a proof about given Go functions: contracts of functions, or plain laws. -/
import Derived.Test.YtlaojmcpiggfeaaSxG
import Derived.Test.YtlaojmcpiggfeaaOct2
import Derived.Test.YtlaojmcpiggfeaaProg
import Derived.Test.YtlaojmcpiggfeaaTNum
import Derived.Test.YtlaojmcpiggfeaaTRead
import Derived.Test.YtlaojmcpiggfeaaTLaw
set_option linter.unusedVariables false
set_option linter.unusedSimpArgs false
namespace Go.Proofs.Ytlaojmcpiggfeaa.TLaw2
open Go.Sx Go.RowKit Go.Proofs.Ytlaojmcpiggfeaa.TNum Go.Proofs.Ytlaojmcpiggfeaa.TRead Go.Proofs.Ytlaojmcpiggfeaa.TLaw

theorem z_call35 : callB Try.prog 35 = true := by kernel_rfl
theorem z_call36 : callB Try.prog 36 = true := by kernel_rfl
theorem z_call37 : callB Try.prog 37 = true := by kernel_rfl
theorem z_call38 : callB Try.prog 38 = true := by kernel_rfl
theorem z_call39 : callB Try.prog 39 = true := by kernel_rfl
theorem z_call40 : callB Try.prog 40 = true := by kernel_rfl
theorem z_call18 : callB Try.prog 18 = true := by kernel_rfl
theorem z_call41 : callB Try.prog 41 = true := by kernel_rfl

set_option maxRecDepth 100000 in
set_option maxHeartbeats 1000000 in
theorem octetsReads (s : List UInt8) (p : Int) (hs : s.length ≤ 140737488351232) (hp : -9223372036854775808 ≤ p ∧ p ≤ 9223372036854775807) (w : World) : Calls Try.prog 10 #[str s, .int .i64 p] w (Gives (.bool true) [] w) := by
  refine enterL (args := [str s, .int .i64 p]) Try.func10 rfl rfl (l := []) (Sep.refl _) ?_
  intro a0 H0
  refine wp_seq ?_
  refine reg ?_
  refine plain (y_assign rfl rfl) rfl rfl rfl H0 ?_
  clear H0; intro a1 H1
  refine fin ?_
  refine then_n ?_
  refine wp_seq ?_
  refine reg ?_
  refine plain (y_move rfl rfl) rfl rfl rfl H1 ?_
  clear H1; intro a2 H2
  refine plain (y_move rfl rfl) rfl rfl rfl H2 ?_
  clear H2; intro a3 H3
  refine st_callg rfl z_call35 rfl rfl rfl rfl H3 (rnum s p (by omega) hp _) ?_
  clear H3; intro a4 w4 H4
  refine plain (y_move rfl rfl) rfl rfl rfl H4 ?_
  clear H4; intro a5 H5
  refine plain (y_extract rfl rfl rfl) rfl rfl rfl H5 ?_
  clear H5; intro a6 H6
  refine plain (y_extract rfl rfl rfl) rfl rfl rfl H6 ?_
  clear H6; intro a7 H7
  refine plain (y_extract rfl rfl rfl) rfl rfl rfl H7 ?_
  clear H7; intro a8 H8
  refine plain (y_assign rfl rfl) rfl rfl rfl H8 ?_
  clear H8; intro a9 H9
  refine plain (y_assign rfl rfl) rfl rfl rfl H9 ?_
  clear H9; intro a10 H10
  refine plain (y_assign rfl rfl) rfl rfl rfl H10 ?_
  clear H10; intro a11 H11
  refine fin ?_
  refine then_n ?_
  refine wp_seq ?_
  refine reg ?_
  refine plain (y_move rfl rfl) rfl rfl rfl H11 ?_
  clear H11; intro a12 H12
  refine plain (y_move rfl rfl) rfl rfl rfl H12 ?_
  clear H12; intro a13 H13
  refine st_callg rfl z_call36 rfl rfl rfl rfl H13 (rnumR s p (by omega) hp _) ?_
  clear H13; intro a14 w14 H14
  refine plain (y_move rfl rfl) rfl rfl rfl H14 ?_
  clear H14; intro a15 H15
  refine plain (y_extract rfl rfl rfl) rfl rfl rfl H15 ?_
  clear H15; intro a16 H16
  refine plain (y_extract rfl rfl rfl) rfl rfl rfl H16 ?_
  clear H16; intro a17 H17
  refine plain (y_extract rfl rfl rfl) rfl rfl rfl H17 ?_
  clear H17; intro a18 H18
  refine plain (y_assign rfl rfl) rfl rfl rfl H18 ?_
  clear H18; intro a19 H19
  refine plain (y_assign rfl rfl) rfl rfl rfl H19 ?_
  clear H19; intro a20 H20
  refine plain (y_assign rfl rfl) rfl rfl rfl H20 ?_
  clear H20; intro a21 H21
  refine fin ?_
  refine then_n ?_
  refine wp_seq ?_
  refine reg ?_
  refine plain (y_move rfl rfl) rfl rfl rfl H21 ?_
  clear H21; intro a22 H22
  refine plain (y_move rfl rfl) rfl rfl rfl H22 ?_
  clear H22; intro a23 H23
  refine st_callg rfl z_call37 rfl rfl rfl rfl H23 (rtxt s p (by omega) hp _) ?_
  clear H23; intro a24 w24 H24
  refine plain (y_move rfl rfl) rfl rfl rfl H24 ?_
  clear H24; intro a25 H25
  refine plain (y_extract rfl rfl rfl) rfl rfl rfl H25 ?_
  clear H25; intro a26 H26
  refine plain (y_extract rfl rfl rfl) rfl rfl rfl H26 ?_
  clear H26; intro a27 H27
  refine plain (y_extract rfl rfl rfl) rfl rfl rfl H27 ?_
  clear H27; intro a28 H28
  refine plain (y_assign rfl rfl) rfl rfl rfl H28 ?_
  clear H28; intro a29 H29
  refine plain (y_assign rfl rfl) rfl rfl rfl H29 ?_
  clear H29; intro a30 H30
  refine plain (y_assign rfl rfl) rfl rfl rfl H30 ?_
  clear H30; intro a31 H31
  refine fin ?_
  refine then_n ?_
  refine wp_seq ?_
  refine reg ?_
  refine plain (y_move rfl rfl) rfl rfl rfl H31 ?_
  clear H31; intro a32 H32
  refine plain (y_move rfl rfl) rfl rfl rfl H32 ?_
  clear H32; intro a33 H33
  refine st_callg rfl z_call38 rfl rfl rfl rfl H33 (rtxtR s p (by omega) hp _) ?_
  clear H33; intro a34 w34 H34
  refine plain (y_move rfl rfl) rfl rfl rfl H34 ?_
  clear H34; intro a35 H35
  refine plain (y_extract rfl rfl rfl) rfl rfl rfl H35 ?_
  clear H35; intro a36 H36
  refine plain (y_extract rfl rfl rfl) rfl rfl rfl H36 ?_
  clear H36; intro a37 H37
  refine plain (y_extract rfl rfl rfl) rfl rfl rfl H37 ?_
  clear H37; intro a38 H38
  refine plain (y_assign rfl rfl) rfl rfl rfl H38 ?_
  clear H38; intro a39 H39
  refine plain (y_assign rfl rfl) rfl rfl rfl H39 ?_
  clear H39; intro a40 H40
  refine plain (y_assign rfl rfl) rfl rfl rfl H40 ?_
  clear H40; intro a41 H41
  refine fin ?_
  refine then_n ?_
  refine wp_seq ?_
  refine reg ?_
  refine plain (y_move rfl rfl) rfl rfl rfl H41 ?_
  clear H41; intro a42 H42
  refine plain (y_move rfl rfl) rfl rfl rfl H42 ?_
  clear H42; intro a43 H43
  refine st_call rfl z_call39 rfl rfl rfl rfl H43 (rlst s p (by omega) hp _) ?_
  clear H43; intro v44 l44 a44 w44 hf44 H44
  obtain ⟨u44, rfl, rfl⟩ := hf44
  simp only [List.cons_append, List.nil_append] at H44
  obtain ⟨A44, c44, hv44, hR44, hm44⟩ := row_shape (v := u44) H44.sep (by repeat (first | exact List.Mem.head _ | apply List.Mem.tail))
  subst hv44
  refine plain (y_move rfl rfl) rfl rfl rfl H44 ?_
  clear H44; intro a45 H45
  refine plain (y_extract rfl rfl rfl) rfl rfl rfl H45 ?_
  clear H45; intro a46 H46
  refine plain (y_extract rfl rfl rfl) rfl rfl rfl H46 ?_
  clear H46; intro a47 H47
  refine plain (y_extract rfl rfl rfl) rfl rfl rfl H47 ?_
  clear H47; intro a48 H48
  refine plain (y_assign rfl rfl) rfl rfl rfl H48 ?_
  clear H48; intro a49 H49
  refine plain (y_assign rfl rfl) rfl rfl rfl H49 ?_
  clear H49; intro a50 H50
  refine plain (y_assign rfl rfl) rfl rfl rfl H50 ?_
  clear H50; intro a51 H51
  refine fin ?_
  refine then_n ?_
  refine wp_seq ?_
  refine reg ?_
  refine plain (y_move rfl rfl) rfl rfl rfl H51 ?_
  clear H51; intro a52 H52
  refine plain (y_move rfl rfl) rfl rfl rfl H52 ?_
  clear H52; intro a53 H53
  refine st_call rfl z_call40 rfl rfl rfl rfl H53 (rlstR s p (by omega) hp _) ?_
  clear H53; intro v54 l54 a54 w54 hf54 H54
  obtain ⟨u54, rfl, rfl⟩ := hf54
  simp only [List.cons_append, List.nil_append] at H54
  obtain ⟨A54, c54, hv54, hR54, hm54⟩ := row_shape (v := u54) H54.sep (by repeat (first | exact List.Mem.head _ | apply List.Mem.tail))
  subst hv54
  refine plain (y_move rfl rfl) rfl rfl rfl H54 ?_
  clear H54; intro a55 H55
  refine plain (y_extract rfl rfl rfl) rfl rfl rfl H55 ?_
  clear H55; intro a56 H56
  refine plain (y_extract rfl rfl rfl) rfl rfl rfl H56 ?_
  clear H56; intro a57 H57
  refine plain (y_extract rfl rfl rfl) rfl rfl rfl H57 ?_
  clear H57; intro a58 H58
  refine plain (y_assign rfl rfl) rfl rfl rfl H58 ?_
  clear H58; intro a59 H59
  refine plain (y_assign rfl rfl) rfl rfl rfl H59 ?_
  clear H59; intro a60 H60
  refine plain (y_assign rfl rfl) rfl rfl rfl H60 ?_
  clear H60; intro a61 H61
  refine fin ?_
  refine then_n ?_
  refine wp_seq ?_
  refine reg ?_
  refine st_callg rfl z_call18 rfl rfl rfl rfl H61 (awake _) ?_
  clear H61; intro a62 w62 H62
  refine plain (y_move rfl rfl) rfl rfl rfl H62 ?_
  clear H62; intro a63 H63
  refine plain (y_move rfl rfl) rfl rfl rfl H63 ?_
  clear H63; intro a64 H64
  refine plain (y_move rfl rfl) rfl rfl rfl H64 ?_
  clear H64; intro a65 H65
  refine plain (y_eql rfl rfl rfl) rfl rfl rfl H65 ?_
  clear H65; intro a66 H66
  refine plain (y_pick_t rfl rfl rfl) rfl rfl rfl H66 ?_
  clear H66; intro a67 H67
  refine plain (y_move rfl rfl) rfl rfl rfl H67 ?_
  clear H67; intro a68 H68
  have H70 := H68.know (d := 71) (v := .bool true) rfl (by first | rfl | exact congrArg Value.bool (decide_eq_true (by first | rfl | decide)) | exact congrArg Value.bool (decide_eq_true (by simp)))
  clear H68
  refine plain (y_move rfl rfl) rfl rfl rfl H70 ?_
  clear H70; intro a71 H71
  refine plain (y_move rfl rfl) rfl rfl rfl H71 ?_
  clear H71; intro a72 H72
  refine plain (y_eql rfl rfl rfl) rfl rfl rfl H72 ?_
  clear H72; intro a73 H73
  refine plain (y_pick_t rfl rfl rfl) rfl rfl rfl H73 ?_
  clear H73; intro a74 H74
  refine plain (y_move rfl rfl) rfl rfl rfl H74 ?_
  clear H74; intro a75 H75
  have H77 := H75.know (d := 76) (v := .bool true) rfl (by first | rfl | exact congrArg Value.bool (decide_eq_true (by first | rfl | decide)) | exact congrArg Value.bool (decide_eq_true (by simp)))
  clear H75
  refine plain (y_move rfl rfl) rfl rfl rfl H77 ?_
  clear H77; intro a78 H78
  refine plain (y_move rfl rfl) rfl rfl rfl H78 ?_
  clear H78; intro a79 H79
  refine plain (y_eql rfl rfl rfl) rfl rfl rfl H79 ?_
  clear H79; intro a80 H80
  refine plain (y_pick_t rfl rfl rfl) rfl rfl rfl H80 ?_
  clear H80; intro a81 H81
  refine plain (y_move rfl rfl) rfl rfl rfl H81 ?_
  clear H81; intro a82 H82
  have H84 := H82.know (d := 81) (v := .bool true) rfl (by first | rfl | exact congrArg Value.bool (decide_eq_true (by first | rfl | decide)) | exact congrArg Value.bool (decide_eq_true (by simp)))
  clear H82
  refine plain (y_move rfl rfl) rfl rfl rfl H84 ?_
  clear H84; intro a85 H85
  refine plain (y_move rfl rfl) rfl rfl rfl H85 ?_
  clear H85; intro a86 H86
  refine plain (y_seql rfl rfl rfl) rfl rfl rfl H86 ?_
  clear H86; intro a87 H87
  refine plain (y_pick_t rfl rfl rfl) rfl rfl rfl H87 ?_
  clear H87; intro a88 H88
  refine plain (y_move rfl rfl) rfl rfl rfl H88 ?_
  clear H88; intro a89 H89
  have H91 := H89.know (d := 86) (v := .bool true) rfl (by first | rfl | exact congrArg Value.bool (decide_eq_true (by first | rfl | decide)) | exact congrArg Value.bool (decide_eq_true (by simp)))
  clear H89
  refine plain (y_move rfl rfl) rfl rfl rfl H91 ?_
  clear H91; intro a92 H92
  refine plain (y_move rfl rfl) rfl rfl rfl H92 ?_
  clear H92; intro a93 H93
  refine plain (y_eql rfl rfl rfl) rfl rfl rfl H93 ?_
  clear H93; intro a94 H94
  refine plain (y_pick_t rfl rfl rfl) rfl rfl rfl H94 ?_
  clear H94; intro a95 H95
  refine plain (y_move rfl rfl) rfl rfl rfl H95 ?_
  clear H95; intro a96 H96
  have H98 := H96.know (d := 91) (v := .bool true) rfl (by first | rfl | exact congrArg Value.bool (decide_eq_true (by first | rfl | decide)) | exact congrArg Value.bool (decide_eq_true (by simp)))
  clear H96
  refine plain (y_move rfl rfl) rfl rfl rfl H98 ?_
  clear H98; intro a99 H99
  refine plain (y_move rfl rfl) rfl rfl rfl H99 ?_
  clear H99; intro a100 H100
  refine plain (y_eql rfl rfl rfl) rfl rfl rfl H100 ?_
  clear H100; intro a101 H101
  refine plain (y_pick_t rfl rfl rfl) rfl rfl rfl H101 ?_
  clear H101; intro a102 H102
  refine plain (y_move rfl rfl) rfl rfl rfl H102 ?_
  clear H102; intro a103 H103
  have H105 := H103.know (d := 96) (v := .bool true) rfl (by first | rfl | exact congrArg Value.bool (decide_eq_true (by first | rfl | decide)) | exact congrArg Value.bool (decide_eq_true (by simp)))
  clear H103
  refine plain (y_move rfl rfl) rfl rfl rfl H105 ?_
  clear H105; intro a106 H106
  refine plain (y_move rfl rfl) rfl rfl rfl H106 ?_
  clear H106; intro a107 H107
  refine st_callg rfl z_call41 rfl rfl rfl rfl H107 (same (Oct.rdl s p).1 (Oct.rdl s p).1 _ _ _ _ _ _ rfl rfl (Rd.ofSep (rd_row (by repeat (first | exact List.Mem.head _ | apply List.Mem.tail))) H107.sep) (Rd.ofSep (rd_row (by repeat (first | exact List.Mem.head _ | apply List.Mem.tail))) H107.sep) (Nat.le_trans Oct.rdl_len (by omega))) ?_
  clear H107; intro a108 w108 H108
  refine plain (y_pick_t rfl rfl rfl) rfl rfl rfl H108 ?_
  clear H108; intro a109 H109
  refine plain (y_move rfl rfl) rfl rfl rfl H109 ?_
  clear H109; intro a110 H110
  have H112 := H110.know (d := 101) (v := .bool true) rfl (by first | rfl | exact congrArg Value.bool (decide_eq_true (by first | rfl | decide)) | exact congrArg Value.bool (decide_eq_true (by simp)))
  clear H110
  refine plain (y_move rfl rfl) rfl rfl rfl H112 ?_
  clear H112; intro a113 H113
  refine plain (y_move rfl rfl) rfl rfl rfl H113 ?_
  clear H113; intro a114 H114
  refine plain (y_eql rfl rfl rfl) rfl rfl rfl H114 ?_
  clear H114; intro a115 H115
  refine plain (y_pick_t rfl rfl rfl) rfl rfl rfl H115 ?_
  clear H115; intro a116 H116
  refine plain (y_move rfl rfl) rfl rfl rfl H116 ?_
  clear H116; intro a117 H117
  have H119 := H117.know (d := 106) (v := .bool true) rfl (by first | rfl | exact congrArg Value.bool (decide_eq_true (by first | rfl | decide)) | exact congrArg Value.bool (decide_eq_true (by simp)))
  clear H117
  refine plain (y_move rfl rfl) rfl rfl rfl H119 ?_
  clear H119; intro a120 H120
  refine plain (y_move rfl rfl) rfl rfl rfl H120 ?_
  clear H120; intro a121 H121
  refine plain (y_eql rfl rfl rfl) rfl rfl rfl H121 ?_
  clear H121; intro a122 H122
  refine plain (y_pick_t rfl rfl rfl) rfl rfl rfl H122 ?_
  clear H122; intro a123 H123
  refine plain (y_assign rfl rfl) rfl rfl rfl H123 ?_
  clear H123; intro a124 H124
  refine fin ?_
  refine then_n ?_
  refine wp_ret ?_
  -- return 1
  refine ret1 rfl H124 rfl ?_
  exact ⟨_, [], rfl, ⟨(by first | rfl | exact congrArg Value.bool (decide_eq_true (by first | rfl | decide))), rfl⟩, H124.sep.sub (List.nil_sublist _)⟩

end Go.Proofs.Ytlaojmcpiggfeaa.TLaw2
