/- Part of a proof about given Go functions: contracts of functions, or plain laws. -/
import Derived.Test.YtlaojmcpiggfeaaSxG
import Derived.Test.YtlaojmcpiggfeaaOct2
import Derived.Test.YtlaojmcpiggfeaaProg
import Derived.Test.YtlaojmcpiggfeaaTNum
import Derived.Test.YtlaojmcpiggfeaaTRead
import Derived.Test.YtlaojmcpiggfeaaTLaw
set_option linter.unusedVariables false
set_option linter.unusedSimpArgs false
namespace Go.Proofs.Ytlaojmcpiggfeaa.TLaw3
open Go.Sx Go.RowKit Go.Proofs.Ytlaojmcpiggfeaa.TNum Go.Proofs.Ytlaojmcpiggfeaa.TRead Go.Proofs.Ytlaojmcpiggfeaa.TLaw

theorem z_call35 : callB Try.prog 35 = true := by kernel_rfl
theorem z_call39 : callB Try.prog 39 = true := by kernel_rfl
theorem z_call18 : callB Try.prog 18 = true := by kernel_rfl
theorem z_call14 : callB Try.prog 14 = true := by kernel_rfl
theorem z_call33 : callB Try.prog 33 = true := by kernel_rfl

set_option maxRecDepth 100000 in
set_option maxHeartbeats 2000000 in
theorem octetsOnce (s : List UInt8) (p : Int) (hs : s.length ≤ 140737488351232) (hp : -9223372036854775808 ≤ p ∧ p ≤ 9223372036854775807) (w : World) : Calls Try.prog 13 #[str s, .int .i64 p] w (Gives (.bool true) [] w) := by
  refine enterL (args := [str s, .int .i64 p]) Try.func13 rfl rfl (l := []) (Sep.refl _) ?_
  intro a0 H0
  refine wp_seq ?_
  refine reg ?_
  refine plain (y_assign rfl rfl) rfl rfl rfl H0 ?_
  clear H0; intro a1 H1
  refine fin ?_
  refine then_n ?_
  refine wp_seq ?_
  refine reg ?_
  refine plain (y_move rfl rfl) rfl rfl rfl H1 ?_
  clear H1; intro a2 H2
  refine plain (y_move rfl rfl) rfl rfl rfl H2 ?_
  clear H2; intro a3 H3
  refine st_callg rfl z_call35 rfl rfl rfl rfl H3 (rnum s p (by omega) hp _) ?_
  clear H3; intro a4 w4 H4
  refine plain (y_move rfl rfl) rfl rfl rfl H4 ?_
  clear H4; intro a5 H5
  refine plain (y_extract rfl rfl rfl) rfl rfl rfl H5 ?_
  clear H5; intro a6 H6
  refine plain (y_extract rfl rfl rfl) rfl rfl rfl H6 ?_
  clear H6; intro a7 H7
  refine plain (y_extract rfl rfl rfl) rfl rfl rfl H7 ?_
  clear H7; intro a8 H8
  refine plain (y_assign rfl rfl) rfl rfl rfl H8 ?_
  clear H8; intro a9 H9
  refine plain (y_assign rfl rfl) rfl rfl rfl H9 ?_
  clear H9; intro a10 H10
  refine plain (y_assign rfl rfl) rfl rfl rfl H10 ?_
  clear H10; intro a11 H11
  refine fin ?_
  refine then_n ?_
  refine wp_seq ?_
  refine reg ?_
  refine plain (y_move rfl rfl) rfl rfl rfl H11 ?_
  clear H11; intro a12 H12
  refine plain (y_move rfl rfl) rfl rfl rfl H12 ?_
  clear H12; intro a13 H13
  refine st_call rfl z_call39 rfl rfl rfl rfl H13 (rlst s p (by omega) hp _) ?_
  clear H13; intro v14 l14 a14 w14 hf14 H14
  obtain ⟨u14, rfl, rfl⟩ := hf14
  simp only [List.cons_append, List.nil_append] at H14
  obtain ⟨A14, c14, hv14, hR14, hm14⟩ := row_shape (v := u14) H14.sep (by repeat (first | exact List.Mem.head _ | apply List.Mem.tail))
  subst hv14
  refine plain (y_move rfl rfl) rfl rfl rfl H14 ?_
  clear H14; intro a15 H15
  refine plain (y_extract rfl rfl rfl) rfl rfl rfl H15 ?_
  clear H15; intro a16 H16
  refine plain (y_extract rfl rfl rfl) rfl rfl rfl H16 ?_
  clear H16; intro a17 H17
  refine plain (y_extract rfl rfl rfl) rfl rfl rfl H17 ?_
  clear H17; intro a18 H18
  refine plain (y_assign rfl rfl) rfl rfl rfl H18 ?_
  clear H18; intro a19 H19
  refine plain (y_assign rfl rfl) rfl rfl rfl H19 ?_
  clear H19; intro a20 H20
  refine plain (y_assign rfl rfl) rfl rfl rfl H20 ?_
  clear H20; intro a21 H21
  refine fin ?_
  refine then_n ?_
  refine wp_seq ?_
  refine wp_seq ?_
  refine reg ?_
  refine st_callg rfl z_call18 rfl rfl rfl rfl H21 (awake _) ?_
  clear H21; intro a22 w22 H22
  refine plain (y_not rfl rfl) rfl rfl rfl H22 ?_
  clear H22; intro a23 H23
  refine fin ?_
  refine then_n ?_
  refine cnd_f H23 rfl ?_
  refine wp_skip ?_
  refine then_n ?_
  refine wp_seq ?_
  refine wp_seq ?_
  refine reg ?_
  refine plain (y_move rfl rfl) rfl rfl rfl H23 ?_
  clear H23; intro a25 H25
  refine plain (y_eql rfl rfl rfl) rfl rfl rfl H25 ?_
  clear H25; intro a26 H26
  refine fin ?_
  refine then_n ?_
  refine cnd_d H26 rfl (fun hc27 => ?_) (fun hc27 => ?_)
  · skip
    have h0 : (Oct.rdn s p).2.2 = 0 := by omega
    have hb := Oct.rdn_bounds h0
    have hnb := Oct.number_back h0
    refine wp_seq ?_
    refine reg ?_
    refine plain (y_move rfl rfl) rfl rfl rfl H26 ?_
    clear H26; intro a28 H28
    refine st_callg rfl z_call14 rfl rfl rfl rfl H28 (num _ (by omega) _) ?_
    clear H28; intro a29 w29 H29
    refine plain (y_move rfl rfl) rfl rfl rfl H29 ?_
    clear H29; intro a30 H30
    refine plain (y_extract rfl rfl rfl) rfl rfl rfl H30 ?_
    clear H30; intro a31 H31
    refine plain (y_extract rfl rfl rfl) rfl rfl rfl H31 ?_
    clear H31; intro a32 H32
    refine plain (y_assign rfl rfl) rfl rfl rfl H32 ?_
    clear H32; intro a33 H33
    refine plain (y_assign rfl rfl) rfl rfl rfl H33 ?_
    clear H33; intro a34 H34
    refine fin ?_
    refine then_n ?_
    refine wp_seq ?_
    refine reg ?_
    refine plain (y_move rfl rfl) rfl rfl rfl H34 ?_
    clear H34; intro a35 H35
    refine plain (y_neq rfl rfl rfl) rfl rfl rfl H35 ?_
    clear H35; intro a36 H36
    refine plain (y_move rfl rfl) rfl rfl rfl H36 ?_
    clear H36; intro a37 H37
    have H39 := H37.know (d := 40) (v := .bool false) rfl (congrArg Value.bool (decide_eq_false (by rw [hnb.1]; simp)))
    clear H37
    refine plain (y_move rfl rfl) rfl rfl rfl H39 ?_
    clear H39; intro a40 H40
    refine plain (y_move rfl rfl) rfl rfl rfl H40 ?_
    clear H40; intro a41 H41
    refine plain (y_leq rfl rfl rfl) rfl rfl rfl H41 ?_
    clear H41; intro a42 H42
    refine plain (y_pick_f rfl rfl rfl) rfl rfl rfl H42 ?_
    clear H42; intro a43 H43
    refine plain (y_move rfl rfl) rfl rfl rfl H43 ?_
    clear H43; intro a44 H44
    have H46 := H44.know (d := 45) (v := .bool false) rfl (congrArg Value.bool (decide_eq_false (by omega)))
    clear H44
    refine plain (y_move rfl rfl) rfl rfl rfl H46 ?_
    clear H46; intro a47 H47
    refine plain (y_move rfl rfl) rfl rfl rfl H47 ?_
    clear H47; intro a48 H48
    refine plain (y_move rfl rfl) rfl rfl rfl H48 ?_
    clear H48; intro a49 H49
    refine plain (y_move rfl rfl) rfl rfl rfl H49 ?_
    clear H49; intro a50 H50
    refine plain (y_sslice rfl Try.underlying9 rfl rfl rfl (by omega) (by omega) (by omega)) rfl rfl rfl H50 ?_
    clear H50; intro a51 H51
    refine plain (y_sneq rfl rfl rfl) rfl rfl rfl H51 ?_
    clear H51; intro a52 H52
    refine plain (y_pick_f rfl rfl rfl) rfl rfl rfl H52 ?_
    clear H52; intro a53 H53
    refine fin ?_
    refine then_n ?_
    refine cnd_d H53 rfl (fun hc54 => ?_) (fun hc54 => ?_)
    · exact absurd (by rw [hnb.1]) hc54
    · skip
      refine wp_skip ?_
      refine then_n ?_
      refine wp_seq ?_
      refine wp_seq ?_
      refine reg ?_
      refine plain (y_move rfl rfl) rfl rfl rfl H53 ?_
      clear H53; intro a55 H55
      refine plain (y_neq rfl rfl rfl) rfl rfl rfl H55 ?_
      clear H55; intro a56 H56
      refine fin ?_
      refine then_n ?_
      refine cnd_d H56 rfl (fun hc57 => ?_) (fun hc57 => ?_)
      · skip
        have hln := Oct.rdl_nil (s := s) (p := p) (by omega)
        refine wp_seq ?_
        refine reg ?_
        refine plain (y_move rfl rfl) rfl rfl rfl H56 ?_
        clear H56; intro a58 H58
        refine plain (y_len rfl Try.underlying49 rfl) rfl rfl rfl H58 ?_
        clear H58; intro a59 H59
        refine plain (y_eql rfl rfl rfl) rfl rfl rfl H59 ?_
        clear H59; intro a60 H60
        refine plain (y_move rfl rfl) rfl rfl rfl H60 ?_
        clear H60; intro a61 H61
        have H63 := H61.know (d := 58) (v := .bool true) rfl (congrArg Value.bool (decide_eq_true (by rw [hln]; rfl)))
        clear H61
        refine plain (y_move rfl rfl) rfl rfl rfl H63 ?_
        clear H63; intro a64 H64
        refine plain (y_eql rfl rfl rfl) rfl rfl rfl H64 ?_
        clear H64; intro a65 H65
        refine plain (y_pick_t rfl rfl rfl) rfl rfl rfl H65 ?_
        clear H65; intro a66 H66
        refine plain (y_assign rfl rfl) rfl rfl rfl H66 ?_
        clear H66; intro a67 H67
        refine fin ?_
        refine then_n ?_
        refine wp_ret ?_
        refine then_r ?_
        -- return 1
        refine ret1 rfl H67 rfl ?_
        exact ⟨_, [], rfl, ⟨congrArg Value.bool (decide_eq_true (by rw [hln])), rfl⟩, H67.sep.sub (List.nil_sublist _)⟩
      · skip
        have hlz : (Oct.rdl s p).2.2 = 0 := by omega
        have hlb := Oct.list_back hlz
        refine wp_skip ?_
        refine then_n ?_
        refine wp_seq ?_
        refine reg ?_
        refine plain (y_move rfl rfl) rfl rfl rfl H56 ?_
        clear H56; intro a68 H68
        refine st_callg rfl z_call33 rfl rfl rfl rfl H68 (lst (Oct.rdl s p).1 _ _ _ rfl (Rd.ofSep (rd_row (by repeat (first | exact List.Mem.head _ | apply List.Mem.tail))) H68.sep) (Nat.le_trans Oct.rdl_len (by omega))) ?_
        clear H68; intro a69 w69 H69
        refine plain (y_move rfl rfl) rfl rfl rfl H69 ?_
        clear H69; intro a70 H70
        refine plain (y_extract rfl rfl rfl) rfl rfl rfl H70 ?_
        clear H70; intro a71 H71
        refine plain (y_extract rfl rfl rfl) rfl rfl rfl H71 ?_
        clear H71; intro a72 H72
        refine plain (y_assign rfl rfl) rfl rfl rfl H72 ?_
        clear H72; intro a73 H73
        refine plain (y_assign rfl rfl) rfl rfl rfl H73 ?_
        clear H73; intro a74 H74
        refine fin ?_
        refine then_n ?_
        refine wp_seq ?_
        refine reg ?_
        refine plain (y_move rfl rfl) rfl rfl rfl H74 ?_
        clear H74; intro a75 H75
        refine plain (y_eql rfl rfl rfl) rfl rfl rfl H75 ?_
        clear H75; intro a76 H76
        refine plain (y_move rfl rfl) rfl rfl rfl H76 ?_
        clear H76; intro a77 H77
        have H79 := H77.know (d := 69) (v := .bool true) rfl (congrArg Value.bool (decide_eq_true (by rw [hlb.1])))
        clear H77
        refine plain (y_move rfl rfl) rfl rfl rfl H79 ?_
        clear H79; intro a80 H80
        refine plain (y_move rfl rfl) rfl rfl rfl H80 ?_
        clear H80; intro a81 H81
        refine plain (y_move rfl rfl) rfl rfl rfl H81 ?_
        clear H81; intro a82 H82
        refine plain (y_move rfl rfl) rfl rfl rfl H82 ?_
        clear H82; intro a83 H83
        refine plain (y_sslice rfl Try.underlying9 rfl rfl rfl (by omega) (by omega) (by omega)) rfl rfl rfl H83 ?_
        clear H83; intro a84 H84
        refine plain (y_seql rfl rfl rfl) rfl rfl rfl H84 ?_
        clear H84; intro a85 H85
        refine plain (y_pick_t rfl rfl rfl) rfl rfl rfl H85 ?_
        clear H85; intro a86 H86
        refine plain (y_assign rfl rfl) rfl rfl rfl H86 ?_
        clear H86; intro a87 H87
        refine fin ?_
        refine then_n ?_
        refine wp_ret ?_
        -- return 2
        refine ret1 rfl H87 rfl ?_
        exact ⟨_, [], rfl, ⟨congrArg Value.bool (decide_eq_true (by rw [hlb.1])), rfl⟩, H87.sep.sub (List.nil_sublist _)⟩
  · skip
    refine wp_skip ?_
    refine then_n ?_
    refine wp_seq ?_
    refine wp_seq ?_
    refine reg ?_
    refine plain (y_move rfl rfl) rfl rfl rfl H26 ?_
    clear H26; intro a88 H88
    refine plain (y_neq rfl rfl rfl) rfl rfl rfl H88 ?_
    clear H88; intro a89 H89
    refine fin ?_
    refine then_n ?_
    refine cnd_d H89 rfl (fun hc90 => ?_) (fun hc90 => ?_)
    · skip
      have hln := Oct.rdl_nil (s := s) (p := p) (by omega)
      refine wp_seq ?_
      refine reg ?_
      refine plain (y_move rfl rfl) rfl rfl rfl H89 ?_
      clear H89; intro a91 H91
      refine plain (y_len rfl Try.underlying49 rfl) rfl rfl rfl H91 ?_
      clear H91; intro a92 H92
      refine plain (y_eql rfl rfl rfl) rfl rfl rfl H92 ?_
      clear H92; intro a93 H93
      refine plain (y_move rfl rfl) rfl rfl rfl H93 ?_
      clear H93; intro a94 H94
      have H96 := H94.know (d := 58) (v := .bool true) rfl (congrArg Value.bool (decide_eq_true (by rw [hln]; rfl)))
      clear H94
      refine plain (y_move rfl rfl) rfl rfl rfl H96 ?_
      clear H96; intro a97 H97
      refine plain (y_eql rfl rfl rfl) rfl rfl rfl H97 ?_
      clear H97; intro a98 H98
      refine plain (y_pick_t rfl rfl rfl) rfl rfl rfl H98 ?_
      clear H98; intro a99 H99
      refine plain (y_assign rfl rfl) rfl rfl rfl H99 ?_
      clear H99; intro a100 H100
      refine fin ?_
      refine then_n ?_
      refine wp_ret ?_
      refine then_r ?_
      -- return 3
      refine ret1 rfl H100 rfl ?_
      exact ⟨_, [], rfl, ⟨congrArg Value.bool (decide_eq_true (by rw [hln])), rfl⟩, H100.sep.sub (List.nil_sublist _)⟩
    · skip
      have hlz : (Oct.rdl s p).2.2 = 0 := by omega
      have hlb := Oct.list_back hlz
      refine wp_skip ?_
      refine then_n ?_
      refine wp_seq ?_
      refine reg ?_
      refine plain (y_move rfl rfl) rfl rfl rfl H89 ?_
      clear H89; intro a101 H101
      refine st_callg rfl z_call33 rfl rfl rfl rfl H101 (lst (Oct.rdl s p).1 _ _ _ rfl (Rd.ofSep (rd_row (by repeat (first | exact List.Mem.head _ | apply List.Mem.tail))) H101.sep) (Nat.le_trans Oct.rdl_len (by omega))) ?_
      clear H101; intro a102 w102 H102
      refine plain (y_move rfl rfl) rfl rfl rfl H102 ?_
      clear H102; intro a103 H103
      refine plain (y_extract rfl rfl rfl) rfl rfl rfl H103 ?_
      clear H103; intro a104 H104
      refine plain (y_extract rfl rfl rfl) rfl rfl rfl H104 ?_
      clear H104; intro a105 H105
      refine plain (y_assign rfl rfl) rfl rfl rfl H105 ?_
      clear H105; intro a106 H106
      refine plain (y_assign rfl rfl) rfl rfl rfl H106 ?_
      clear H106; intro a107 H107
      refine fin ?_
      refine then_n ?_
      refine wp_seq ?_
      refine reg ?_
      refine plain (y_move rfl rfl) rfl rfl rfl H107 ?_
      clear H107; intro a108 H108
      refine plain (y_eql rfl rfl rfl) rfl rfl rfl H108 ?_
      clear H108; intro a109 H109
      refine plain (y_move rfl rfl) rfl rfl rfl H109 ?_
      clear H109; intro a110 H110
      have H112 := H110.know (d := 69) (v := .bool true) rfl (congrArg Value.bool (decide_eq_true (by rw [hlb.1])))
      clear H110
      refine plain (y_move rfl rfl) rfl rfl rfl H112 ?_
      clear H112; intro a113 H113
      refine plain (y_move rfl rfl) rfl rfl rfl H113 ?_
      clear H113; intro a114 H114
      refine plain (y_move rfl rfl) rfl rfl rfl H114 ?_
      clear H114; intro a115 H115
      refine plain (y_move rfl rfl) rfl rfl rfl H115 ?_
      clear H115; intro a116 H116
      refine plain (y_sslice rfl Try.underlying9 rfl rfl rfl (by omega) (by omega) (by omega)) rfl rfl rfl H116 ?_
      clear H116; intro a117 H117
      refine plain (y_seql rfl rfl rfl) rfl rfl rfl H117 ?_
      clear H117; intro a118 H118
      refine plain (y_pick_t rfl rfl rfl) rfl rfl rfl H118 ?_
      clear H118; intro a119 H119
      refine plain (y_assign rfl rfl) rfl rfl rfl H119 ?_
      clear H119; intro a120 H120
      refine fin ?_
      refine then_n ?_
      refine wp_ret ?_
      -- return 4
      refine ret1 rfl H120 rfl ?_
      exact ⟨_, [], rfl, ⟨congrArg Value.bool (decide_eq_true (by rw [hlb.1])), rfl⟩, H120.sep.sub (List.nil_sublist _)⟩

end Go.Proofs.Ytlaojmcpiggfeaa.TLaw3
