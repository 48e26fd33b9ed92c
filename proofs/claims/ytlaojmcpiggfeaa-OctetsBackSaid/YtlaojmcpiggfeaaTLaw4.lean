/- Part of a proof about given Go functions: contracts of functions, or plain laws. -/
import Derived.Test.YtlaojmcpiggfeaaSxG
import Derived.Test.YtlaojmcpiggfeaaOct2
import Derived.Test.YtlaojmcpiggfeaaProg
import Derived.Test.YtlaojmcpiggfeaaTNum
import Derived.Test.YtlaojmcpiggfeaaTRead
import Derived.Test.YtlaojmcpiggfeaaTLaw
set_option linter.unusedVariables false
set_option linter.unusedSimpArgs false
namespace Go.Proofs.Ytlaojmcpiggfeaa.TLaw4
open Go.Sx Go.RowKit Go.Proofs.Ytlaojmcpiggfeaa.TNum Go.Proofs.Ytlaojmcpiggfeaa.TRead Go.Proofs.Ytlaojmcpiggfeaa.TLaw

theorem z_call14 : callB Try.prog 14 = true := by kernel_rfl
theorem z_call33 : callB Try.prog 33 = true := by kernel_rfl
theorem z_call18 : callB Try.prog 18 = true := by kernel_rfl
theorem z_call35 : callB Try.prog 35 = true := by kernel_rfl
theorem z_call39 : callB Try.prog 39 = true := by kernel_rfl
theorem z_call41 : callB Try.prog 41 = true := by kernel_rfl

set_option maxRecDepth 100000 in
set_option maxHeartbeats 2000000 in
theorem octetsBack (n : Int) (hn0 : -9223372036854775808 ≤ n) (hn : n ≤ 9223372036854775807) (l : List (List UInt8)) (A : Option Addr) (m c : Nat) (hm : m = l.length) (a : List UInt8) (ha : a.length ≤ 140737488351232) (w : World) (hR : Rd w A (l.map str)) (hl : l.length ≤ 9223372036854775807) : Calls Try.prog 12 #[.int .i64 n, .slice A m c, str a] w (Gives (.bool true) [] w) := by
  subst hm
  refine enterL (args := [.int .i64 n, .slice A l.length c, str a]) Try.func12 rfl rfl (l := []) (Sep.refl _) ?_
  intro a0 H0
  refine wp_seq ?_
  refine reg ?_
  refine plain (y_assign rfl rfl) rfl rfl rfl H0 ?_
  clear H0; intro a1 H1
  refine fin ?_
  refine then_n ?_
  refine wp_seq ?_
  refine reg ?_
  refine plain (y_move rfl rfl) rfl rfl rfl H1 ?_
  clear H1; intro a2 H2
  refine st_callg rfl z_call14 rfl rfl rfl rfl H2 (num _ hn _) ?_
  clear H2; intro a3 w3 H3
  refine plain (y_move rfl rfl) rfl rfl rfl H3 ?_
  clear H3; intro a4 H4
  refine plain (y_extract rfl rfl rfl) rfl rfl rfl H4 ?_
  clear H4; intro a5 H5
  refine plain (y_extract rfl rfl rfl) rfl rfl rfl H5 ?_
  clear H5; intro a6 H6
  refine plain (y_assign rfl rfl) rfl rfl rfl H6 ?_
  clear H6; intro a7 H7
  refine plain (y_assign rfl rfl) rfl rfl rfl H7 ?_
  clear H7; intro a8 H8
  refine fin ?_
  refine then_n ?_
  refine wp_seq ?_
  refine reg ?_
  refine plain (y_move rfl rfl) rfl rfl rfl H8 ?_
  clear H8; intro a9 H9
  refine st_callg rfl z_call33 rfl rfl rfl rfl H9 (lst l _ _ _ rfl (Rd.frm hR H9.sep.frm (by simp)) hl) ?_
  clear H9; intro a10 w10 H10
  refine plain (y_move rfl rfl) rfl rfl rfl H10 ?_
  clear H10; intro a11 H11
  refine plain (y_extract rfl rfl rfl) rfl rfl rfl H11 ?_
  clear H11; intro a12 H12
  refine plain (y_extract rfl rfl rfl) rfl rfl rfl H12 ?_
  clear H12; intro a13 H13
  refine plain (y_assign rfl rfl) rfl rfl rfl H13 ?_
  clear H13; intro a14 H14
  refine plain (y_assign rfl rfl) rfl rfl rfl H14 ?_
  clear H14; intro a15 H15
  refine fin ?_
  refine then_n ?_
  refine wp_seq ?_
  refine wp_seq ?_
  refine reg ?_
  refine st_callg rfl z_call18 rfl rfl rfl rfl H15 (awake _) ?_
  clear H15; intro a16 w16 H16
  refine plain (y_not rfl rfl) rfl rfl rfl H16 ?_
  clear H16; intro a17 H17
  refine fin ?_
  refine then_n ?_
  refine cnd_f H17 rfl ?_
  refine wp_skip ?_
  refine then_n ?_
  refine wp_seq ?_
  refine wp_seq ?_
  refine reg ?_
  refine plain (y_move rfl rfl) rfl rfl rfl H17 ?_
  clear H17; intro a19 H19
  refine plain (y_eql rfl rfl rfl) rfl rfl rfl H19 ?_
  clear H19; intro a20 H20
  refine fin ?_
  refine then_n ?_
  refine cnd_d H20 rfl (fun hc21 => ?_) (fun hc21 => ?_)
  · skip
    have hrn := Oct.rdn_number (a := a) (n := n) hn hc21
    refine wp_seq ?_
    refine reg ?_
    refine plain (y_move rfl rfl) rfl rfl rfl H20 ?_
    clear H20; intro a22 H22
    refine plain (y_move rfl rfl) rfl rfl rfl H22 ?_
    clear H22; intro a23 H23
    refine plain (y_sadd rfl rfl rfl (by have := Oct.number_len (n := n) hn; omega)) rfl rfl rfl H23 ?_
    clear H23; intro a24 H24
    refine plain (y_sadd rfl rfl rfl (by have := Oct.number_len (n := n) hn; simp only [List.length_append, List.length_singleton]; omega)) rfl rfl rfl H24 ?_
    clear H24; intro a25 H25
    refine plain (y_move rfl rfl) rfl rfl rfl H25 ?_
    clear H25; intro a26 H26
    refine plain (y_slen rfl Try.underlying9 rfl) rfl rfl rfl H26 ?_
    clear H26; intro a27 H27
    refine st_callg rfl z_call35 rfl rfl rfl rfl H27 (rnum (a ++ (Oct.number n).1 ++ [120]) (a.length : Int) (by have := Oct.number_len (n := n) hn; simp only [List.length_append, List.length_singleton]; omega) (by omega) _) ?_
    clear H27; intro a28 w28 H28
    refine plain (y_move rfl rfl) rfl rfl rfl H28 ?_
    clear H28; intro a29 H29
    refine plain (y_extract rfl rfl rfl) rfl rfl rfl H29 ?_
    clear H29; intro a30 H30
    refine plain (y_extract rfl rfl rfl) rfl rfl rfl H30 ?_
    clear H30; intro a31 H31
    refine plain (y_extract rfl rfl rfl) rfl rfl rfl H31 ?_
    clear H31; intro a32 H32
    refine plain (y_assign rfl rfl) rfl rfl rfl H32 ?_
    clear H32; intro a33 H33
    refine plain (y_assign rfl rfl) rfl rfl rfl H33 ?_
    clear H33; intro a34 H34
    refine plain (y_assign rfl rfl) rfl rfl rfl H34 ?_
    clear H34; intro a35 H35
    refine fin ?_
    refine then_n ?_
    refine wp_seq ?_
    refine reg ?_
    refine plain (y_move rfl rfl) rfl rfl rfl H35 ?_
    clear H35; intro a36 H36
    refine plain (y_move rfl rfl) rfl rfl rfl H36 ?_
    clear H36; intro a37 H37
    refine plain (y_neq rfl rfl rfl) rfl rfl rfl H37 ?_
    clear H37; intro a38 H38
    refine plain (y_move rfl rfl) rfl rfl rfl H38 ?_
    clear H38; intro a39 H39
    have H41 := H39.know (d := 45) (v := .bool false) rfl (congrArg Value.bool (decide_eq_false (by rw [hrn]; simp)))
    clear H39
    refine plain (y_move rfl rfl) rfl rfl rfl H41 ?_
    clear H41; intro a42 H42
    refine plain (y_move rfl rfl) rfl rfl rfl H42 ?_
    clear H42; intro a43 H43
    refine plain (y_slen rfl Try.underlying9 rfl) rfl rfl rfl H43 ?_
    clear H43; intro a44 H44
    refine plain (y_move rfl rfl) rfl rfl rfl H44 ?_
    clear H44; intro a45 H45
    refine plain (y_slen rfl Try.underlying9 rfl) rfl rfl rfl H45 ?_
    clear H45; intro a46 H46
    refine plain (y_add rfl rfl rfl (w64 (by omega) (by have := Oct.number_len (n := n) hn; omega))) rfl rfl rfl H46 ?_
    clear H46; intro a47 H47
    refine plain (y_neq rfl rfl rfl) rfl rfl rfl H47 ?_
    clear H47; intro a48 H48
    refine plain (y_pick_f rfl rfl rfl) rfl rfl rfl H48 ?_
    clear H48; intro a49 H49
    refine plain (y_move rfl rfl) rfl rfl rfl H49 ?_
    clear H49; intro a50 H50
    have H52 := H50.know (d := 54) (v := .bool false) rfl (congrArg Value.bool (decide_eq_false (by rw [hrn]; simp)))
    clear H50
    refine plain (y_move rfl rfl) rfl rfl rfl H52 ?_
    clear H52; intro a53 H53
    refine plain (y_neq rfl rfl rfl) rfl rfl rfl H53 ?_
    clear H53; intro a54 H54
    refine plain (y_pick_f rfl rfl rfl) rfl rfl rfl H54 ?_
    clear H54; intro a55 H55
    refine fin ?_
    refine then_n ?_
    refine cnd_d H55 rfl (fun hc56 => ?_) (fun hc56 => ?_)
    · exact absurd (by rw [hrn]) hc56
    · skip
      refine wp_skip ?_
      refine then_n ?_
      refine wp_seq ?_
      refine wp_seq ?_
      refine reg ?_
      refine plain (y_move rfl rfl) rfl rfl rfl H55 ?_
      clear H55; intro a57 H57
      refine plain (y_neq rfl rfl rfl) rfl rfl rfl H57 ?_
      clear H57; intro a58 H58
      refine fin ?_
      refine then_n ?_
      refine cnd_d H58 rfl (fun hc59 => ?_) (fun hc59 => ?_)
      · skip
        have hle := Oct.list_err hc59
        refine wp_seq ?_
        refine reg ?_
        refine plain (y_move rfl rfl) rfl rfl rfl H58 ?_
        clear H58; intro a60 H60
        refine plain (y_seql rfl rfl rfl) rfl rfl rfl H60 ?_
        clear H60; intro a61 H61
        refine plain (y_assign rfl rfl) rfl rfl rfl H61 ?_
        clear H61; intro a62 H62
        refine fin ?_
        refine then_n ?_
        refine wp_ret ?_
        refine then_r ?_
        -- return 1
        refine ret1 rfl H62 rfl ?_
        exact ⟨_, [], rfl, ⟨congrArg Value.bool (decide_eq_true (by rw [hle])), rfl⟩, H62.sep.sub (List.nil_sublist _)⟩
      · skip
        have hrl := Oct.rdl_list (a := a) (l := l) (by omega)
        refine wp_skip ?_
        refine then_n ?_
        refine wp_seq ?_
        refine reg ?_
        refine plain (y_move rfl rfl) rfl rfl rfl H58 ?_
        clear H58; intro a63 H63
        refine plain (y_move rfl rfl) rfl rfl rfl H63 ?_
        clear H63; intro a64 H64
        refine plain (y_sadd rfl rfl rfl (by have := Oct.list_len (l := l); omega)) rfl rfl rfl H64 ?_
        clear H64; intro a65 H65
        refine plain (y_sadd rfl rfl rfl (by have := Oct.list_len (l := l); simp only [List.length_append, List.length_singleton]; omega)) rfl rfl rfl H65 ?_
        clear H65; intro a66 H66
        refine plain (y_move rfl rfl) rfl rfl rfl H66 ?_
        clear H66; intro a67 H67
        refine plain (y_slen rfl Try.underlying9 rfl) rfl rfl rfl H67 ?_
        clear H67; intro a68 H68
        refine st_call rfl z_call39 rfl rfl rfl rfl H68 (rlst (a ++ (Oct.list l).1 ++ [120]) (a.length : Int) (by have := Oct.list_len (l := l); simp only [List.length_append, List.length_singleton]; omega) (by omega) _) ?_
        clear H68; intro v69 l69 a69 w69 hf69 H69
        obtain ⟨u69, rfl, rfl⟩ := hf69
        simp only [List.cons_append, List.nil_append] at H69
        obtain ⟨A69, c69, hv69, hR69, hm69⟩ := row_shape (v := u69) H69.sep (by repeat (first | exact List.Mem.head _ | apply List.Mem.tail))
        subst hv69
        refine plain (y_move rfl rfl) rfl rfl rfl H69 ?_
        clear H69; intro a70 H70
        refine plain (y_extract rfl rfl rfl) rfl rfl rfl H70 ?_
        clear H70; intro a71 H71
        refine plain (y_extract rfl rfl rfl) rfl rfl rfl H71 ?_
        clear H71; intro a72 H72
        refine plain (y_extract rfl rfl rfl) rfl rfl rfl H72 ?_
        clear H72; intro a73 H73
        refine plain (y_assign rfl rfl) rfl rfl rfl H73 ?_
        clear H73; intro a74 H74
        refine plain (y_assign rfl rfl) rfl rfl rfl H74 ?_
        clear H74; intro a75 H75
        refine plain (y_assign rfl rfl) rfl rfl rfl H75 ?_
        clear H75; intro a76 H76
        refine fin ?_
        refine then_n ?_
        refine wp_seq ?_
        refine reg ?_
        refine plain (y_move rfl rfl) rfl rfl rfl H76 ?_
        clear H76; intro a77 H77
        refine plain (y_move rfl rfl) rfl rfl rfl H77 ?_
        clear H77; intro a78 H78
        refine st_callg rfl z_call41 rfl rfl rfl rfl H78 (same (Oct.rdl (a ++ (Oct.list l).1 ++ [120]) (a.length : Int)).1 l _ _ _ _ _ _ rfl rfl (Rd.ofSep (rd_row (by repeat (first | exact List.Mem.head _ | apply List.Mem.tail))) H78.sep) (Rd.frm hR H78.sep.frm (by simp)) (Nat.le_trans Oct.rdl_len (by omega))) ?_
        clear H78; intro a79 w79 H79
        refine plain (y_move rfl rfl) rfl rfl rfl H79 ?_
        clear H79; intro a80 H80
        have H82 := H80.know (d := 76) (v := .bool true) rfl (congrArg Value.bool (decide_eq_true (by rw [hrl])))
        clear H80
        refine plain (y_move rfl rfl) rfl rfl rfl H82 ?_
        clear H82; intro a83 H83
        refine plain (y_move rfl rfl) rfl rfl rfl H83 ?_
        clear H83; intro a84 H84
        refine plain (y_slen rfl Try.underlying9 rfl) rfl rfl rfl H84 ?_
        clear H84; intro a85 H85
        refine plain (y_move rfl rfl) rfl rfl rfl H85 ?_
        clear H85; intro a86 H86
        refine plain (y_slen rfl Try.underlying9 rfl) rfl rfl rfl H86 ?_
        clear H86; intro a87 H87
        refine plain (y_add rfl rfl rfl (w64 (by omega) (by have := Oct.list_len (l := l); omega))) rfl rfl rfl H87 ?_
        clear H87; intro a88 H88
        refine plain (y_eql rfl rfl rfl) rfl rfl rfl H88 ?_
        clear H88; intro a89 H89
        refine plain (y_pick_t rfl rfl rfl) rfl rfl rfl H89 ?_
        clear H89; intro a90 H90
        refine plain (y_move rfl rfl) rfl rfl rfl H90 ?_
        clear H90; intro a91 H91
        have H93 := H91.know (d := 85) (v := .bool true) rfl (congrArg Value.bool (decide_eq_true (by rw [hrl]; exact Int.natCast_add _ _)))
        clear H91
        refine plain (y_move rfl rfl) rfl rfl rfl H93 ?_
        clear H93; intro a94 H94
        refine plain (y_eql rfl rfl rfl) rfl rfl rfl H94 ?_
        clear H94; intro a95 H95
        refine plain (y_pick_t rfl rfl rfl) rfl rfl rfl H95 ?_
        clear H95; intro a96 H96
        refine plain (y_assign rfl rfl) rfl rfl rfl H96 ?_
        clear H96; intro a97 H97
        refine fin ?_
        refine then_n ?_
        refine wp_ret ?_
        -- return 2
        refine ret1 rfl H97 rfl ?_
        exact ⟨_, [], rfl, ⟨congrArg Value.bool (decide_eq_true (by rw [hrl])), rfl⟩, H97.sep.sub (List.nil_sublist _)⟩
  · skip
    refine wp_skip ?_
    refine then_n ?_
    refine wp_seq ?_
    refine wp_seq ?_
    refine reg ?_
    refine plain (y_move rfl rfl) rfl rfl rfl H20 ?_
    clear H20; intro a98 H98
    refine plain (y_neq rfl rfl rfl) rfl rfl rfl H98 ?_
    clear H98; intro a99 H99
    refine fin ?_
    refine then_n ?_
    refine cnd_d H99 rfl (fun hc100 => ?_) (fun hc100 => ?_)
    · skip
      have hle := Oct.list_err hc100
      refine wp_seq ?_
      refine reg ?_
      refine plain (y_move rfl rfl) rfl rfl rfl H99 ?_
      clear H99; intro a101 H101
      refine plain (y_seql rfl rfl rfl) rfl rfl rfl H101 ?_
      clear H101; intro a102 H102
      refine plain (y_assign rfl rfl) rfl rfl rfl H102 ?_
      clear H102; intro a103 H103
      refine fin ?_
      refine then_n ?_
      refine wp_ret ?_
      refine then_r ?_
      -- return 3
      refine ret1 rfl H103 rfl ?_
      exact ⟨_, [], rfl, ⟨congrArg Value.bool (decide_eq_true (by rw [hle])), rfl⟩, H103.sep.sub (List.nil_sublist _)⟩
    · skip
      have hrl := Oct.rdl_list (a := a) (l := l) (by omega)
      refine wp_skip ?_
      refine then_n ?_
      refine wp_seq ?_
      refine reg ?_
      refine plain (y_move rfl rfl) rfl rfl rfl H99 ?_
      clear H99; intro a104 H104
      refine plain (y_move rfl rfl) rfl rfl rfl H104 ?_
      clear H104; intro a105 H105
      refine plain (y_sadd rfl rfl rfl (by have := Oct.list_len (l := l); omega)) rfl rfl rfl H105 ?_
      clear H105; intro a106 H106
      refine plain (y_sadd rfl rfl rfl (by have := Oct.list_len (l := l); simp only [List.length_append, List.length_singleton]; omega)) rfl rfl rfl H106 ?_
      clear H106; intro a107 H107
      refine plain (y_move rfl rfl) rfl rfl rfl H107 ?_
      clear H107; intro a108 H108
      refine plain (y_slen rfl Try.underlying9 rfl) rfl rfl rfl H108 ?_
      clear H108; intro a109 H109
      refine st_call rfl z_call39 rfl rfl rfl rfl H109 (rlst (a ++ (Oct.list l).1 ++ [120]) (a.length : Int) (by have := Oct.list_len (l := l); simp only [List.length_append, List.length_singleton]; omega) (by omega) _) ?_
      clear H109; intro v110 l110 a110 w110 hf110 H110
      obtain ⟨u110, rfl, rfl⟩ := hf110
      simp only [List.cons_append, List.nil_append] at H110
      obtain ⟨A110, c110, hv110, hR110, hm110⟩ := row_shape (v := u110) H110.sep (by repeat (first | exact List.Mem.head _ | apply List.Mem.tail))
      subst hv110
      refine plain (y_move rfl rfl) rfl rfl rfl H110 ?_
      clear H110; intro a111 H111
      refine plain (y_extract rfl rfl rfl) rfl rfl rfl H111 ?_
      clear H111; intro a112 H112
      refine plain (y_extract rfl rfl rfl) rfl rfl rfl H112 ?_
      clear H112; intro a113 H113
      refine plain (y_extract rfl rfl rfl) rfl rfl rfl H113 ?_
      clear H113; intro a114 H114
      refine plain (y_assign rfl rfl) rfl rfl rfl H114 ?_
      clear H114; intro a115 H115
      refine plain (y_assign rfl rfl) rfl rfl rfl H115 ?_
      clear H115; intro a116 H116
      refine plain (y_assign rfl rfl) rfl rfl rfl H116 ?_
      clear H116; intro a117 H117
      refine fin ?_
      refine then_n ?_
      refine wp_seq ?_
      refine reg ?_
      refine plain (y_move rfl rfl) rfl rfl rfl H117 ?_
      clear H117; intro a118 H118
      refine plain (y_move rfl rfl) rfl rfl rfl H118 ?_
      clear H118; intro a119 H119
      refine st_callg rfl z_call41 rfl rfl rfl rfl H119 (same (Oct.rdl (a ++ (Oct.list l).1 ++ [120]) (a.length : Int)).1 l _ _ _ _ _ _ rfl rfl (Rd.ofSep (rd_row (by repeat (first | exact List.Mem.head _ | apply List.Mem.tail))) H119.sep) (Rd.frm hR H119.sep.frm (by simp)) (Nat.le_trans Oct.rdl_len (by omega))) ?_
      clear H119; intro a120 w120 H120
      refine plain (y_move rfl rfl) rfl rfl rfl H120 ?_
      clear H120; intro a121 H121
      have H123 := H121.know (d := 76) (v := .bool true) rfl (congrArg Value.bool (decide_eq_true (by rw [hrl])))
      clear H121
      refine plain (y_move rfl rfl) rfl rfl rfl H123 ?_
      clear H123; intro a124 H124
      refine plain (y_move rfl rfl) rfl rfl rfl H124 ?_
      clear H124; intro a125 H125
      refine plain (y_slen rfl Try.underlying9 rfl) rfl rfl rfl H125 ?_
      clear H125; intro a126 H126
      refine plain (y_move rfl rfl) rfl rfl rfl H126 ?_
      clear H126; intro a127 H127
      refine plain (y_slen rfl Try.underlying9 rfl) rfl rfl rfl H127 ?_
      clear H127; intro a128 H128
      refine plain (y_add rfl rfl rfl (w64 (by omega) (by have := Oct.list_len (l := l); omega))) rfl rfl rfl H128 ?_
      clear H128; intro a129 H129
      refine plain (y_eql rfl rfl rfl) rfl rfl rfl H129 ?_
      clear H129; intro a130 H130
      refine plain (y_pick_t rfl rfl rfl) rfl rfl rfl H130 ?_
      clear H130; intro a131 H131
      refine plain (y_move rfl rfl) rfl rfl rfl H131 ?_
      clear H131; intro a132 H132
      have H134 := H132.know (d := 85) (v := .bool true) rfl (congrArg Value.bool (decide_eq_true (by rw [hrl]; exact Int.natCast_add _ _)))
      clear H132
      refine plain (y_move rfl rfl) rfl rfl rfl H134 ?_
      clear H134; intro a135 H135
      refine plain (y_eql rfl rfl rfl) rfl rfl rfl H135 ?_
      clear H135; intro a136 H136
      refine plain (y_pick_t rfl rfl rfl) rfl rfl rfl H136 ?_
      clear H136; intro a137 H137
      refine plain (y_assign rfl rfl) rfl rfl rfl H137 ?_
      clear H137; intro a138 H138
      refine fin ?_
      refine then_n ?_
      refine wp_ret ?_
      -- return 4
      refine ret1 rfl H138 rfl ?_
      exact ⟨_, [], rfl, ⟨congrArg Value.bool (decide_eq_true (by rw [hrl])), rfl⟩, H138.sep.sub (List.nil_sublist _)⟩

end Go.Proofs.Ytlaojmcpiggfeaa.TLaw4
