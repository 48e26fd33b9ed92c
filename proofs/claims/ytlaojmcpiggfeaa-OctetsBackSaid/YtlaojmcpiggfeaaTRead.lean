/- Part of a proof about given Go functions: contracts of functions, or plain laws. -/
import Derived.Test.YtlaojmcpiggfeaaSxG
import Derived.Test.YtlaojmcpiggfeaaOct
import Derived.Test.YtlaojmcpiggfeaaProg
import Derived.Test.YtlaojmcpiggfeaaTNum
set_option linter.unusedVariables false
set_option linter.unusedSimpArgs false
namespace Go.Proofs.Ytlaojmcpiggfeaa.TRead
open Go.Sx Go.RowKit Go.Proofs.Ytlaojmcpiggfeaa.TNum

theorem z_call35 : callB Try.prog 35 = true := by kernel_rfl
theorem z_call36 : callB Try.prog 36 = true := by kernel_rfl
theorem z_call37 : callB Try.prog 37 = true := by kernel_rfl
theorem z_size9 : sizeB Try.prog 9 = some 1 := by kernel_rfl
theorem z_zero9 : zeroL Try.prog 9 = some ([.string ⟨#[]⟩]) := by kernel_rfl
theorem z_slice49 : sliceB Try.prog 49 = some (9, 1, 16) := by kernel_rfl
theorem z_notint49 : notIntB Try.prog 49 = true := by kernel_rfl
theorem z_call38 : callB Try.prog 38 = true := by kernel_rfl
theorem z_agg9 : aggB Try.prog 9 = some false := by kernel_rfl

set_option maxRecDepth 100000 in
set_option maxHeartbeats 2000000 in
theorem rnum (s : List UInt8) (p : Int) (hs : s.length ≤ 1000000000000000000) (hp : -9223372036854775808 ≤ p ∧ p ≤ 9223372036854775807) (w : World) : Calls Try.prog 35 #[str s, .int .i64 p] w (Gives (.tuple #[.int .i64 (Oct.rdn s p).1, .int .i64 (Oct.rdn s p).2.1, .int .i64 (Oct.rdn s p).2.2]) [] w) := by
  refine enterL (args := [str s, .int .i64 p]) Try.func35 rfl rfl (l := []) (Sep.refl _) ?_
  intro a0 H0
  refine wp_seq ?_
  refine reg ?_
  refine plain (y_assign rfl rfl) rfl rfl rfl H0 ?_
  clear H0; intro a1 H1
  refine plain (y_assign rfl rfl) rfl rfl rfl H1 ?_
  clear H1; intro a2 H2
  refine plain (y_assign rfl rfl) rfl rfl rfl H2 ?_
  clear H2; intro a3 H3
  refine fin ?_
  refine then_n ?_
  refine wp_seq ?_
  refine wp_seq ?_
  refine reg ?_
  refine plain (y_move rfl rfl) rfl rfl rfl H3 ?_
  clear H3; intro a4 H4
  refine plain (y_lss rfl rfl rfl) rfl rfl rfl H4 ?_
  clear H4; intro a5 H5
  refine plain (y_move rfl rfl) rfl rfl rfl H5 ?_
  clear H5; intro a6 H6
  refine part_d (d := 12) H6 rfl (fun hg7 => ?_) (fun hg7 => ?_)
  · first
    | fail
    | skip
      clear H6; intro H8
      refine skip rfl rfl rfl H8 ?_
      clear H8; intro a9 H9
      refine skip rfl rfl rfl H9 ?_
      clear H9; intro a10 H10
      refine skip rfl rfl rfl H10 ?_
      clear H10; intro a11 H11
      refine skip rfl rfl rfl H11 ?_
      clear H11; intro a12 H12
      refine plain (y_pick_t rfl rfl rfl) rfl rfl rfl H12 ?_
      clear H12; intro a13 H13
      refine fin ?_
      refine then_n ?_
      refine cnd_t H13 rfl ?_
      refine wp_seq ?_
      refine reg ?_
      refine plain (y_assign rfl rfl) rfl rfl rfl H13 ?_
      clear H13; intro a15 H15
      refine plain (y_assign rfl rfl) rfl rfl rfl H15 ?_
      clear H15; intro a16 H16
      refine plain (y_assign rfl rfl) rfl rfl rfl H16 ?_
      clear H16; intro a17 H17
      refine fin ?_
      refine then_n ?_
      refine wp_ret ?_
      refine then_r ?_
      -- return 1
      refine ret3 rfl H17 rfl rfl rfl ?_
      exact ⟨_, [], rfl, ⟨by rw [Oct.rdn_neg (by omega)], rfl⟩, H17.sep.sub (List.nil_sublist _)⟩
  · first
    | fail
    | skip
      clear H6; intro H18
      obtain ⟨p, rfl⟩ := Int.eq_ofNat_of_zero_le (Int.not_lt.1 hg7)
      have e1 : ((p : Int) + 1).toNat = p + 1 := by omega
      refine plain (y_move rfl rfl) rfl rfl rfl H18 ?_
      clear H18; intro a19 H19
      refine plain (y_move rfl rfl) rfl rfl rfl H19 ?_
      clear H19; intro a20 H20
      refine plain (y_slen rfl Try.underlying9 rfl) rfl rfl rfl H20 ?_
      clear H20; intro a21 H21
      refine plain (y_gtr rfl rfl rfl) rfl rfl rfl H21 ?_
      clear H21; intro a22 H22
      refine plain (y_pick_f rfl rfl rfl) rfl rfl rfl H22 ?_
      clear H22; intro a23 H23
      refine fin ?_
      refine then_n ?_
      refine cnd_d H23 rfl (fun hc24 => ?_) (fun hc24 => ?_)
      · skip
        refine wp_seq ?_
        refine reg ?_
        refine plain (y_assign rfl rfl) rfl rfl rfl H23 ?_
        clear H23; intro a25 H25
        refine plain (y_assign rfl rfl) rfl rfl rfl H25 ?_
        clear H25; intro a26 H26
        refine plain (y_assign rfl rfl) rfl rfl rfl H26 ?_
        clear H26; intro a27 H27
        refine fin ?_
        refine then_n ?_
        refine wp_ret ?_
        refine then_r ?_
        -- return 2
        refine ret3 rfl H27 rfl rfl rfl ?_
        exact ⟨_, [], rfl, ⟨by rw [Oct.rdn_far (by omega)], rfl⟩, H27.sep.sub (List.nil_sublist _)⟩
      · skip
        refine wp_skip ?_
        refine then_n ?_
        refine wp_seq ?_
        refine wp_seq ?_
        refine reg ?_
        refine plain (y_move rfl rfl) rfl rfl rfl H23 ?_
        clear H23; intro a28 H28
        refine plain (y_move rfl rfl) rfl rfl rfl H28 ?_
        clear H28; intro a29 H29
        refine plain (y_slen rfl Try.underlying9 rfl) rfl rfl rfl H29 ?_
        clear H29; intro a30 H30
        refine plain (y_eql rfl rfl rfl) rfl rfl rfl H30 ?_
        clear H30; intro a31 H31
        refine fin ?_
        refine then_n ?_
        refine cnd_d H31 rfl (fun hc32 => ?_) (fun hc32 => ?_)
        · skip
          refine wp_seq ?_
          refine reg ?_
          refine plain (y_assign rfl rfl) rfl rfl rfl H31 ?_
          clear H31; intro a33 H33
          refine plain (y_assign rfl rfl) rfl rfl rfl H33 ?_
          clear H33; intro a34 H34
          refine plain (y_assign rfl rfl) rfl rfl rfl H34 ?_
          clear H34; intro a35 H35
          refine fin ?_
          refine then_n ?_
          refine wp_ret ?_
          refine then_r ?_
          -- return 3
          refine ret3 rfl H35 rfl rfl rfl ?_
          exact ⟨_, [], rfl, ⟨by rw [Oct.rdn_end (by omega)], rfl⟩, H35.sep.sub (List.nil_sublist _)⟩
        · skip
          refine wp_skip ?_
          refine then_n ?_
          refine wp_seq ?_
          refine reg ?_
          refine plain (y_move rfl rfl) rfl rfl rfl H31 ?_
          clear H31; intro a36 H36
          refine plain (y_move rfl rfl) rfl rfl rfl H36 ?_
          clear H36; intro a37 H37
          refine plain (y_sidx rfl Try.underlying9 rfl rfl (by omega) (by omega)) rfl rfl rfl H37 ?_
          clear H37; intro a38 H38
          simp only [Int.toNat_natCast] at H38
          obtain ⟨k, hk⟩ : ∃ k, (s.getD p 0).toNat = k := ⟨_, rfl⟩
          have hk8 := (s.getD p 0).toNat_lt
          refine plain (y_conv rfl Try.underlying5 Try.underlying3 rfl (wi64_u8 _)) rfl rfl rfl H38 ?_
          clear H38; intro a39 H39
          refine plain (y_assign rfl rfl) rfl rfl rfl H39 ?_
          clear H39; intro a40 H40
          refine fin ?_
          refine then_n ?_
          refine wp_seq ?_
          refine wp_cut (fun aC wC => Oct.Good s p k ∧ St Try.f35.ntmps [] w ([(0, str s), (1, .int .i64 (p : Int)), (7, .int .i64 (k : Int))]) ([]) aC wC) ?_ ?_
          · skip
            refine wp_block ?_
            refine wp_seq ?_
            refine reg ?_
            refine plain (y_move rfl rfl) rfl rfl rfl H40 ?_
            clear H40; intro a41 H41
            refine plain (y_gtr rfl rfl rfl) rfl rfl rfl H41 ?_
            clear H41; intro a42 H42
            refine plain (y_assign rfl rfl) rfl rfl rfl H42 ?_
            clear H42; intro a43 H43
            refine fin ?_
            refine then_n ?_
            refine cnd_d H43 rfl (fun hc44 => ?_) (fun hc44 => ?_)
            · skip
              refine wp_seq ?_
              refine reg ?_
              refine plain (y_assign rfl rfl) rfl rfl rfl H43 ?_
              clear H43; intro a45 H45
              refine plain (y_assign rfl rfl) rfl rfl rfl H45 ?_
              clear H45; intro a46 H46
              refine plain (y_assign rfl rfl) rfl rfl rfl H46 ?_
              clear H46; intro a47 H47
              refine fin ?_
              refine then_n ?_
              refine wp_ret ?_
              refine inb_r ?_
              refine cut_r ?_
              -- return 4
              refine ret3 rfl H47 rfl rfl rfl ?_
              exact ⟨_, [], rfl, ⟨by rw [Oct.rdn_big (by omega) (by omega)], rfl⟩, H47.sep.sub (List.nil_sublist _)⟩
            · skip
              refine wp_seq ?_
              refine reg ?_
              refine plain (y_move rfl rfl) rfl rfl rfl H43 ?_
              clear H43; intro a48 H48
              refine plain (y_slen rfl Try.underlying9 rfl) rfl rfl rfl H48 ?_
              clear H48; intro a49 H49
              refine plain (y_move rfl rfl) rfl rfl rfl H49 ?_
              clear H49; intro a50 H50
              refine plain (y_sub rfl rfl rfl (by first | exact w64 (by omega) (by omega) | rfl)) rfl rfl rfl H50 ?_
              clear H50; intro a51 H51
              refine plain (y_sub rfl rfl rfl (by first | exact w64 (by omega) (by omega) | rfl)) rfl rfl rfl H51 ?_
              clear H51; intro a52 H52
              refine plain (y_move rfl rfl) rfl rfl rfl H52 ?_
              clear H52; intro a53 H53
              refine plain (y_lss rfl rfl rfl) rfl rfl rfl H53 ?_
              clear H53; intro a54 H54
              refine plain (y_assign rfl rfl) rfl rfl rfl H54 ?_
              clear H54; intro a55 H55
              refine fin ?_
              refine then_n ?_
              refine cnd_d H55 rfl (fun hc56 => ?_) (fun hc56 => ?_)
              · skip
                refine wp_seq ?_
                refine reg ?_
                refine plain (y_assign rfl rfl) rfl rfl rfl H55 ?_
                clear H55; intro a57 H57
                refine plain (y_assign rfl rfl) rfl rfl rfl H57 ?_
                clear H57; intro a58 H58
                refine plain (y_assign rfl rfl) rfl rfl rfl H58 ?_
                clear H58; intro a59 H59
                refine fin ?_
                refine then_n ?_
                refine wp_ret ?_
                refine inb_r ?_
                refine cut_r ?_
                -- return 5
                refine ret3 rfl H59 rfl rfl rfl ?_
                exact ⟨_, [], rfl, ⟨by rw [Oct.rdn_short (by omega) (by omega) (by omega)], rfl⟩, H59.sep.sub (List.nil_sublist _)⟩
              · skip
                refine wp_seq ?_
                refine reg ?_
                refine plain (y_move rfl rfl) rfl rfl rfl H55 ?_
                clear H55; intro a60 H60
                refine plain (y_gtr rfl rfl rfl) rfl rfl rfl H60 ?_
                clear H60; intro a61 H61
                refine plain (y_move rfl rfl) rfl rfl rfl H61 ?_
                clear H61; intro a62 H62
                refine part_d (d := 40) H62 rfl (fun hg63 => ?_) (fun hg63 => ?_)
                · first
                  | fail
                  | skip
                    clear H62; intro H64
                    refine plain (y_move rfl rfl) rfl rfl rfl H64 ?_
                    clear H64; intro a65 H65
                    refine plain (y_move rfl rfl) rfl rfl rfl H65 ?_
                    clear H65; intro a66 H66
                    refine plain (y_add rfl rfl rfl (by first | exact w64 (by omega) (by omega) | rfl)) rfl rfl rfl H66 ?_
                    clear H66; intro a67 H67
                    refine plain (y_sidx rfl Try.underlying9 rfl rfl (by omega) (by omega)) rfl rfl rfl H67 ?_
                    clear H67; intro a68 H68
                    refine plain (y_eql rfl rfl rfl) rfl rfl rfl H68 ?_
                    clear H68; intro a69 H69
                    refine plain (y_move rfl rfl) rfl rfl rfl H69 ?_
                    clear H69; intro a70 H70
                    refine part_d (d := 46) H70 rfl (fun hg71 => ?_) (fun hg71 => ?_)
                    · first
                      | fail
                      | skip
                        clear H70; intro H72
                        refine skip rfl rfl rfl H72 ?_
                        clear H72; intro a73 H73
                        refine skip rfl rfl rfl H73 ?_
                        clear H73; intro a74 H74
                        refine skip rfl rfl rfl H74 ?_
                        clear H74; intro a75 H75
                        refine skip rfl rfl rfl H75 ?_
                        clear H75; intro a76 H76
                        refine skip rfl rfl rfl H76 ?_
                        clear H76; intro a77 H77
                        refine skip rfl rfl rfl H77 ?_
                        clear H77; intro a78 H78
                        refine skip rfl rfl rfl H78 ?_
                        clear H78; intro a79 H79
                        refine skip rfl rfl rfl H79 ?_
                        clear H79; intro a80 H80
                        refine skip rfl rfl rfl H80 ?_
                        clear H80; intro a81 H81
                        refine plain (y_pick_t rfl rfl rfl) rfl rfl rfl H81 ?_
                        clear H81; intro a82 H82
                        refine plain (y_pick_t rfl rfl rfl) rfl rfl rfl H82 ?_
                        clear H82; intro a83 H83
                        refine plain (y_assign rfl rfl) rfl rfl rfl H83 ?_
                        clear H83; intro a84 H84
                        refine fin ?_
                        refine then_n ?_
                        refine cnd_t H84 rfl ?_
                        refine wp_seq ?_
                        refine reg ?_
                        refine plain (y_assign rfl rfl) rfl rfl rfl H84 ?_
                        clear H84; intro a86 H86
                        refine plain (y_assign rfl rfl) rfl rfl rfl H86 ?_
                        clear H86; intro a87 H87
                        refine plain (y_assign rfl rfl) rfl rfl rfl H87 ?_
                        clear H87; intro a88 H88
                        refine fin ?_
                        refine then_n ?_
                        refine wp_ret ?_
                        refine inb_r ?_
                        refine cut_r ?_
                        -- return 6
                        refine ret3 rfl H88 rfl rfl rfl ?_
                        exact ⟨_, [], rfl, ⟨by rw [Oct.rdn_form (s := s) (p := p) (by omega) (by omega) (by omega) (by rw [hk, Oct.zero_toNat]; simp only [e1] at *; omega)], rfl⟩, H88.sep.sub (List.nil_sublist _)⟩
                    · first
                      | fail
                      | skip
                        clear H70; intro H89
                        refine plain (y_move rfl rfl) rfl rfl rfl H89 ?_
                        clear H89; intro a90 H90
                        refine plain (y_eql rfl rfl rfl) rfl rfl rfl H90 ?_
                        clear H90; intro a91 H91
                        refine plain (y_move rfl rfl) rfl rfl rfl H91 ?_
                        clear H91; intro a92 H92
                        refine part_d (d := 49) H92 rfl (fun hg93 => ?_) (fun hg93 => ?_)
                        · first
                          | fail
                          | skip
                            clear H92; intro H94
                            refine plain (y_move rfl rfl) rfl rfl rfl H94 ?_
                            clear H94; intro a95 H95
                            refine plain (y_move rfl rfl) rfl rfl rfl H95 ?_
                            clear H95; intro a96 H96
                            refine plain (y_add rfl rfl rfl (by first | exact w64 (by omega) (by omega) | rfl)) rfl rfl rfl H96 ?_
                            clear H96; intro a97 H97
                            refine plain (y_sidx rfl Try.underlying9 rfl rfl (by omega) (by omega)) rfl rfl rfl H97 ?_
                            clear H97; intro a98 H98
                            refine plain (y_gtr rfl rfl rfl) rfl rfl rfl H98 ?_
                            clear H98; intro a99 H99
                            refine plain (y_pick_t rfl rfl rfl) rfl rfl rfl H99 ?_
                            clear H99; intro a100 H100
                            refine plain (y_pick_f rfl rfl rfl) rfl rfl rfl H100 ?_
                            clear H100; intro a101 H101
                            refine plain (y_pick_t rfl rfl rfl) rfl rfl rfl H101 ?_
                            clear H101; intro a102 H102
                            refine plain (y_assign rfl rfl) rfl rfl rfl H102 ?_
                            clear H102; intro a103 H103
                            refine fin ?_
                            refine then_n ?_
                            refine cnd_d H103 rfl (fun hc104 => ?_) (fun hc104 => ?_)
                            · skip
                              refine wp_seq ?_
                              refine reg ?_
                              refine plain (y_assign rfl rfl) rfl rfl rfl H103 ?_
                              clear H103; intro a105 H105
                              refine plain (y_assign rfl rfl) rfl rfl rfl H105 ?_
                              clear H105; intro a106 H106
                              refine plain (y_assign rfl rfl) rfl rfl rfl H106 ?_
                              clear H106; intro a107 H107
                              refine fin ?_
                              refine then_n ?_
                              refine wp_ret ?_
                              refine inb_r ?_
                              refine cut_r ?_
                              -- return 7
                              refine ret3 rfl H107 rfl rfl rfl ?_
                              exact ⟨_, [], rfl, ⟨by rw [Oct.rdn_form (s := s) (p := p) (by omega) (by omega) (by omega) (by rw [hk, Oct.zero_toNat]; simp only [e1] at *; omega)], rfl⟩, H107.sep.sub (List.nil_sublist _)⟩
                            · skip
                              refine wp_skip ?_
                              refine inb_n ?_
                              refine cut_n ?_
                              exact ⟨Oct.rdn_isgood (s := s) (p := p) (k := k) (by omega) hk (by omega) (by omega) (by simp only [e1] at *; rw [Oct.zero_toNat]; omega), H103.weak ⟨rfl, rfl, fi rfl (by omega), trivial⟩ rfl⟩
                        · first
                          | fail
                          | skip
                            clear H92; intro H108
                            refine skip rfl rfl rfl H108 ?_
                            clear H108; intro a109 H109
                            refine skip rfl rfl rfl H109 ?_
                            clear H109; intro a110 H110
                            refine skip rfl rfl rfl H110 ?_
                            clear H110; intro a111 H111
                            refine skip rfl rfl rfl H111 ?_
                            clear H111; intro a112 H112
                            refine skip rfl rfl rfl H112 ?_
                            clear H112; intro a113 H113
                            refine plain (y_pick_f rfl rfl rfl) rfl rfl rfl H113 ?_
                            clear H113; intro a114 H114
                            refine plain (y_pick_f rfl rfl rfl) rfl rfl rfl H114 ?_
                            clear H114; intro a115 H115
                            refine plain (y_pick_t rfl rfl rfl) rfl rfl rfl H115 ?_
                            clear H115; intro a116 H116
                            refine plain (y_assign rfl rfl) rfl rfl rfl H116 ?_
                            clear H116; intro a117 H117
                            refine fin ?_
                            refine then_n ?_
                            refine cnd_f H117 rfl ?_
                            refine wp_skip ?_
                            refine inb_n ?_
                            refine cut_n ?_
                            exact ⟨Oct.rdn_isgood (s := s) (p := p) (k := k) (by omega) hk (by omega) (by omega) (by simp only [e1] at *; rw [Oct.zero_toNat]; omega), H117.weak ⟨rfl, rfl, fi rfl (by omega), trivial⟩ rfl⟩
                · first
                  | fail
                  | skip
                    clear H62; intro H119
                    refine skip rfl rfl rfl H119 ?_
                    clear H119; intro a120 H120
                    refine skip rfl rfl rfl H120 ?_
                    clear H120; intro a121 H121
                    refine skip rfl rfl rfl H121 ?_
                    clear H121; intro a122 H122
                    refine skip rfl rfl rfl H122 ?_
                    clear H122; intro a123 H123
                    refine skip rfl rfl rfl H123 ?_
                    clear H123; intro a124 H124
                    refine skip rfl rfl rfl H124 ?_
                    clear H124; intro a125 H125
                    refine skip rfl rfl rfl H125 ?_
                    clear H125; intro a126 H126
                    refine skip rfl rfl rfl H126 ?_
                    clear H126; intro a127 H127
                    refine skip rfl rfl rfl H127 ?_
                    clear H127; intro a128 H128
                    refine skip rfl rfl rfl H128 ?_
                    clear H128; intro a129 H129
                    refine skip rfl rfl rfl H129 ?_
                    clear H129; intro a130 H130
                    refine skip rfl rfl rfl H130 ?_
                    clear H130; intro a131 H131
                    refine skip rfl rfl rfl H131 ?_
                    clear H131; intro a132 H132
                    refine skip rfl rfl rfl H132 ?_
                    clear H132; intro a133 H133
                    refine skip rfl rfl rfl H133 ?_
                    clear H133; intro a134 H134
                    refine skip rfl rfl rfl H134 ?_
                    clear H134; intro a135 H135
                    refine plain (y_pick_f rfl rfl rfl) rfl rfl rfl H135 ?_
                    clear H135; intro a136 H136
                    refine plain (y_assign rfl rfl) rfl rfl rfl H136 ?_
                    clear H136; intro a137 H137
                    refine fin ?_
                    refine then_n ?_
                    refine cnd_f H137 rfl ?_
                    refine wp_skip ?_
                    refine inb_n ?_
                    refine cut_n ?_
                    exact ⟨Oct.rdn_isgood (s := s) (p := p) (k := k) (by omega) hk (by omega) (by omega) (by simp only [e1] at *; rw [Oct.zero_toNat]; omega), H137.weak ⟨rfl, rfl, fi rfl (by omega), trivial⟩ rfl⟩
          · clear H40; intro a139 w139 hI139
            obtain ⟨hg, H139⟩ := hI139
            refine then_n ?_
            refine wp_seq ?_
            refine reg ?_
            refine plain (y_assign rfl rfl) rfl rfl rfl H139 ?_
            clear H139; intro a140 H140
            refine fin ?_
            refine then_n ?_
            refine wp_seq ?_
            refine wp_seq ?_
            refine reg ?_
            refine plain (y_move rfl rfl) rfl rfl rfl H140 ?_
            clear H140; intro a141 H141
            refine plain (y_move rfl rfl) rfl rfl rfl H141 ?_
            clear H141; intro a142 H142
            refine fin ?_
            refine then_n ?_
            refine wp_block ?_
            have hfit := hg.fit
            have hle8 := hg.le8
            refine loop (ι := Nat) (fun i => [(0, str s), (1, .int .i64 (p : Int)), (7, .int .i64 (k : Int)), (8, .int .i64 ((Oct.val ((s.drop (p + 1)).take i) : Nat) : Int)), (58, .int .i64 (k : Int)), (59, .int .i64 (i : Int))]) (fun i => []) (fun i => i ≤ k) (fun i => k - i) (0) (Nat.zero_le _) (H142.weak ⟨rfl, rfl, rfl, rfl, rfl, rfl, trivial⟩ rfl) ?_
            clear H142; intro i a143 w143 hok143 H143
            have hok := hok143
            have hvs := fun h : i < k => Oct.val_take_succ (s := s) (q := p + 1) (i := i) (by omega)
            have hvb := fun h : i < k => Oct.good_val hg (i := i + 1) (by omega)
            have e2 : ((p : Int) + 1 + (i : Int)).toNat = p + 1 + i := by omega
            refine wp_seq ?_
            refine reg ?_
            refine plain (y_lss rfl rfl rfl) rfl rfl rfl H143 ?_
            clear H143; intro a144 H144
            refine fin ?_
            refine then_n ?_
            refine wp_seq ?_
            refine cnd_d H144 rfl (fun hc145 => ?_) (fun hc145 => ?_)
            · skip
              have hik : i < k := by omega
              refine wp_skip ?_
              refine then_n ?_
              refine wp_seq ?_
              refine wp_block ?_
              refine wp_seq ?_
              refine reg ?_
              refine plain (y_move rfl rfl) rfl rfl rfl H144 ?_
              clear H144; intro a146 H146
              refine plain (y_assign rfl rfl) rfl rfl rfl H146 ?_
              clear H146; intro a147 H147
              refine fin ?_
              refine then_n ?_
              refine reg ?_
              refine plain (y_move rfl rfl) rfl rfl rfl H147 ?_
              clear H147; intro a148 H148
              refine plain (y_shl rfl rfl rfl (by decide) (shl8 _ (by have := hvs hik; have := hvb hik; omega))) rfl rfl rfl H148 ?_
              clear H148; intro a149 H149
              refine plain (y_move rfl rfl) rfl rfl rfl H149 ?_
              clear H149; intro a150 H150
              refine plain (y_move rfl rfl) rfl rfl rfl H150 ?_
              clear H150; intro a151 H151
              refine plain (y_add rfl rfl rfl (by first | exact w64 (by omega) (by omega) | rfl)) rfl rfl rfl H151 ?_
              clear H151; intro a152 H152
              refine plain (y_move rfl rfl) rfl rfl rfl H152 ?_
              clear H152; intro a153 H153
              refine plain (y_add rfl rfl rfl (by first | exact w64 (by omega) (by omega) | rfl)) rfl rfl rfl H153 ?_
              clear H153; intro a154 H154
              refine plain (y_sidx rfl Try.underlying9 rfl rfl (by omega) (by omega)) rfl rfl rfl H154 ?_
              clear H154; intro a155 H155
              refine plain (y_conv rfl Try.underlying5 Try.underlying3 rfl (wi64_u8 _)) rfl rfl rfl H155 ?_
              clear H155; intro a156 H156
              refine plain (y_or rfl rfl rfl (or8 _ _ (by rw [e2]; have := hvs hik; have := hvb hik; omega))) rfl rfl rfl H156 ?_
              clear H156; intro a157 H157
              refine plain (y_assign rfl rfl) rfl rfl rfl H157 ?_
              clear H157; intro a158 H158
              refine fin ?_
              refine inb_n ?_
              refine then_n ?_
              refine reg ?_
              refine plain (y_add rfl rfl rfl (by first | exact w64 (by omega) (by omega) | rfl)) rfl rfl rfl H158 ?_
              clear H158; intro a159 H159
              refine plain (y_move rfl rfl) rfl rfl rfl H159 ?_
              clear H159; intro a160 H160
              refine fin ?_
              refine then_n ?_
              refine ⟨i + 1, by omega, by omega, H160.weak ⟨rfl, rfl, rfl, fi rfl (by rw [hvs hik, e2]), rfl, fi rfl (by omega), trivial⟩ rfl⟩
            · skip
              refine wp_exit ?_
              refine then_x ?_
              refine then_x ?_
              refine inb_hit ?_
              refine then_n ?_
              refine wp_seq ?_
              refine reg ?_
              refine plain (y_move rfl rfl) rfl rfl rfl H144 ?_
              clear H144; intro a161 H161
              refine plain (y_move rfl rfl) rfl rfl rfl H161 ?_
              clear H161; intro a162 H162
              refine plain (y_add rfl rfl rfl (by first | exact w64 (by omega) (by omega) | rfl)) rfl rfl rfl H162 ?_
              clear H162; intro a163 H163
              refine plain (y_move rfl rfl) rfl rfl rfl H163 ?_
              clear H163; intro a164 H164
              refine plain (y_add rfl rfl rfl (by first | exact w64 (by omega) (by omega) | rfl)) rfl rfl rfl H164 ?_
              clear H164; intro a165 H165
              refine plain (y_assign rfl rfl) rfl rfl rfl H165 ?_
              clear H165; intro a166 H166
              refine plain (y_assign rfl rfl) rfl rfl rfl H166 ?_
              clear H166; intro a167 H167
              refine plain (y_assign rfl rfl) rfl rfl rfl H167 ?_
              clear H167; intro a168 H168
              refine fin ?_
              refine then_n ?_
              refine wp_ret ?_
              -- return 8
              refine ret3 rfl H168 rfl rfl rfl ?_
              exact ⟨_, [], rfl, ⟨by rw [Oct.rdn_good hg, show i = k by omega]; simp, rfl⟩, H168.sep.sub (List.nil_sublist _)⟩
set_option maxRecDepth 100000 in
set_option maxHeartbeats 2000000 in
theorem rnumR (s : List UInt8) (p : Int) (hs : s.length ≤ 1000000000000000000) (hp : -9223372036854775808 ≤ p ∧ p ≤ 9223372036854775807) (w : World) : Calls Try.prog 36 #[str s, .int .i64 p] w (Gives (.tuple #[.int .i64 (Oct.rdn s p).1, .int .i64 (Oct.rdn s p).2.1, .int .i64 (Oct.rdn s p).2.2]) [] w) := by
  refine enterL (args := [str s, .int .i64 p]) Try.func36 rfl rfl (l := []) (Sep.refl _) ?_
  intro a0 H0
  refine wp_seq ?_
  refine reg ?_
  refine plain (y_assign rfl rfl) rfl rfl rfl H0 ?_
  clear H0; intro a1 H1
  refine plain (y_assign rfl rfl) rfl rfl rfl H1 ?_
  clear H1; intro a2 H2
  refine plain (y_assign rfl rfl) rfl rfl rfl H2 ?_
  clear H2; intro a3 H3
  refine fin ?_
  refine then_n ?_
  refine wp_seq ?_
  refine wp_seq ?_
  refine reg ?_
  refine plain (y_move rfl rfl) rfl rfl rfl H3 ?_
  clear H3; intro a4 H4
  refine plain (y_lss rfl rfl rfl) rfl rfl rfl H4 ?_
  clear H4; intro a5 H5
  refine plain (y_move rfl rfl) rfl rfl rfl H5 ?_
  clear H5; intro a6 H6
  refine part_d (d := 12) H6 rfl (fun hg7 => ?_) (fun hg7 => ?_)
  · first
    | fail
    | skip
      clear H6; intro H8
      refine skip rfl rfl rfl H8 ?_
      clear H8; intro a9 H9
      refine skip rfl rfl rfl H9 ?_
      clear H9; intro a10 H10
      refine skip rfl rfl rfl H10 ?_
      clear H10; intro a11 H11
      refine skip rfl rfl rfl H11 ?_
      clear H11; intro a12 H12
      refine plain (y_pick_t rfl rfl rfl) rfl rfl rfl H12 ?_
      clear H12; intro a13 H13
      refine fin ?_
      refine then_n ?_
      refine cnd_t H13 rfl ?_
      refine wp_seq ?_
      refine reg ?_
      refine plain (y_assign rfl rfl) rfl rfl rfl H13 ?_
      clear H13; intro a15 H15
      refine plain (y_assign rfl rfl) rfl rfl rfl H15 ?_
      clear H15; intro a16 H16
      refine plain (y_assign rfl rfl) rfl rfl rfl H16 ?_
      clear H16; intro a17 H17
      refine fin ?_
      refine then_n ?_
      refine wp_ret ?_
      refine then_r ?_
      -- return 1
      refine ret3 rfl H17 rfl rfl rfl ?_
      exact ⟨_, [], rfl, ⟨by rw [Oct.rdn_neg (by omega)], rfl⟩, H17.sep.sub (List.nil_sublist _)⟩
  · first
    | fail
    | skip
      clear H6; intro H18
      obtain ⟨p, rfl⟩ := Int.eq_ofNat_of_zero_le (Int.not_lt.1 hg7)
      have e1 : ((p : Int) + 1).toNat = p + 1 := by omega
      refine plain (y_move rfl rfl) rfl rfl rfl H18 ?_
      clear H18; intro a19 H19
      refine plain (y_move rfl rfl) rfl rfl rfl H19 ?_
      clear H19; intro a20 H20
      refine plain (y_slen rfl Try.underlying9 rfl) rfl rfl rfl H20 ?_
      clear H20; intro a21 H21
      refine plain (y_gtr rfl rfl rfl) rfl rfl rfl H21 ?_
      clear H21; intro a22 H22
      refine plain (y_pick_f rfl rfl rfl) rfl rfl rfl H22 ?_
      clear H22; intro a23 H23
      refine fin ?_
      refine then_n ?_
      refine cnd_d H23 rfl (fun hc24 => ?_) (fun hc24 => ?_)
      · skip
        refine wp_seq ?_
        refine reg ?_
        refine plain (y_assign rfl rfl) rfl rfl rfl H23 ?_
        clear H23; intro a25 H25
        refine plain (y_assign rfl rfl) rfl rfl rfl H25 ?_
        clear H25; intro a26 H26
        refine plain (y_assign rfl rfl) rfl rfl rfl H26 ?_
        clear H26; intro a27 H27
        refine fin ?_
        refine then_n ?_
        refine wp_ret ?_
        refine then_r ?_
        -- return 2
        refine ret3 rfl H27 rfl rfl rfl ?_
        exact ⟨_, [], rfl, ⟨by rw [Oct.rdn_far (by omega)], rfl⟩, H27.sep.sub (List.nil_sublist _)⟩
      · skip
        refine wp_skip ?_
        refine then_n ?_
        refine wp_seq ?_
        refine wp_seq ?_
        refine reg ?_
        refine plain (y_move rfl rfl) rfl rfl rfl H23 ?_
        clear H23; intro a28 H28
        refine plain (y_move rfl rfl) rfl rfl rfl H28 ?_
        clear H28; intro a29 H29
        refine plain (y_slen rfl Try.underlying9 rfl) rfl rfl rfl H29 ?_
        clear H29; intro a30 H30
        refine plain (y_eql rfl rfl rfl) rfl rfl rfl H30 ?_
        clear H30; intro a31 H31
        refine fin ?_
        refine then_n ?_
        refine cnd_d H31 rfl (fun hc32 => ?_) (fun hc32 => ?_)
        · skip
          refine wp_seq ?_
          refine reg ?_
          refine plain (y_assign rfl rfl) rfl rfl rfl H31 ?_
          clear H31; intro a33 H33
          refine plain (y_assign rfl rfl) rfl rfl rfl H33 ?_
          clear H33; intro a34 H34
          refine plain (y_assign rfl rfl) rfl rfl rfl H34 ?_
          clear H34; intro a35 H35
          refine fin ?_
          refine then_n ?_
          refine wp_ret ?_
          refine then_r ?_
          -- return 3
          refine ret3 rfl H35 rfl rfl rfl ?_
          exact ⟨_, [], rfl, ⟨by rw [Oct.rdn_end (by omega)], rfl⟩, H35.sep.sub (List.nil_sublist _)⟩
        · skip
          refine wp_skip ?_
          refine then_n ?_
          refine wp_seq ?_
          refine reg ?_
          refine plain (y_move rfl rfl) rfl rfl rfl H31 ?_
          clear H31; intro a36 H36
          refine plain (y_move rfl rfl) rfl rfl rfl H36 ?_
          clear H36; intro a37 H37
          refine plain (y_sidx rfl Try.underlying9 rfl rfl (by omega) (by omega)) rfl rfl rfl H37 ?_
          clear H37; intro a38 H38
          simp only [Int.toNat_natCast] at H38
          obtain ⟨k, hk⟩ : ∃ k, (s.getD p 0).toNat = k := ⟨_, rfl⟩
          have hk8 := (s.getD p 0).toNat_lt
          refine plain (y_conv rfl Try.underlying5 Try.underlying3 rfl (wi64_u8 _)) rfl rfl rfl H38 ?_
          clear H38; intro a39 H39
          refine plain (y_assign rfl rfl) rfl rfl rfl H39 ?_
          clear H39; intro a40 H40
          refine fin ?_
          refine then_n ?_
          refine wp_seq ?_
          refine wp_seq ?_
          refine reg ?_
          refine plain (y_move rfl rfl) rfl rfl rfl H40 ?_
          clear H40; intro a41 H41
          refine plain (y_gtr rfl rfl rfl) rfl rfl rfl H41 ?_
          clear H41; intro a42 H42
          refine fin ?_
          refine then_n ?_
          refine cnd_d H42 rfl (fun hc43 => ?_) (fun hc43 => ?_)
          · skip
            refine wp_seq ?_
            refine reg ?_
            refine plain (y_assign rfl rfl) rfl rfl rfl H42 ?_
            clear H42; intro a44 H44
            refine plain (y_assign rfl rfl) rfl rfl rfl H44 ?_
            clear H44; intro a45 H45
            refine plain (y_assign rfl rfl) rfl rfl rfl H45 ?_
            clear H45; intro a46 H46
            refine fin ?_
            refine then_n ?_
            refine wp_ret ?_
            refine then_r ?_
            -- return 4
            refine ret3 rfl H46 rfl rfl rfl ?_
            exact ⟨_, [], rfl, ⟨by rw [Oct.rdn_big (by omega) (by omega)], rfl⟩, H46.sep.sub (List.nil_sublist _)⟩
          · skip
            refine wp_skip ?_
            refine then_n ?_
            refine wp_seq ?_
            refine wp_seq ?_
            refine reg ?_
            refine plain (y_move rfl rfl) rfl rfl rfl H42 ?_
            clear H42; intro a47 H47
            refine plain (y_add rfl rfl rfl (by first | exact w64 (by omega) (by omega) | rfl)) rfl rfl rfl H47 ?_
            clear H47; intro a48 H48
            refine plain (y_move rfl rfl) rfl rfl rfl H48 ?_
            clear H48; intro a49 H49
            refine plain (y_add rfl rfl rfl (by first | exact w64 (by omega) (by omega) | rfl)) rfl rfl rfl H49 ?_
            clear H49; intro a50 H50
            refine plain (y_move rfl rfl) rfl rfl rfl H50 ?_
            clear H50; intro a51 H51
            refine plain (y_slen rfl Try.underlying9 rfl) rfl rfl rfl H51 ?_
            clear H51; intro a52 H52
            refine plain (y_gtr rfl rfl rfl) rfl rfl rfl H52 ?_
            clear H52; intro a53 H53
            refine fin ?_
            refine then_n ?_
            refine cnd_d H53 rfl (fun hc54 => ?_) (fun hc54 => ?_)
            · skip
              refine wp_seq ?_
              refine reg ?_
              refine plain (y_assign rfl rfl) rfl rfl rfl H53 ?_
              clear H53; intro a55 H55
              refine plain (y_assign rfl rfl) rfl rfl rfl H55 ?_
              clear H55; intro a56 H56
              refine plain (y_assign rfl rfl) rfl rfl rfl H56 ?_
              clear H56; intro a57 H57
              refine fin ?_
              refine then_n ?_
              refine wp_ret ?_
              refine then_r ?_
              -- return 5
              refine ret3 rfl H57 rfl rfl rfl ?_
              exact ⟨_, [], rfl, ⟨by rw [Oct.rdn_short (by omega) (by omega) (by omega)], rfl⟩, H57.sep.sub (List.nil_sublist _)⟩
            · skip
              refine wp_skip ?_
              refine then_n ?_
              refine wp_seq ?_
              refine reg ?_
              refine plain (y_assign rfl rfl) rfl rfl rfl H53 ?_
              clear H53; intro a58 H58
              refine fin ?_
              refine then_n ?_
              refine wp_seq ?_
              refine wp_seq ?_
              refine reg ?_
              refine plain (y_move rfl rfl) rfl rfl rfl H58 ?_
              clear H58; intro a59 H59
              refine plain (y_add rfl rfl rfl (by first | exact w64 (by omega) (by omega) | rfl)) rfl rfl rfl H59 ?_
              clear H59; intro a60 H60
              refine plain (y_assign rfl rfl) rfl rfl rfl H60 ?_
              clear H60; intro a61 H61
              refine fin ?_
              refine then_n ?_
              refine wp_block ?_
              refine loop (ι := Nat) (fun i => [(0, str s), (1, .int .i64 (p : Int)), (7, .int .i64 (k : Int)), (8, .int .u64 ((Oct.val ((s.drop (p + 1)).take i) : Nat) : Int)), (9, .int .i64 ((p + 1 + i : Nat) : Int))]) (fun i => []) (fun i => i ≤ k) (fun i => k - i) (0) (Nat.zero_le _) (H61.weak ⟨rfl, rfl, fi rfl (by omega), fi rfl (by simp [Oct.val]), fi rfl (by omega), trivial⟩ rfl) ?_
              clear H61; intro i a62 w62 hok62 H62
              have hok := hok62
              have hvs := fun h : i < k => Oct.val_take_succ (s := s) (q := p + 1) (i := i) (by omega)
              have hvb := fun h : i < k => Oct.val_le8 (s := s) (p := p) (k := k) (i := i + 1) (by omega) (by omega)
              refine wp_seq ?_
              refine wp_seq ?_
              refine reg ?_
              refine plain (y_move rfl rfl) rfl rfl rfl H62 ?_
              clear H62; intro a63 H63
              refine plain (y_move rfl rfl) rfl rfl rfl H63 ?_
              clear H63; intro a64 H64
              refine plain (y_add rfl rfl rfl (by first | exact w64 (by omega) (by omega) | rfl)) rfl rfl rfl H64 ?_
              clear H64; intro a65 H65
              refine plain (y_move rfl rfl) rfl rfl rfl H65 ?_
              clear H65; intro a66 H66
              refine plain (y_add rfl rfl rfl (by first | exact w64 (by omega) (by omega) | rfl)) rfl rfl rfl H66 ?_
              clear H66; intro a67 H67
              refine plain (y_lss rfl rfl rfl) rfl rfl rfl H67 ?_
              clear H67; intro a68 H68
              refine fin ?_
              refine then_n ?_
              refine cnd_d H68 rfl (fun hc69 => ?_) (fun hc69 => ?_)
              · skip
                have hik : i < k := by omega
                refine wp_skip ?_
                refine then_n ?_
                refine wp_seq ?_
                refine wp_block ?_
                refine reg ?_
                refine plain (y_move rfl rfl) rfl rfl rfl H68 ?_
                clear H68; intro a70 H70
                refine plain (y_mul rfl rfl rfl (wu64 (by omega) (by have := hvs hik; have := hvb hik; omega))) rfl rfl rfl H70 ?_
                clear H70; intro a71 H71
                refine plain (y_move rfl rfl) rfl rfl rfl H71 ?_
                clear H71; intro a72 H72
                refine plain (y_move rfl rfl) rfl rfl rfl H72 ?_
                clear H72; intro a73 H73
                refine plain (y_sidx rfl Try.underlying9 rfl rfl (by omega) (by omega)) rfl rfl rfl H73 ?_
                clear H73; intro a74 H74
                simp only [Int.toNat_natCast] at H74
                refine plain (y_conv rfl Try.underlying5 Try.underlying72 rfl (wu64 (by omega) (by have := ((s.getD (p + 1 + i) 0).toNat_lt); omega))) rfl rfl rfl H74 ?_
                clear H74; intro a75 H75
                refine plain (y_add rfl rfl rfl (wu64 (by omega) (by have := hvs hik; have := hvb hik; omega))) rfl rfl rfl H75 ?_
                clear H75; intro a76 H76
                refine plain (y_assign rfl rfl) rfl rfl rfl H76 ?_
                clear H76; intro a77 H77
                refine fin ?_
                refine inb_n ?_
                refine then_n ?_
                refine reg ?_
                refine plain (y_move rfl rfl) rfl rfl rfl H77 ?_
                clear H77; intro a78 H78
                refine plain (y_add rfl rfl rfl (by first | exact w64 (by omega) (by omega) | rfl)) rfl rfl rfl H78 ?_
                clear H78; intro a79 H79
                refine plain (y_assign rfl rfl) rfl rfl rfl H79 ?_
                clear H79; intro a80 H80
                refine fin ?_
                refine then_n ?_
                refine ⟨i + 1, by omega, by omega, H80.weak ⟨rfl, rfl, rfl, fi rfl (by rw [hvs hik]; omega), fi rfl (by omega), trivial⟩ rfl⟩
              · skip
                have hik2 : i = k := by omega
                refine wp_exit ?_
                refine then_x ?_
                refine then_x ?_
                refine inb_hit ?_
                refine then_n ?_
                refine wp_seq ?_
                refine wp_seq ?_
                refine reg ?_
                refine plain (y_move rfl rfl) rfl rfl rfl H68 ?_
                clear H68; intro a81 H81
                refine plain (y_gtr rfl rfl rfl) rfl rfl rfl H81 ?_
                clear H81; intro a82 H82
                refine plain (y_move rfl rfl) rfl rfl rfl H82 ?_
                clear H82; intro a83 H83
                refine part_d (d := 54) H83 rfl (fun hg84 => ?_) (fun hg84 => ?_)
                · first
                  | fail
                  | skip
                    clear H83; intro H85
                    refine plain (y_move rfl rfl) rfl rfl rfl H85 ?_
                    clear H85; intro a86 H86
                    refine plain (y_move rfl rfl) rfl rfl rfl H86 ?_
                    clear H86; intro a87 H87
                    refine plain (y_add rfl rfl rfl (by first | exact w64 (by omega) (by omega) | rfl)) rfl rfl rfl H87 ?_
                    clear H87; intro a88 H88
                    refine plain (y_sidx rfl Try.underlying9 rfl rfl (by omega) (by omega)) rfl rfl rfl H88 ?_
                    clear H88; intro a89 H89
                    refine plain (y_eql rfl rfl rfl) rfl rfl rfl H89 ?_
                    clear H89; intro a90 H90
                    refine plain (y_pick_t rfl rfl rfl) rfl rfl rfl H90 ?_
                    clear H90; intro a91 H91
                    refine plain (y_move rfl rfl) rfl rfl rfl H91 ?_
                    clear H91; intro a92 H92
                    refine part_d (d := 61) H92 rfl (fun hg93 => ?_) (fun hg93 => ?_)
                    · first
                      | fail
                      | skip
                        clear H92; intro H94
                        refine skip rfl rfl rfl H94 ?_
                        clear H94; intro a95 H95
                        refine skip rfl rfl rfl H95 ?_
                        clear H95; intro a96 H96
                        refine plain (y_pick_t rfl rfl rfl) rfl rfl rfl H96 ?_
                        clear H96; intro a97 H97
                        refine fin ?_
                        refine then_n ?_
                        refine cnd_t H97 rfl ?_
                        refine wp_seq ?_
                        refine reg ?_
                        refine plain (y_assign rfl rfl) rfl rfl rfl H97 ?_
                        clear H97; intro a99 H99
                        refine plain (y_assign rfl rfl) rfl rfl rfl H99 ?_
                        clear H99; intro a100 H100
                        refine plain (y_assign rfl rfl) rfl rfl rfl H100 ?_
                        clear H100; intro a101 H101
                        refine fin ?_
                        refine then_n ?_
                        refine wp_ret ?_
                        refine then_r ?_
                        -- return 6
                        refine ret3 rfl H101 rfl rfl rfl ?_
                        exact ⟨_, [], rfl, ⟨by rw [Oct.rdn_form (s := s) (p := p) (by omega) (by omega) (by omega) (by rw [hk, Oct.zero_toNat]; simp only [e1] at *; omega)], rfl⟩, H101.sep.sub (List.nil_sublist _)⟩
                    · first
                      | fail
                      | skip
                        clear H92; intro H102
                        refine plain (y_move rfl rfl) rfl rfl rfl H102 ?_
                        clear H102; intro a103 H103
                        refine plain (y_gtr rfl rfl rfl) rfl rfl rfl H103 ?_
                        clear H103; intro a104 H104
                        refine plain (y_pick_f rfl rfl rfl) rfl rfl rfl H104 ?_
                        clear H104; intro a105 H105
                        refine fin ?_
                        refine then_n ?_
                        refine cnd_d H105 rfl (fun hc106 => ?_) (fun hc106 => ?_)
                        · skip
                          refine wp_seq ?_
                          refine reg ?_
                          refine plain (y_assign rfl rfl) rfl rfl rfl H105 ?_
                          clear H105; intro a107 H107
                          refine plain (y_assign rfl rfl) rfl rfl rfl H107 ?_
                          clear H107; intro a108 H108
                          refine plain (y_assign rfl rfl) rfl rfl rfl H108 ?_
                          clear H108; intro a109 H109
                          refine fin ?_
                          refine then_n ?_
                          refine wp_ret ?_
                          refine then_r ?_
                          -- return 7
                          refine ret3 rfl H109 rfl rfl rfl ?_
                          exact ⟨_, [], rfl, ⟨by have hbg := Oct.val_big (s := s) (p := p) (k := i) (by omega) (by omega) (by omega); rw [Oct.rdn_form (s := s) (p := p) (by omega) (by omega) (by omega) (by rw [hk, ← hik2]; exact ⟨hbg.1, .inr hbg.2⟩)], rfl⟩, H109.sep.sub (List.nil_sublist _)⟩
                        · skip
                          refine wp_skip ?_
                          refine then_n ?_
                          refine wp_seq ?_
                          refine reg ?_
                          refine plain (y_move rfl rfl) rfl rfl rfl H105 ?_
                          clear H105; intro a110 H110
                          refine plain (y_conv rfl Try.underlying72 Try.underlying3 rfl (w64 (by omega) (by omega))) rfl rfl rfl H110 ?_
                          clear H110; intro a111 H111
                          refine plain (y_move rfl rfl) rfl rfl rfl H111 ?_
                          clear H111; intro a112 H112
                          refine plain (y_add rfl rfl rfl (by first | exact w64 (by omega) (by omega) | rfl)) rfl rfl rfl H112 ?_
                          clear H112; intro a113 H113
                          refine plain (y_move rfl rfl) rfl rfl rfl H113 ?_
                          clear H113; intro a114 H114
                          refine plain (y_add rfl rfl rfl (by first | exact w64 (by omega) (by omega) | rfl)) rfl rfl rfl H114 ?_
                          clear H114; intro a115 H115
                          refine plain (y_assign rfl rfl) rfl rfl rfl H115 ?_
                          clear H115; intro a116 H116
                          refine plain (y_assign rfl rfl) rfl rfl rfl H116 ?_
                          clear H116; intro a117 H117
                          refine plain (y_assign rfl rfl) rfl rfl rfl H117 ?_
                          clear H117; intro a118 H118
                          refine fin ?_
                          refine then_n ?_
                          refine wp_ret ?_
                          -- return 8
                          refine ret3 rfl H118 rfl rfl rfl ?_
                          exact ⟨_, [], rfl, ⟨by rw [Oct.rdn_good (Oct.rdn_isgood (s := s) (p := p) (k := k) (by omega) hk (by omega) (by omega) (by intro hx; have hgd := hx.2; simp only [e1] at *; rw [Oct.zero_toNat] at hgd; rcases hgd with hgd | hgd; omega; exact absurd (Oct.val_big' (s := s) (p := p) (k := i) (by omega) (by omega) hgd.2) (by omega))), ← hik2]; simp, rfl⟩, H118.sep.sub (List.nil_sublist _)⟩
                · first
                  | fail
                  | skip
                    clear H83; intro H119
                    refine skip rfl rfl rfl H119 ?_
                    clear H119; intro a120 H120
                    refine skip rfl rfl rfl H120 ?_
                    clear H120; intro a121 H121
                    refine skip rfl rfl rfl H121 ?_
                    clear H121; intro a122 H122
                    refine skip rfl rfl rfl H122 ?_
                    clear H122; intro a123 H123
                    refine skip rfl rfl rfl H123 ?_
                    clear H123; intro a124 H124
                    refine plain (y_pick_f rfl rfl rfl) rfl rfl rfl H124 ?_
                    clear H124; intro a125 H125
                    refine plain (y_move rfl rfl) rfl rfl rfl H125 ?_
                    clear H125; intro a126 H126
                    refine plain (y_move rfl rfl) rfl rfl rfl H126 ?_
                    clear H126; intro a127 H127
                    refine plain (y_gtr rfl rfl rfl) rfl rfl rfl H127 ?_
                    clear H127; intro a128 H128
                    refine plain (y_pick_f rfl rfl rfl) rfl rfl rfl H128 ?_
                    clear H128; intro a129 H129
                    refine fin ?_
                    refine then_n ?_
                    refine cnd_d H129 rfl (fun hc130 => ?_) (fun hc130 => ?_)
                    · skip
                      refine wp_seq ?_
                      refine reg ?_
                      refine plain (y_assign rfl rfl) rfl rfl rfl H129 ?_
                      clear H129; intro a131 H131
                      refine plain (y_assign rfl rfl) rfl rfl rfl H131 ?_
                      clear H131; intro a132 H132
                      refine plain (y_assign rfl rfl) rfl rfl rfl H132 ?_
                      clear H132; intro a133 H133
                      refine fin ?_
                      refine then_n ?_
                      refine wp_ret ?_
                      refine then_r ?_
                      -- return 9
                      refine ret3 rfl H133 rfl rfl rfl ?_
                      exact ⟨_, [], rfl, ⟨by have hbg := Oct.val_big (s := s) (p := p) (k := i) (by omega) (by omega) (by omega); rw [Oct.rdn_form (s := s) (p := p) (by omega) (by omega) (by omega) (by rw [hk, ← hik2]; exact ⟨hbg.1, .inr hbg.2⟩)], rfl⟩, H133.sep.sub (List.nil_sublist _)⟩
                    · skip
                      refine wp_skip ?_
                      refine then_n ?_
                      refine wp_seq ?_
                      refine reg ?_
                      refine plain (y_move rfl rfl) rfl rfl rfl H129 ?_
                      clear H129; intro a134 H134
                      refine plain (y_conv rfl Try.underlying72 Try.underlying3 rfl (w64 (by omega) (by omega))) rfl rfl rfl H134 ?_
                      clear H134; intro a135 H135
                      refine plain (y_move rfl rfl) rfl rfl rfl H135 ?_
                      clear H135; intro a136 H136
                      refine plain (y_add rfl rfl rfl (by first | exact w64 (by omega) (by omega) | rfl)) rfl rfl rfl H136 ?_
                      clear H136; intro a137 H137
                      refine plain (y_move rfl rfl) rfl rfl rfl H137 ?_
                      clear H137; intro a138 H138
                      refine plain (y_add rfl rfl rfl (by first | exact w64 (by omega) (by omega) | rfl)) rfl rfl rfl H138 ?_
                      clear H138; intro a139 H139
                      refine plain (y_assign rfl rfl) rfl rfl rfl H139 ?_
                      clear H139; intro a140 H140
                      refine plain (y_assign rfl rfl) rfl rfl rfl H140 ?_
                      clear H140; intro a141 H141
                      refine plain (y_assign rfl rfl) rfl rfl rfl H141 ?_
                      clear H141; intro a142 H142
                      refine fin ?_
                      refine then_n ?_
                      refine wp_ret ?_
                      -- return 10
                      refine ret3 rfl H142 rfl rfl rfl ?_
                      exact ⟨_, [], rfl, ⟨by rw [Oct.rdn_good (Oct.rdn_isgood (s := s) (p := p) (k := k) (by omega) hk (by omega) (by omega) (by intro hx; have hgd := hx.2; simp only [e1] at *; rw [Oct.zero_toNat] at hgd; rcases hgd with hgd | hgd; omega; exact absurd (Oct.val_big' (s := s) (p := p) (k := i) (by omega) (by omega) hgd.2) (by omega))), ← hik2]; simp, rfl⟩, H142.sep.sub (List.nil_sublist _)⟩
set_option maxRecDepth 100000 in
set_option maxHeartbeats 1000000 in
theorem rtxt (s : List UInt8) (p : Int) (hs : s.length ≤ 1000000000000000000) (hp : -9223372036854775808 ≤ p ∧ p ≤ 9223372036854775807) (w : World) : Calls Try.prog 37 #[str s, .int .i64 p] w (Gives (.tuple #[str (Oct.rdt s p).1, .int .i64 (Oct.rdt s p).2.1, .int .i64 (Oct.rdt s p).2.2]) [] w) := by
  refine enterL (args := [str s, .int .i64 p]) Try.func37 rfl rfl (l := []) (Sep.refl _) ?_
  intro a0 H0
  refine wp_seq ?_
  refine reg ?_
  refine plain (y_assign rfl rfl) rfl rfl rfl H0 ?_
  clear H0; intro a1 H1
  refine plain (y_assign rfl rfl) rfl rfl rfl H1 ?_
  clear H1; intro a2 H2
  refine plain (y_assign rfl rfl) rfl rfl rfl H2 ?_
  clear H2; intro a3 H3
  refine fin ?_
  refine then_n ?_
  refine wp_seq ?_
  refine reg ?_
  refine plain (y_move rfl rfl) rfl rfl rfl H3 ?_
  clear H3; intro a4 H4
  refine plain (y_move rfl rfl) rfl rfl rfl H4 ?_
  clear H4; intro a5 H5
  refine st_callg rfl z_call35 rfl rfl rfl rfl H5 (rnum s p hs hp _) ?_
  clear H5; intro a6 w6 H6
  refine plain (y_move rfl rfl) rfl rfl rfl H6 ?_
  clear H6; intro a7 H7
  refine plain (y_extract rfl rfl rfl) rfl rfl rfl H7 ?_
  clear H7; intro a8 H8
  refine plain (y_extract rfl rfl rfl) rfl rfl rfl H8 ?_
  clear H8; intro a9 H9
  refine plain (y_extract rfl rfl rfl) rfl rfl rfl H9 ?_
  clear H9; intro a10 H10
  refine plain (y_assign rfl rfl) rfl rfl rfl H10 ?_
  clear H10; intro a11 H11
  refine plain (y_assign rfl rfl) rfl rfl rfl H11 ?_
  clear H11; intro a12 H12
  refine plain (y_assign rfl rfl) rfl rfl rfl H12 ?_
  clear H12; intro a13 H13
  refine fin ?_
  refine then_n ?_
  refine wp_seq ?_
  refine wp_block ?_
  refine wp_seq ?_
  refine reg ?_
  refine plain (y_move rfl rfl) rfl rfl rfl H13 ?_
  clear H13; intro a14 H14
  refine plain (y_neq rfl rfl rfl) rfl rfl rfl H14 ?_
  clear H14; intro a15 H15
  refine plain (y_assign rfl rfl) rfl rfl rfl H15 ?_
  clear H15; intro a16 H16
  refine fin ?_
  refine then_n ?_
  refine cnd_d H16 rfl (fun hc17 => ?_) (fun hc17 => ?_)
  · skip
    refine wp_seq ?_
    refine reg ?_
    refine plain (y_move rfl rfl) rfl rfl rfl H16 ?_
    clear H16; intro a18 H18
    refine plain (y_assign rfl rfl) rfl rfl rfl H18 ?_
    clear H18; intro a19 H19
    refine plain (y_assign rfl rfl) rfl rfl rfl H19 ?_
    clear H19; intro a20 H20
    refine plain (y_assign rfl rfl) rfl rfl rfl H20 ?_
    clear H20; intro a21 H21
    refine fin ?_
    refine then_n ?_
    refine wp_ret ?_
    refine inb_r ?_
    refine then_r ?_
    -- return 1
    refine ret3 rfl H21 rfl rfl rfl ?_
    exact ⟨_, [], rfl, ⟨by rw [Oct.rdt_err (by omega)], rfl⟩, H21.sep.sub (List.nil_sublist _)⟩
  · skip
    have h0 : (Oct.rdn s p).2.2 = 0 := by omega
    have hb := Oct.rdn_bounds h0
    refine wp_seq ?_
    refine reg ?_
    refine plain (y_move rfl rfl) rfl rfl rfl H16 ?_
    clear H16; intro a22 H22
    refine plain (y_gtr rfl rfl rfl) rfl rfl rfl H22 ?_
    clear H22; intro a23 H23
    refine plain (y_assign rfl rfl) rfl rfl rfl H23 ?_
    clear H23; intro a24 H24
    refine fin ?_
    refine then_n ?_
    refine cnd_d H24 rfl (fun hc25 => ?_) (fun hc25 => ?_)
    · skip
      refine wp_seq ?_
      refine reg ?_
      refine plain (y_assign rfl rfl) rfl rfl rfl H24 ?_
      clear H24; intro a26 H26
      refine plain (y_assign rfl rfl) rfl rfl rfl H26 ?_
      clear H26; intro a27 H27
      refine plain (y_assign rfl rfl) rfl rfl rfl H27 ?_
      clear H27; intro a28 H28
      refine fin ?_
      refine then_n ?_
      refine wp_ret ?_
      refine inb_r ?_
      refine then_r ?_
      -- return 2
      refine ret3 rfl H28 rfl rfl rfl ?_
      exact ⟨_, [], rfl, ⟨by rw [Oct.rdt_big h0 (by omega)], rfl⟩, H28.sep.sub (List.nil_sublist _)⟩
    · skip
      refine wp_seq ?_
      refine reg ?_
      refine plain (y_move rfl rfl) rfl rfl rfl H24 ?_
      clear H24; intro a29 H29
      refine plain (y_move rfl rfl) rfl rfl rfl H29 ?_
      clear H29; intro a30 H30
      refine plain (y_slen rfl Try.underlying9 rfl) rfl rfl rfl H30 ?_
      clear H30; intro a31 H31
      refine plain (y_move rfl rfl) rfl rfl rfl H31 ?_
      clear H31; intro a32 H32
      refine plain (y_sub rfl rfl rfl (by first | exact w64 (by omega) (by omega) | rfl)) rfl rfl rfl H32 ?_
      clear H32; intro a33 H33
      refine plain (y_gtr rfl rfl rfl) rfl rfl rfl H33 ?_
      clear H33; intro a34 H34
      refine plain (y_assign rfl rfl) rfl rfl rfl H34 ?_
      clear H34; intro a35 H35
      refine fin ?_
      refine then_n ?_
      refine cnd_d H35 rfl (fun hc36 => ?_) (fun hc36 => ?_)
      · skip
        refine wp_seq ?_
        refine reg ?_
        refine plain (y_assign rfl rfl) rfl rfl rfl H35 ?_
        clear H35; intro a37 H37
        refine plain (y_assign rfl rfl) rfl rfl rfl H37 ?_
        clear H37; intro a38 H38
        refine plain (y_assign rfl rfl) rfl rfl rfl H38 ?_
        clear H38; intro a39 H39
        refine fin ?_
        refine then_n ?_
        refine wp_ret ?_
        refine inb_r ?_
        refine then_r ?_
        -- return 3
        refine ret3 rfl H39 rfl rfl rfl ?_
        exact ⟨_, [], rfl, ⟨by rw [Oct.rdt_short h0 (by omega) (by omega)], rfl⟩, H39.sep.sub (List.nil_sublist _)⟩
      · skip
        refine wp_skip ?_
        refine inb_n ?_
        refine then_n ?_
        refine wp_seq ?_
        refine reg ?_
        refine plain (y_move rfl rfl) rfl rfl rfl H35 ?_
        clear H35; intro a40 H40
        refine plain (y_move rfl rfl) rfl rfl rfl H40 ?_
        clear H40; intro a41 H41
        refine plain (y_move rfl rfl) rfl rfl rfl H41 ?_
        clear H41; intro a42 H42
        refine plain (y_move rfl rfl) rfl rfl rfl H42 ?_
        clear H42; intro a43 H43
        refine plain (y_add rfl rfl rfl (by first | exact w64 (by omega) (by omega) | rfl)) rfl rfl rfl H43 ?_
        clear H43; intro a44 H44
        refine plain (y_sslice rfl Try.underlying9 rfl rfl rfl (by omega) (by omega) (by omega)) rfl rfl rfl H44 ?_
        clear H44; intro a45 H45
        refine plain (y_move rfl rfl) rfl rfl rfl H45 ?_
        clear H45; intro a46 H46
        refine plain (y_move rfl rfl) rfl rfl rfl H46 ?_
        clear H46; intro a47 H47
        refine plain (y_add rfl rfl rfl (by first | exact w64 (by omega) (by omega) | rfl)) rfl rfl rfl H47 ?_
        clear H47; intro a48 H48
        refine plain (y_assign rfl rfl) rfl rfl rfl H48 ?_
        clear H48; intro a49 H49
        refine plain (y_assign rfl rfl) rfl rfl rfl H49 ?_
        clear H49; intro a50 H50
        refine plain (y_assign rfl rfl) rfl rfl rfl H50 ?_
        clear H50; intro a51 H51
        refine fin ?_
        refine then_n ?_
        refine wp_ret ?_
        -- return 4
        refine ret3 rfl H51 rfl rfl rfl ?_
        exact ⟨_, [], rfl, ⟨by rw [Oct.rdt_good h0 (by omega) (by omega), show ((Oct.rdn s p).2.1 + (Oct.rdn s p).1).toNat - (Oct.rdn s p).2.1.toNat = (Oct.rdn s p).1.toNat by omega], rfl⟩, H51.sep.sub (List.nil_sublist _)⟩
set_option maxRecDepth 100000 in
set_option maxHeartbeats 1000000 in
theorem rtxtR (s : List UInt8) (p : Int) (hs : s.length ≤ 1000000000000000000) (hp : -9223372036854775808 ≤ p ∧ p ≤ 9223372036854775807) (w : World) : Calls Try.prog 38 #[str s, .int .i64 p] w (Gives (.tuple #[str (Oct.rdt s p).1, .int .i64 (Oct.rdt s p).2.1, .int .i64 (Oct.rdt s p).2.2]) [] w) := by
  refine enterL (args := [str s, .int .i64 p]) Try.func38 rfl rfl (l := []) (Sep.refl _) ?_
  intro a0 H0
  refine wp_seq ?_
  refine reg ?_
  refine plain (y_assign rfl rfl) rfl rfl rfl H0 ?_
  clear H0; intro a1 H1
  refine plain (y_assign rfl rfl) rfl rfl rfl H1 ?_
  clear H1; intro a2 H2
  refine plain (y_assign rfl rfl) rfl rfl rfl H2 ?_
  clear H2; intro a3 H3
  refine fin ?_
  refine then_n ?_
  refine wp_seq ?_
  refine reg ?_
  refine plain (y_move rfl rfl) rfl rfl rfl H3 ?_
  clear H3; intro a4 H4
  refine plain (y_move rfl rfl) rfl rfl rfl H4 ?_
  clear H4; intro a5 H5
  refine st_callg rfl z_call36 rfl rfl rfl rfl H5 (rnumR s p hs hp _) ?_
  clear H5; intro a6 w6 H6
  refine plain (y_move rfl rfl) rfl rfl rfl H6 ?_
  clear H6; intro a7 H7
  refine plain (y_extract rfl rfl rfl) rfl rfl rfl H7 ?_
  clear H7; intro a8 H8
  refine plain (y_extract rfl rfl rfl) rfl rfl rfl H8 ?_
  clear H8; intro a9 H9
  refine plain (y_extract rfl rfl rfl) rfl rfl rfl H9 ?_
  clear H9; intro a10 H10
  refine plain (y_assign rfl rfl) rfl rfl rfl H10 ?_
  clear H10; intro a11 H11
  refine plain (y_assign rfl rfl) rfl rfl rfl H11 ?_
  clear H11; intro a12 H12
  refine plain (y_assign rfl rfl) rfl rfl rfl H12 ?_
  clear H12; intro a13 H13
  refine fin ?_
  refine then_n ?_
  refine wp_seq ?_
  refine wp_seq ?_
  refine reg ?_
  refine plain (y_move rfl rfl) rfl rfl rfl H13 ?_
  clear H13; intro a14 H14
  refine plain (y_neq rfl rfl rfl) rfl rfl rfl H14 ?_
  clear H14; intro a15 H15
  refine fin ?_
  refine then_n ?_
  refine cnd_d H15 rfl (fun hc16 => ?_) (fun hc16 => ?_)
  · skip
    refine wp_seq ?_
    refine reg ?_
    refine plain (y_move rfl rfl) rfl rfl rfl H15 ?_
    clear H15; intro a17 H17
    refine plain (y_assign rfl rfl) rfl rfl rfl H17 ?_
    clear H17; intro a18 H18
    refine plain (y_assign rfl rfl) rfl rfl rfl H18 ?_
    clear H18; intro a19 H19
    refine plain (y_assign rfl rfl) rfl rfl rfl H19 ?_
    clear H19; intro a20 H20
    refine fin ?_
    refine then_n ?_
    refine wp_ret ?_
    refine then_r ?_
    -- return 1
    refine ret3 rfl H20 rfl rfl rfl ?_
    exact ⟨_, [], rfl, ⟨by rw [Oct.rdt_err (by omega)], rfl⟩, H20.sep.sub (List.nil_sublist _)⟩
  · skip
    have h0 : (Oct.rdn s p).2.2 = 0 := by omega
    have hb := Oct.rdn_bounds h0
    refine wp_skip ?_
    refine then_n ?_
    refine wp_seq ?_
    refine wp_seq ?_
    refine reg ?_
    refine plain (y_move rfl rfl) rfl rfl rfl H15 ?_
    clear H15; intro a21 H21
    refine plain (y_gtr rfl rfl rfl) rfl rfl rfl H21 ?_
    clear H21; intro a22 H22
    refine fin ?_
    refine then_n ?_
    refine cnd_d H22 rfl (fun hc23 => ?_) (fun hc23 => ?_)
    · skip
      refine wp_seq ?_
      refine reg ?_
      refine plain (y_assign rfl rfl) rfl rfl rfl H22 ?_
      clear H22; intro a24 H24
      refine plain (y_assign rfl rfl) rfl rfl rfl H24 ?_
      clear H24; intro a25 H25
      refine plain (y_assign rfl rfl) rfl rfl rfl H25 ?_
      clear H25; intro a26 H26
      refine fin ?_
      refine then_n ?_
      refine wp_ret ?_
      refine then_r ?_
      -- return 2
      refine ret3 rfl H26 rfl rfl rfl ?_
      exact ⟨_, [], rfl, ⟨by rw [Oct.rdt_big h0 (by omega)], rfl⟩, H26.sep.sub (List.nil_sublist _)⟩
    · skip
      refine wp_skip ?_
      refine then_n ?_
      refine wp_seq ?_
      refine wp_seq ?_
      refine reg ?_
      refine plain (y_move rfl rfl) rfl rfl rfl H22 ?_
      clear H22; intro a27 H27
      refine plain (y_move rfl rfl) rfl rfl rfl H27 ?_
      clear H27; intro a28 H28
      refine plain (y_add rfl rfl rfl (by first | exact w64 (by omega) (by omega) | rfl)) rfl rfl rfl H28 ?_
      clear H28; intro a29 H29
      refine plain (y_move rfl rfl) rfl rfl rfl H29 ?_
      clear H29; intro a30 H30
      refine plain (y_slen rfl Try.underlying9 rfl) rfl rfl rfl H30 ?_
      clear H30; intro a31 H31
      refine plain (y_gtr rfl rfl rfl) rfl rfl rfl H31 ?_
      clear H31; intro a32 H32
      refine fin ?_
      refine then_n ?_
      refine cnd_d H32 rfl (fun hc33 => ?_) (fun hc33 => ?_)
      · skip
        refine wp_seq ?_
        refine reg ?_
        refine plain (y_assign rfl rfl) rfl rfl rfl H32 ?_
        clear H32; intro a34 H34
        refine plain (y_assign rfl rfl) rfl rfl rfl H34 ?_
        clear H34; intro a35 H35
        refine plain (y_assign rfl rfl) rfl rfl rfl H35 ?_
        clear H35; intro a36 H36
        refine fin ?_
        refine then_n ?_
        refine wp_ret ?_
        refine then_r ?_
        -- return 3
        refine ret3 rfl H36 rfl rfl rfl ?_
        exact ⟨_, [], rfl, ⟨by rw [Oct.rdt_short h0 (by omega) (by omega)], rfl⟩, H36.sep.sub (List.nil_sublist _)⟩
      · skip
        refine wp_skip ?_
        refine then_n ?_
        refine wp_seq ?_
        refine reg ?_
        refine plain (y_move rfl rfl) rfl rfl rfl H32 ?_
        clear H32; intro a37 H37
        refine plain (y_move rfl rfl) rfl rfl rfl H37 ?_
        clear H37; intro a38 H38
        refine plain (y_move rfl rfl) rfl rfl rfl H38 ?_
        clear H38; intro a39 H39
        refine plain (y_move rfl rfl) rfl rfl rfl H39 ?_
        clear H39; intro a40 H40
        refine plain (y_add rfl rfl rfl (by first | exact w64 (by omega) (by omega) | rfl)) rfl rfl rfl H40 ?_
        clear H40; intro a41 H41
        refine plain (y_sslice rfl Try.underlying9 rfl rfl rfl (by omega) (by omega) (by omega)) rfl rfl rfl H41 ?_
        clear H41; intro a42 H42
        refine plain (y_move rfl rfl) rfl rfl rfl H42 ?_
        clear H42; intro a43 H43
        refine plain (y_move rfl rfl) rfl rfl rfl H43 ?_
        clear H43; intro a44 H44
        refine plain (y_add rfl rfl rfl (by first | exact w64 (by omega) (by omega) | rfl)) rfl rfl rfl H44 ?_
        clear H44; intro a45 H45
        refine plain (y_assign rfl rfl) rfl rfl rfl H45 ?_
        clear H45; intro a46 H46
        refine plain (y_assign rfl rfl) rfl rfl rfl H46 ?_
        clear H46; intro a47 H47
        refine plain (y_assign rfl rfl) rfl rfl rfl H47 ?_
        clear H47; intro a48 H48
        refine fin ?_
        refine then_n ?_
        refine wp_ret ?_
        -- return 4
        refine ret3 rfl H48 rfl rfl rfl ?_
        exact ⟨_, [], rfl, ⟨by rw [Oct.rdt_good h0 (by omega) (by omega), show ((Oct.rdn s p).2.1 + (Oct.rdn s p).1).toNat - (Oct.rdn s p).2.1.toNat = (Oct.rdn s p).1.toNat by omega], rfl⟩, H48.sep.sub (List.nil_sublist _)⟩
set_option maxRecDepth 100000 in
set_option maxHeartbeats 2000000 in
theorem rlst (s : List UInt8) (p : Int) (hs : s.length ≤ 1000000000000000000) (hp : -9223372036854775808 ≤ p ∧ p ≤ 9223372036854775807) (w : World) : Calls Try.prog 39 #[str s, .int .i64 p] w (Post [] w (fun u l => ∃ v, u = .tuple #[v, .int .i64 (Oct.rdl s p).2.1, .int .i64 (Oct.rdl s p).2.2] ∧ l = [It.row 9 1 v (Oct.rdl s p).1.length ((Oct.rdl s p).1.map str)])) := by
  refine enterL (args := [str s, .int .i64 p]) Try.func39 rfl rfl (l := []) (Sep.refl _) ?_
  intro a0 H0
  refine wp_seq ?_
  refine reg ?_
  refine plain (y_assign rfl rfl) rfl rfl rfl H0 ?_
  clear H0; intro a1 H1
  refine plain (y_assign rfl rfl) rfl rfl rfl H1 ?_
  clear H1; intro a2 H2
  refine plain (y_assign rfl rfl) rfl rfl rfl H2 ?_
  clear H2; intro a3 H3
  refine fin ?_
  refine then_n ?_
  refine wp_seq ?_
  refine reg ?_
  refine plain (y_move rfl rfl) rfl rfl rfl H3 ?_
  clear H3; intro a4 H4
  refine plain (y_move rfl rfl) rfl rfl rfl H4 ?_
  clear H4; intro a5 H5
  refine st_callg rfl z_call35 rfl rfl rfl rfl H5 (rnum s p hs hp _) ?_
  clear H5; intro a6 w6 H6
  refine plain (y_move rfl rfl) rfl rfl rfl H6 ?_
  clear H6; intro a7 H7
  refine plain (y_extract rfl rfl rfl) rfl rfl rfl H7 ?_
  clear H7; intro a8 H8
  refine plain (y_extract rfl rfl rfl) rfl rfl rfl H8 ?_
  clear H8; intro a9 H9
  refine plain (y_extract rfl rfl rfl) rfl rfl rfl H9 ?_
  clear H9; intro a10 H10
  refine plain (y_assign rfl rfl) rfl rfl rfl H10 ?_
  clear H10; intro a11 H11
  refine plain (y_assign rfl rfl) rfl rfl rfl H11 ?_
  clear H11; intro a12 H12
  refine plain (y_assign rfl rfl) rfl rfl rfl H12 ?_
  clear H12; intro a13 H13
  refine fin ?_
  refine then_n ?_
  refine wp_seq ?_
  refine wp_seq ?_
  refine reg ?_
  refine plain (y_move rfl rfl) rfl rfl rfl H13 ?_
  clear H13; intro a14 H14
  refine plain (y_neq rfl rfl rfl) rfl rfl rfl H14 ?_
  clear H14; intro a15 H15
  refine fin ?_
  refine then_n ?_
  refine cnd_d H15 rfl (fun hc16 => ?_) (fun hc16 => ?_)
  · skip
    refine wp_seq ?_
    refine reg ?_
    refine plain (y_move rfl rfl) rfl rfl rfl H15 ?_
    clear H15; intro a17 H17
    refine plain (y_assign rfl rfl) rfl rfl rfl H17 ?_
    clear H17; intro a18 H18
    refine plain (y_assign rfl rfl) rfl rfl rfl H18 ?_
    clear H18; intro a19 H19
    refine plain (y_assign rfl rfl) rfl rfl rfl H19 ?_
    clear H19; intro a20 H20
    refine fin ?_
    refine then_n ?_
    refine wp_ret ?_
    refine then_r ?_
    -- return 1
    refine ret3 rfl H20 rfl rfl rfl ?_
    exact ⟨_, _, rfl, ⟨.slice none 0 0, by rw [Oct.rdl_err (by omega)], by rw [Oct.rdl_err (by omega)]; rfl⟩, (H20.sep.sub (List.nil_sublist _)).addNil 9 1⟩
  · skip
    have h0 : (Oct.rdn s p).2.2 = 0 := by omega
    have hb := Oct.rdn_bounds h0
    refine wp_skip ?_
    refine then_n ?_
    refine wp_seq ?_
    refine wp_seq ?_
    refine reg ?_
    refine plain (y_move rfl rfl) rfl rfl rfl H15 ?_
    clear H15; intro a21 H21
    refine plain (y_gtr rfl rfl rfl) rfl rfl rfl H21 ?_
    clear H21; intro a22 H22
    refine fin ?_
    refine then_n ?_
    refine cnd_d H22 rfl (fun hc23 => ?_) (fun hc23 => ?_)
    · skip
      refine wp_seq ?_
      refine reg ?_
      refine plain (y_assign rfl rfl) rfl rfl rfl H22 ?_
      clear H22; intro a24 H24
      refine plain (y_assign rfl rfl) rfl rfl rfl H24 ?_
      clear H24; intro a25 H25
      refine plain (y_assign rfl rfl) rfl rfl rfl H25 ?_
      clear H25; intro a26 H26
      refine fin ?_
      refine then_n ?_
      refine wp_ret ?_
      refine then_r ?_
      -- return 2
      refine ret3 rfl H26 rfl rfl rfl ?_
      exact ⟨_, _, rfl, ⟨.slice none 0 0, by rw [Oct.rdl_big h0 (by omega)], by rw [Oct.rdl_big h0 (by omega)]; rfl⟩, (H26.sep.sub (List.nil_sublist _)).addNil 9 1⟩
    · skip
      refine wp_skip ?_
      refine then_n ?_
      refine wp_seq ?_
      refine reg ?_
      refine plain (y_assign rfl rfl) rfl rfl rfl H22 ?_
      clear H22; intro a27 H27
      refine fin ?_
      refine then_n ?_
      refine wp_seq ?_
      refine reg ?_
      refine plain (y_assign rfl rfl) rfl rfl rfl H27 ?_
      clear H27; intro a28 H28
      refine fin ?_
      refine then_n ?_
      refine wp_seq ?_
      refine wp_seq ?_
      refine reg ?_
      refine plain (y_move rfl rfl) rfl rfl rfl H28 ?_
      clear H28; intro a29 H29
      refine plain (y_move rfl rfl) rfl rfl rfl H29 ?_
      clear H29; intro a30 H30
      refine fin ?_
      refine then_n ?_
      refine wp_block ?_
      replace H30 := H30.nilRow 9 1
      refine loop (ι := List (List UInt8) × Int × Int × Value) (fun x => [(0, str s), (8, .int .i64 x.2.1), (10, x.2.2.2), (11, .int .i64 x.2.2.1), (27, .int .i64 (Oct.rdn s p).1), (28, .int .i64 (x.1.length : Int))]) (fun x => [It.row 9 1 x.2.2.2 x.1.length (x.1.map str)]) (fun x => x.1.length ≤ (Oct.rdn s p).1.toNat ∧ 0 ≤ x.2.2.1 ∧ x.2.2.1 ≤ 65536 ∧ 0 ≤ x.2.1 ∧ x.2.1 ≤ s.length ∧ Oct.rdls s ((Oct.rdn s p).1.toNat - x.1.length) x.2.1 x.2.2.1 x.1 = Oct.rdl s p) (fun x => (Oct.rdn s p).1.toNat - x.1.length) (([], (Oct.rdn s p).2.1, 65536, .slice none 0 0)) ⟨Nat.zero_le _, by dsimp only; omega, by dsimp only; omega, by dsimp only; omega, by dsimp only; omega, by dsimp only; rw [Oct.rdl_go h0 (by omega)]; rfl⟩ (H30.weak ⟨rfl, rfl, rfl, rfl, rfl, rfl, trivial⟩ rfl) ?_
      clear H30; intro x a31 w31 hok31 H31
      obtain ⟨acc, pos, left, v⟩ := x
      dsimp only at hok31 H31
      obtain ⟨hok1, hok2, hok3, hok4, hok5, hrd⟩ := hok31
      refine wp_seq ?_
      refine reg ?_
      refine plain (y_lss rfl rfl rfl) rfl rfl rfl H31 ?_
      clear H31; intro a32 H32
      refine fin ?_
      refine then_n ?_
      refine wp_seq ?_
      refine cnd_d H32 rfl (fun hc33 => ?_) (fun hc33 => ?_)
      · skip
        obtain ⟨m, hm⟩ : ∃ m, (Oct.rdn s p).1.toNat - acc.length = m + 1 := ⟨(Oct.rdn s p).1.toNat - acc.length - 1, by omega⟩
        rw [hm] at hrd
        refine wp_skip ?_
        refine then_n ?_
        refine wp_seq ?_
        refine wp_block ?_
        refine wp_seq ?_
        refine reg ?_
        refine plain (y_move rfl rfl) rfl rfl rfl H32 ?_
        clear H32; intro a34 H34
        refine plain (y_move rfl rfl) rfl rfl rfl H34 ?_
        clear H34; intro a35 H35
        refine st_callg rfl z_call37 rfl rfl rfl rfl H35 (rtxt s pos hs (by omega) _) ?_
        clear H35; intro a36 w36 H36
        refine plain (y_move rfl rfl) rfl rfl rfl H36 ?_
        clear H36; intro a37 H37
        refine plain (y_extract rfl rfl rfl) rfl rfl rfl H37 ?_
        clear H37; intro a38 H38
        refine plain (y_extract rfl rfl rfl) rfl rfl rfl H38 ?_
        clear H38; intro a39 H39
        refine plain (y_extract rfl rfl rfl) rfl rfl rfl H39 ?_
        clear H39; intro a40 H40
        refine plain (y_assign rfl rfl) rfl rfl rfl H40 ?_
        clear H40; intro a41 H41
        refine plain (y_assign rfl rfl) rfl rfl rfl H41 ?_
        clear H41; intro a42 H42
        refine plain (y_assign rfl rfl) rfl rfl rfl H42 ?_
        clear H42; intro a43 H43
        refine fin ?_
        refine then_n ?_
        refine wp_seq ?_
        refine wp_seq ?_
        refine reg ?_
        refine plain (y_move rfl rfl) rfl rfl rfl H43 ?_
        clear H43; intro a44 H44
        refine plain (y_neq rfl rfl rfl) rfl rfl rfl H44 ?_
        clear H44; intro a45 H45
        refine fin ?_
        refine then_n ?_
        refine cnd_d H45 rfl (fun hc46 => ?_) (fun hc46 => ?_)
        · skip
          rw [Oct.rdls_err (by omega)] at hrd
          refine wp_seq ?_
          refine reg ?_
          refine plain (y_move rfl rfl) rfl rfl rfl H45 ?_
          clear H45; intro a47 H47
          refine plain (y_assign rfl rfl) rfl rfl rfl H47 ?_
          clear H47; intro a48 H48
          refine plain (y_assign rfl rfl) rfl rfl rfl H48 ?_
          clear H48; intro a49 H49
          refine plain (y_assign rfl rfl) rfl rfl rfl H49 ?_
          clear H49; intro a50 H50
          refine fin ?_
          refine then_n ?_
          refine wp_ret ?_
          refine then_r ?_
          refine inb_r ?_
          refine then_r ?_
          refine then_r ?_
          refine inb_r ?_
          refine then_r ?_
          -- return 3
          refine ret3 rfl H50 rfl rfl rfl ?_
          exact ⟨_, _, rfl, ⟨.slice none 0 0, by rw [← hrd], by rw [← hrd]; rfl⟩, (H50.sep.sub (List.nil_sublist _)).addNil 9 1⟩
        · skip
          have ht0 : (Oct.rdt s pos).2.2 = 0 := by omega
          have htb := Oct.rdt_bounds ht0
          refine wp_skip ?_
          refine then_n ?_
          refine wp_seq ?_
          refine wp_seq ?_
          refine reg ?_
          refine plain (y_move rfl rfl) rfl rfl rfl H45 ?_
          clear H45; intro a51 H51
          refine plain (y_slen rfl Try.underlying9 rfl) rfl rfl rfl H51 ?_
          clear H51; intro a52 H52
          refine plain (y_move rfl rfl) rfl rfl rfl H52 ?_
          clear H52; intro a53 H53
          refine plain (y_gtr rfl rfl rfl) rfl rfl rfl H53 ?_
          clear H53; intro a54 H54
          refine fin ?_
          refine then_n ?_
          refine cnd_d H54 rfl (fun hc55 => ?_) (fun hc55 => ?_)
          · skip
            rw [Oct.rdls_big ht0 (by omega)] at hrd
            refine wp_seq ?_
            refine reg ?_
            refine plain (y_assign rfl rfl) rfl rfl rfl H54 ?_
            clear H54; intro a56 H56
            refine plain (y_assign rfl rfl) rfl rfl rfl H56 ?_
            clear H56; intro a57 H57
            refine plain (y_assign rfl rfl) rfl rfl rfl H57 ?_
            clear H57; intro a58 H58
            refine fin ?_
            refine then_n ?_
            refine wp_ret ?_
            refine then_r ?_
            refine inb_r ?_
            refine then_r ?_
            refine then_r ?_
            refine inb_r ?_
            refine then_r ?_
            -- return 4
            refine ret3 rfl H58 rfl rfl rfl ?_
            exact ⟨_, _, rfl, ⟨.slice none 0 0, by rw [← hrd], by rw [← hrd]; rfl⟩, (H58.sep.sub (List.nil_sublist _)).addNil 9 1⟩
          · skip
            rw [Oct.rdls_more ht0 (by omega)] at hrd
            refine wp_skip ?_
            refine then_n ?_
            refine wp_seq ?_
            refine reg ?_
            refine plain (y_move rfl rfl) rfl rfl rfl H54 ?_
            clear H54; intro a59 H59
            refine plain (y_move rfl rfl) rfl rfl rfl H59 ?_
            clear H59; intro a60 H60
            refine plain (y_slen rfl Try.underlying9 rfl) rfl rfl rfl H60 ?_
            clear H60; intro a61 H61
            refine plain (y_sub rfl rfl rfl (by first | exact w64 (by omega) (by omega) | rfl)) rfl rfl rfl H61 ?_
            clear H61; intro a62 H62
            refine plain (y_assign rfl rfl) rfl rfl rfl H62 ?_
            clear H62; intro a63 H63
            refine fin ?_
            refine then_n ?_
            refine wp_seq ?_
            refine reg ?_
            refine plain (y_move rfl rfl) rfl rfl rfl H63 ?_
            clear H63; intro a64 H64
            refine plain (y_move rfl rfl) rfl rfl rfl H64 ?_
            clear H64; intro a65 H65
            refine st_buildSlice1 (xs := [.tmp 49]) rfl Try.underlying49 z_size9 z_zero9 rfl rfl rfl rfl rfl rfl rfl rfl rfl H65 ?_
            clear H65; intro b66 a66 w66 H66
            refine st_append rfl z_slice49 z_notint49 rfl rfl (fun _ => (by repeat (first | exact Upd.head _ _ _ | apply Upd.tail))) (fun w hs => Src.slice ((rd_blkA (by repeat (first | exact List.Mem.head _ | apply List.Mem.tail))) w hs) rfl (by simp [Value.oneCell'])) (by unfold maxLen; omega) (by omega) rfl rfl rfl H66 ?_
            clear H66; intro v67 a67 w67 hnil67 H67
            refine plain (y_assign rfl rfl) rfl rfl rfl H67 ?_
            clear H67; intro a68 H68
            refine fin ?_
            refine then_n ?_
            refine reg ?_
            refine plain (y_move rfl rfl) rfl rfl rfl H68 ?_
            clear H68; intro a69 H69
            refine plain (y_assign rfl rfl) rfl rfl rfl H69 ?_
            clear H69; intro a70 H70
            refine fin ?_
            refine inb_n ?_
            refine then_n ?_
            refine reg ?_
            refine plain (y_add rfl rfl rfl (by first | exact w64 (by omega) (by omega) | rfl)) rfl rfl rfl H70 ?_
            clear H70; intro a71 H71
            refine plain (y_move rfl rfl) rfl rfl rfl H71 ?_
            clear H71; intro a72 H72
            refine fin ?_
            refine then_n ?_
            refine ⟨(acc ++ [(Oct.rdt s pos).1], (Oct.rdt s pos).2.1, left - (Oct.rdt s pos).1.length, v67), by simp only [List.length_append, List.length_singleton]; omega, ⟨by simp only [List.length_append, List.length_singleton]; omega, by dsimp only; omega, by dsimp only; omega, by dsimp only; omega, by dsimp only; omega, ?_⟩, (H72.drop (List.Sublist.cons _ (List.Sublist.refl _))).weak ⟨rfl, rfl, rfl, rfl, rfl, fi rfl (by simp), trivial⟩ (ir (by simp) (by simp))⟩
            rw [← hrd]; congr 1; simp only [List.length_append, List.length_singleton]; omega
      · skip
        have hm : (Oct.rdn s p).1.toNat - acc.length = 0 := by omega
        rw [hm] at hrd
        refine wp_exit ?_
        refine then_x ?_
        refine then_x ?_
        refine inb_hit ?_
        refine then_n ?_
        refine wp_seq ?_
        refine reg ?_
        refine plain (y_move rfl rfl) rfl rfl rfl H32 ?_
        clear H32; intro a73 H73
        refine plain (y_move rfl rfl) rfl rfl rfl H73 ?_
        clear H73; intro a74 H74
        refine plain (y_assign rfl rfl) rfl rfl rfl H74 ?_
        clear H74; intro a75 H75
        refine plain (y_assign rfl rfl) rfl rfl rfl H75 ?_
        clear H75; intro a76 H76
        refine plain (y_assign rfl rfl) rfl rfl rfl H76 ?_
        clear H76; intro a77 H77
        refine fin ?_
        refine then_n ?_
        refine wp_ret ?_
        -- return 5
        refine ret3 rfl H77 rfl rfl rfl ?_
        exact ⟨_, _, rfl, ⟨v, by rw [← hrd]; rfl, by rw [← hrd]; rfl⟩, H77.sep⟩
set_option maxRecDepth 100000 in
set_option maxHeartbeats 2000000 in
theorem rlstR (s : List UInt8) (p : Int) (hs : s.length ≤ 1000000000000000000) (hp : -9223372036854775808 ≤ p ∧ p ≤ 9223372036854775807) (w : World) : Calls Try.prog 40 #[str s, .int .i64 p] w (Post [] w (fun u l => ∃ v, u = .tuple #[v, .int .i64 (Oct.rdl s p).2.1, .int .i64 (Oct.rdl s p).2.2] ∧ l = [It.row 9 1 v (Oct.rdl s p).1.length ((Oct.rdl s p).1.map str)])) := by
  refine enterL (args := [str s, .int .i64 p]) Try.func40 rfl rfl (l := []) (Sep.refl _) ?_
  intro a0 H0
  refine wp_seq ?_
  refine reg ?_
  refine plain (y_assign rfl rfl) rfl rfl rfl H0 ?_
  clear H0; intro a1 H1
  refine plain (y_assign rfl rfl) rfl rfl rfl H1 ?_
  clear H1; intro a2 H2
  refine plain (y_assign rfl rfl) rfl rfl rfl H2 ?_
  clear H2; intro a3 H3
  refine fin ?_
  refine then_n ?_
  refine wp_seq ?_
  refine reg ?_
  refine plain (y_move rfl rfl) rfl rfl rfl H3 ?_
  clear H3; intro a4 H4
  refine plain (y_move rfl rfl) rfl rfl rfl H4 ?_
  clear H4; intro a5 H5
  refine st_callg rfl z_call36 rfl rfl rfl rfl H5 (rnumR s p hs hp _) ?_
  clear H5; intro a6 w6 H6
  refine plain (y_move rfl rfl) rfl rfl rfl H6 ?_
  clear H6; intro a7 H7
  refine plain (y_extract rfl rfl rfl) rfl rfl rfl H7 ?_
  clear H7; intro a8 H8
  refine plain (y_extract rfl rfl rfl) rfl rfl rfl H8 ?_
  clear H8; intro a9 H9
  refine plain (y_extract rfl rfl rfl) rfl rfl rfl H9 ?_
  clear H9; intro a10 H10
  refine plain (y_assign rfl rfl) rfl rfl rfl H10 ?_
  clear H10; intro a11 H11
  refine plain (y_assign rfl rfl) rfl rfl rfl H11 ?_
  clear H11; intro a12 H12
  refine plain (y_assign rfl rfl) rfl rfl rfl H12 ?_
  clear H12; intro a13 H13
  refine fin ?_
  refine then_n ?_
  refine wp_seq ?_
  refine wp_seq ?_
  refine reg ?_
  refine plain (y_move rfl rfl) rfl rfl rfl H13 ?_
  clear H13; intro a14 H14
  refine plain (y_neq rfl rfl rfl) rfl rfl rfl H14 ?_
  clear H14; intro a15 H15
  refine fin ?_
  refine then_n ?_
  refine cnd_d H15 rfl (fun hc16 => ?_) (fun hc16 => ?_)
  · skip
    refine wp_seq ?_
    refine reg ?_
    refine plain (y_move rfl rfl) rfl rfl rfl H15 ?_
    clear H15; intro a17 H17
    refine plain (y_assign rfl rfl) rfl rfl rfl H17 ?_
    clear H17; intro a18 H18
    refine plain (y_assign rfl rfl) rfl rfl rfl H18 ?_
    clear H18; intro a19 H19
    refine plain (y_assign rfl rfl) rfl rfl rfl H19 ?_
    clear H19; intro a20 H20
    refine fin ?_
    refine then_n ?_
    refine wp_ret ?_
    refine then_r ?_
    -- return 1
    refine ret3 rfl H20 rfl rfl rfl ?_
    exact ⟨_, _, rfl, ⟨.slice none 0 0, by rw [Oct.rdl_err (by omega)], by rw [Oct.rdl_err (by omega)]; rfl⟩, (H20.sep.sub (List.nil_sublist _)).addNil 9 1⟩
  · skip
    have h0 : (Oct.rdn s p).2.2 = 0 := by omega
    have hb := Oct.rdn_bounds h0
    refine wp_skip ?_
    refine then_n ?_
    refine wp_seq ?_
    refine wp_seq ?_
    refine reg ?_
    refine plain (y_move rfl rfl) rfl rfl rfl H15 ?_
    clear H15; intro a21 H21
    refine plain (y_gtr rfl rfl rfl) rfl rfl rfl H21 ?_
    clear H21; intro a22 H22
    refine fin ?_
    refine then_n ?_
    refine cnd_d H22 rfl (fun hc23 => ?_) (fun hc23 => ?_)
    · skip
      refine wp_seq ?_
      refine reg ?_
      refine plain (y_assign rfl rfl) rfl rfl rfl H22 ?_
      clear H22; intro a24 H24
      refine plain (y_assign rfl rfl) rfl rfl rfl H24 ?_
      clear H24; intro a25 H25
      refine plain (y_assign rfl rfl) rfl rfl rfl H25 ?_
      clear H25; intro a26 H26
      refine fin ?_
      refine then_n ?_
      refine wp_ret ?_
      refine then_r ?_
      -- return 2
      refine ret3 rfl H26 rfl rfl rfl ?_
      exact ⟨_, _, rfl, ⟨.slice none 0 0, by rw [Oct.rdl_big h0 (by omega)], by rw [Oct.rdl_big h0 (by omega)]; rfl⟩, (H26.sep.sub (List.nil_sublist _)).addNil 9 1⟩
    · skip
      refine wp_skip ?_
      refine then_n ?_
      refine wp_seq ?_
      refine reg ?_
      refine plain (y_assign rfl rfl) rfl rfl rfl H22 ?_
      clear H22; intro a27 H27
      refine fin ?_
      refine then_n ?_
      refine wp_seq ?_
      refine reg ?_
      refine plain (y_assign rfl rfl) rfl rfl rfl H27 ?_
      clear H27; intro a28 H28
      refine fin ?_
      refine then_n ?_
      refine wp_seq ?_
      refine wp_seq ?_
      refine reg ?_
      refine plain (y_assign rfl rfl) rfl rfl rfl H28 ?_
      clear H28; intro a29 H29
      refine fin ?_
      refine then_n ?_
      refine wp_block ?_
      replace H29 := H29.nilRow 9 1
      refine loop (ι := List (List UInt8) × Int × Int × Value) (fun x => [(0, str s), (7, .int .i64 (Oct.rdn s p).1), (8, .int .i64 x.2.1), (10, x.2.2.2), (11, .int .i64 (65536 - x.2.2.1)), (12, .int .i64 (x.1.length : Int))]) (fun x => [It.row 9 1 x.2.2.2 x.1.length (x.1.map str)]) (fun x => x.1.length ≤ (Oct.rdn s p).1.toNat ∧ 0 ≤ x.2.2.1 ∧ x.2.2.1 ≤ 65536 ∧ 0 ≤ x.2.1 ∧ x.2.1 ≤ s.length ∧ Oct.rdls s ((Oct.rdn s p).1.toNat - x.1.length) x.2.1 x.2.2.1 x.1 = Oct.rdl s p) (fun x => (Oct.rdn s p).1.toNat - x.1.length) (([], (Oct.rdn s p).2.1, 65536, .slice none 0 0)) ⟨Nat.zero_le _, by dsimp only; omega, by dsimp only; omega, by dsimp only; omega, by dsimp only; omega, by dsimp only; rw [Oct.rdl_go h0 (by omega)]; rfl⟩ (H29.weak ⟨rfl, rfl, rfl, rfl, fi rfl (by simp), rfl, trivial⟩ rfl) ?_
      clear H29; intro x a30 w30 hok30 H30
      obtain ⟨acc, pos, left, v⟩ := x
      dsimp only at hok30 H30
      obtain ⟨hok1, hok2, hok3, hok4, hok5, hrd⟩ := hok30
      refine wp_seq ?_
      refine wp_seq ?_
      refine reg ?_
      refine plain (y_move rfl rfl) rfl rfl rfl H30 ?_
      clear H30; intro a31 H31
      refine plain (y_move rfl rfl) rfl rfl rfl H31 ?_
      clear H31; intro a32 H32
      refine plain (y_lss rfl rfl rfl) rfl rfl rfl H32 ?_
      clear H32; intro a33 H33
      refine fin ?_
      refine then_n ?_
      refine cnd_d H33 rfl (fun hc34 => ?_) (fun hc34 => ?_)
      · skip
        obtain ⟨m, hm⟩ : ∃ m, (Oct.rdn s p).1.toNat - acc.length = m + 1 := ⟨(Oct.rdn s p).1.toNat - acc.length - 1, by omega⟩
        rw [hm] at hrd
        refine wp_skip ?_
        refine then_n ?_
        refine wp_seq ?_
        refine wp_block ?_
        refine wp_seq ?_
        refine reg ?_
        refine plain (y_move rfl rfl) rfl rfl rfl H33 ?_
        clear H33; intro a35 H35
        refine plain (y_move rfl rfl) rfl rfl rfl H35 ?_
        clear H35; intro a36 H36
        refine st_callg rfl z_call38 rfl rfl rfl rfl H36 (rtxtR s pos hs (by omega) _) ?_
        clear H36; intro a37 w37 H37
        refine plain (y_move rfl rfl) rfl rfl rfl H37 ?_
        clear H37; intro a38 H38
        refine plain (y_extract rfl rfl rfl) rfl rfl rfl H38 ?_
        clear H38; intro a39 H39
        refine plain (y_extract rfl rfl rfl) rfl rfl rfl H39 ?_
        clear H39; intro a40 H40
        refine plain (y_extract rfl rfl rfl) rfl rfl rfl H40 ?_
        clear H40; intro a41 H41
        refine plain (y_assign rfl rfl) rfl rfl rfl H41 ?_
        clear H41; intro a42 H42
        refine plain (y_assign rfl rfl) rfl rfl rfl H42 ?_
        clear H42; intro a43 H43
        refine plain (y_assign rfl rfl) rfl rfl rfl H43 ?_
        clear H43; intro a44 H44
        refine fin ?_
        refine then_n ?_
        refine wp_seq ?_
        refine wp_seq ?_
        refine reg ?_
        refine plain (y_move rfl rfl) rfl rfl rfl H44 ?_
        clear H44; intro a45 H45
        refine plain (y_neq rfl rfl rfl) rfl rfl rfl H45 ?_
        clear H45; intro a46 H46
        refine fin ?_
        refine then_n ?_
        refine cnd_d H46 rfl (fun hc47 => ?_) (fun hc47 => ?_)
        · skip
          rw [Oct.rdls_err (by omega)] at hrd
          refine wp_seq ?_
          refine reg ?_
          refine plain (y_move rfl rfl) rfl rfl rfl H46 ?_
          clear H46; intro a48 H48
          refine plain (y_assign rfl rfl) rfl rfl rfl H48 ?_
          clear H48; intro a49 H49
          refine plain (y_assign rfl rfl) rfl rfl rfl H49 ?_
          clear H49; intro a50 H50
          refine plain (y_assign rfl rfl) rfl rfl rfl H50 ?_
          clear H50; intro a51 H51
          refine fin ?_
          refine then_n ?_
          refine wp_ret ?_
          refine then_r ?_
          refine inb_r ?_
          refine then_r ?_
          refine then_r ?_
          refine inb_r ?_
          refine then_r ?_
          -- return 3
          refine ret3 rfl H51 rfl rfl rfl ?_
          exact ⟨_, _, rfl, ⟨.slice none 0 0, by rw [← hrd], by rw [← hrd]; rfl⟩, (H51.sep.sub (List.nil_sublist _)).addNil 9 1⟩
        · skip
          have ht0 : (Oct.rdt s pos).2.2 = 0 := by omega
          have htb := Oct.rdt_bounds ht0
          refine wp_skip ?_
          refine then_n ?_
          refine wp_seq ?_
          refine reg ?_
          refine plain (y_move rfl rfl) rfl rfl rfl H46 ?_
          clear H46; intro a52 H52
          refine plain (y_move rfl rfl) rfl rfl rfl H52 ?_
          clear H52; intro a53 H53
          refine plain (y_slen rfl Try.underlying9 rfl) rfl rfl rfl H53 ?_
          clear H53; intro a54 H54
          refine plain (y_add rfl rfl rfl (by first | exact w64 (by omega) (by omega) | rfl)) rfl rfl rfl H54 ?_
          clear H54; intro a55 H55
          refine plain (y_assign rfl rfl) rfl rfl rfl H55 ?_
          clear H55; intro a56 H56
          refine fin ?_
          refine then_n ?_
          refine wp_seq ?_
          refine wp_seq ?_
          refine reg ?_
          refine plain (y_move rfl rfl) rfl rfl rfl H56 ?_
          clear H56; intro a57 H57
          refine plain (y_gtr rfl rfl rfl) rfl rfl rfl H57 ?_
          clear H57; intro a58 H58
          refine fin ?_
          refine then_n ?_
          refine cnd_d H58 rfl (fun hc59 => ?_) (fun hc59 => ?_)
          · skip
            rw [Oct.rdls_big ht0 (by omega)] at hrd
            refine wp_seq ?_
            refine reg ?_
            refine plain (y_assign rfl rfl) rfl rfl rfl H58 ?_
            clear H58; intro a60 H60
            refine plain (y_assign rfl rfl) rfl rfl rfl H60 ?_
            clear H60; intro a61 H61
            refine plain (y_assign rfl rfl) rfl rfl rfl H61 ?_
            clear H61; intro a62 H62
            refine fin ?_
            refine then_n ?_
            refine wp_ret ?_
            refine then_r ?_
            refine inb_r ?_
            refine then_r ?_
            refine then_r ?_
            refine inb_r ?_
            refine then_r ?_
            -- return 4
            refine ret3 rfl H62 rfl rfl rfl ?_
            exact ⟨_, _, rfl, ⟨.slice none 0 0, by rw [← hrd], by rw [← hrd]; rfl⟩, (H62.sep.sub (List.nil_sublist _)).addNil 9 1⟩
          · skip
            rw [Oct.rdls_more ht0 (by omega)] at hrd
            refine wp_skip ?_
            refine then_n ?_
            refine wp_seq ?_
            refine reg ?_
            refine plain (y_move rfl rfl) rfl rfl rfl H58 ?_
            clear H58; intro a63 H63
            refine plain (y_move rfl rfl) rfl rfl rfl H63 ?_
            clear H63; intro a64 H64
            refine st_buildSlice1 (xs := [.tmp 50]) rfl Try.underlying49 z_size9 z_zero9 rfl rfl rfl rfl rfl rfl rfl rfl rfl H64 ?_
            clear H64; intro b65 a65 w65 H65
            refine st_append rfl z_slice49 z_notint49 rfl rfl (fun _ => (by repeat (first | exact Upd.head _ _ _ | apply Upd.tail))) (fun w hs => Src.slice ((rd_blkA (by repeat (first | exact List.Mem.head _ | apply List.Mem.tail))) w hs) rfl (by simp [Value.oneCell'])) (by unfold maxLen; omega) (by omega) rfl rfl rfl H65 ?_
            clear H65; intro v66 a66 w66 hnil66 H66
            refine plain (y_assign rfl rfl) rfl rfl rfl H66 ?_
            clear H66; intro a67 H67
            refine fin ?_
            refine then_n ?_
            refine reg ?_
            refine plain (y_move rfl rfl) rfl rfl rfl H67 ?_
            clear H67; intro a68 H68
            refine plain (y_assign rfl rfl) rfl rfl rfl H68 ?_
            clear H68; intro a69 H69
            refine fin ?_
            refine inb_n ?_
            refine then_n ?_
            refine reg ?_
            refine plain (y_move rfl rfl) rfl rfl rfl H69 ?_
            clear H69; intro a70 H70
            refine plain (y_add rfl rfl rfl (by first | exact w64 (by omega) (by omega) | rfl)) rfl rfl rfl H70 ?_
            clear H70; intro a71 H71
            refine plain (y_assign rfl rfl) rfl rfl rfl H71 ?_
            clear H71; intro a72 H72
            refine fin ?_
            refine then_n ?_
            refine ⟨(acc ++ [(Oct.rdt s pos).1], (Oct.rdt s pos).2.1, left - (Oct.rdt s pos).1.length, v66), by simp only [List.length_append, List.length_singleton]; omega, ⟨by simp only [List.length_append, List.length_singleton]; omega, by dsimp only; omega, by dsimp only; omega, by dsimp only; omega, by dsimp only; omega, ?_⟩, (H72.drop (List.Sublist.cons _ (List.Sublist.refl _))).weak ⟨rfl, rfl, rfl, rfl, fi rfl (by dsimp only; omega), fi rfl (by simp), trivial⟩ (ir (by simp) (by simp))⟩
            rw [← hrd]; congr 1; simp only [List.length_append, List.length_singleton]; omega
      · skip
        have hm : (Oct.rdn s p).1.toNat - acc.length = 0 := by omega
        rw [hm] at hrd
        refine wp_exit ?_
        refine then_x ?_
        refine then_x ?_
        refine inb_hit ?_
        refine then_n ?_
        refine wp_seq ?_
        refine reg ?_
        refine plain (y_move rfl rfl) rfl rfl rfl H33 ?_
        clear H33; intro a73 H73
        refine plain (y_move rfl rfl) rfl rfl rfl H73 ?_
        clear H73; intro a74 H74
        refine plain (y_assign rfl rfl) rfl rfl rfl H74 ?_
        clear H74; intro a75 H75
        refine plain (y_assign rfl rfl) rfl rfl rfl H75 ?_
        clear H75; intro a76 H76
        refine plain (y_assign rfl rfl) rfl rfl rfl H76 ?_
        clear H76; intro a77 H77
        refine fin ?_
        refine then_n ?_
        refine wp_ret ?_
        -- return 5
        refine ret3 rfl H77 rfl rfl rfl ?_
        exact ⟨_, _, rfl, ⟨v, by rw [← hrd]; rfl, by rw [← hrd]; rfl⟩, H77.sep⟩
set_option maxRecDepth 100000 in
set_option maxHeartbeats 1000000 in
theorem same (x y : List (List UInt8)) (A B : Option Addr) (m m2 c c2 : Nat) (hm : m = x.length) (hm2 : m2 = y.length) {w : World} (hA : Rd w A (x.map str)) (hB : Rd w B (y.map str)) (hl : x.length ≤ 9223372036854775807) : Calls Try.prog 41 #[.slice A m c, .slice B m2 c2] w (Gives (.bool (decide (x = y))) [] w) := by
  subst hm hm2
  refine enterL (args := [.slice A x.length c, .slice B y.length c2]) Try.func41 rfl rfl (l := []) (Sep.refl _) ?_
  intro a0 H0
  refine wp_seq ?_
  refine reg ?_
  refine plain (y_assign rfl rfl) rfl rfl rfl H0 ?_
  clear H0; intro a1 H1
  refine fin ?_
  refine then_n ?_
  refine wp_seq ?_
  refine wp_seq ?_
  refine reg ?_
  refine plain (y_move rfl rfl) rfl rfl rfl H1 ?_
  clear H1; intro a2 H2
  refine plain (y_len rfl Try.underlying49 rfl) rfl rfl rfl H2 ?_
  clear H2; intro a3 H3
  refine plain (y_move rfl rfl) rfl rfl rfl H3 ?_
  clear H3; intro a4 H4
  refine plain (y_len rfl Try.underlying49 rfl) rfl rfl rfl H4 ?_
  clear H4; intro a5 H5
  refine plain (y_neq rfl rfl rfl) rfl rfl rfl H5 ?_
  clear H5; intro a6 H6
  refine fin ?_
  refine then_n ?_
  refine cnd_d H6 rfl (fun hc7 => ?_) (fun hc7 => ?_)
  · skip
    refine wp_seq ?_
    refine reg ?_
    refine plain (y_assign rfl rfl) rfl rfl rfl H6 ?_
    clear H6; intro a8 H8
    refine fin ?_
    refine then_n ?_
    refine wp_ret ?_
    refine then_r ?_
    -- return 1
    refine ret1 rfl H8 rfl ?_
    exact ⟨_, [], rfl, ⟨by rw [decide_eq_false (fun e => by subst e; omega)], rfl⟩, H8.sep.sub (List.nil_sublist _)⟩
  · skip
    refine wp_skip ?_
    refine then_n ?_
    refine wp_seq ?_
    refine wp_seq ?_
    refine reg ?_
    refine plain (y_assign rfl rfl) rfl rfl rfl H6 ?_
    clear H6; intro a9 H9
    refine fin ?_
    refine then_n ?_
    refine wp_block ?_
    have hlen : x.length = y.length := by omega
    refine loop (ι := Nat) (fun k => [(0, .slice A x.length c), (1, .slice B y.length c2), (5, .int .i64 (k : Int))]) (fun k => []) (fun k => k ≤ x.length ∧ x.take k = y.take k) (fun k => x.length - k) (0) (by simp) (H9.weak ⟨rfl, rfl, rfl, trivial⟩ rfl) ?_
    clear H9; intro k a10 w10 hok10 H10
    have hok := hok10
    refine wp_seq ?_
    refine wp_seq ?_
    refine reg ?_
    refine plain (y_move rfl rfl) rfl rfl rfl H10 ?_
    clear H10; intro a11 H11
    refine plain (y_move rfl rfl) rfl rfl rfl H11 ?_
    clear H11; intro a12 H12
    refine plain (y_len rfl Try.underlying49 rfl) rfl rfl rfl H12 ?_
    clear H12; intro a13 H13
    refine plain (y_lss rfl rfl rfl) rfl rfl rfl H13 ?_
    clear H13; intro a14 H14
    refine fin ?_
    refine then_n ?_
    refine cnd_d H14 rfl (fun hc15 => ?_) (fun hc15 => ?_)
    · skip
      refine wp_skip ?_
      refine then_n ?_
      refine wp_seq ?_
      refine wp_block ?_
      refine wp_seq ?_
      refine qreg (by kernel_rfl) (by kernel_rfl) H14 ?_
      have F16 := H14.fr
      clear H14
      refine qplain (y_move rfl rfl) rfl rfl rfl F16 ?_
      clear F16; intro a17 H17
      refine qplain (y_move rfl rfl) rfl rfl rfl H17 ?_
      clear H17; intro a18 H18
      refine qplain (y_ixR rfl Try.underlying49 z_size9 rfl rfl (by omega) (by omega) (rd_old (by assumption) (by simp)) (by simp; omega)) rfl rfl rfl H18 ?_
      clear H18; intro a19 H19
      refine qplain (y_loadR rfl z_agg9 rfl (rd_old (by assumption) (by simp)) (by simp only [Int.toNat_natCast, Nat.mul_one, Nat.add_zero]; exact map_get _ _ _ [] (by omega))) rfl rfl rfl H19 ?_
      clear H19; intro a20 H20
      refine qplain (y_move rfl rfl) rfl rfl rfl H20 ?_
      clear H20; intro a21 H21
      refine qplain (y_move rfl rfl) rfl rfl rfl H21 ?_
      clear H21; intro a22 H22
      refine qplain (y_ixR rfl Try.underlying49 z_size9 rfl rfl (by omega) (by omega) (rd_old (by assumption) (by simp)) (by simp; omega)) rfl rfl rfl H22 ?_
      clear H22; intro a23 H23
      refine qplain (y_loadR rfl z_agg9 rfl (rd_old (by assumption) (by simp)) (by simp only [Int.toNat_natCast, Nat.mul_one, Nat.add_zero]; exact map_get _ _ _ [] (by omega))) rfl rfl rfl H23 ?_
      clear H23; intro a24 H24
      refine qplain (y_sneq rfl rfl rfl) rfl rfl rfl H24 ?_
      clear H24; intro a25 H25
      refine qfin H25 ?_
      clear H25; intro w26 H26
      refine then_n ?_
      refine cnd_d H26 rfl (fun hc27 => ?_) (fun hc27 => ?_)
      · skip
        refine wp_seq ?_
        refine reg ?_
        refine plain (y_assign rfl rfl) rfl rfl rfl H26 ?_
        clear H26; intro a28 H28
        refine fin ?_
        refine then_n ?_
        refine wp_ret ?_
        refine inb_r ?_
        refine then_r ?_
        refine then_r ?_
        refine inb_r ?_
        refine then_r ?_
        -- return 2
        refine ret1 rfl H28 rfl ?_
        exact ⟨_, [], rfl, ⟨by rw [decide_eq_false (Oct.getD_ne [] (by assumption))], rfl⟩, H28.sep.sub (List.nil_sublist _)⟩
      · skip
        refine wp_skip ?_
        refine inb_n ?_
        refine then_n ?_
        refine reg ?_
        refine plain (y_move rfl rfl) rfl rfl rfl H26 ?_
        clear H26; intro a29 H29
        refine plain (y_add rfl rfl rfl (by first | exact w64 (by omega) (by omega) | rfl)) rfl rfl rfl H29 ?_
        clear H29; intro a30 H30
        refine plain (y_assign rfl rfl) rfl rfl rfl H30 ?_
        clear H30; intro a31 H31
        refine fin ?_
        refine then_n ?_
        refine ⟨k + 1, by omega, ⟨by omega, Oct.take_eq_succ [] (by omega) (by omega) hok.2 (Decidable.not_not.1 (by assumption))⟩, H31.weak ⟨rfl, rfl, fi rfl (by omega), trivial⟩ rfl⟩
    · skip
      refine wp_exit ?_
      refine then_x ?_
      refine then_x ?_
      refine inb_hit ?_
      refine then_n ?_
      refine wp_seq ?_
      refine reg ?_
      refine plain (y_assign rfl rfl) rfl rfl rfl H14 ?_
      clear H14; intro a32 H32
      refine fin ?_
      refine then_n ?_
      refine wp_ret ?_
      -- return 3
      refine ret1 rfl H32 rfl ?_
      exact ⟨_, [], rfl, ⟨by rw [decide_eq_true (Oct.eq_of_take hlen (by omega) hok.2)], rfl⟩, H32.sep.sub (List.nil_sublist _)⟩

end Go.Proofs.Ytlaojmcpiggfeaa.TRead
