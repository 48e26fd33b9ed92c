/- Part of a proof about given Go functions: contracts of functions, or plain laws. -/
import Derived.Test.YtnnhnnhdoipbaaaDoorSxG
import Derived.Test.YtnnhnnhdoipbaaaDoorOct
import Derived.Test.YtnnhnnhdoipbaaaDoorProg
import Derived.Test.YtnnhnnhdoipbaaaDoorW1
import Derived.Test.YtnnhnnhdoipbaaaDoorNoteV
import Derived.Test.YtnnhnnhdoipbaaaDoorSxI
set_option linter.unusedVariables false
set_option linter.unusedSimpArgs false
namespace Go.Proofs.YtnnhnnhdoipbaaaDoor.N_Read
open Go.Sx Go.RowKit Go.Proofs.YtnnhnnhdoipbaaaDoor.N_Num

theorem z_call64 : callB Tryd.prog 64 = true := by kernel_rfl
theorem z_call76 : callB Tryd.prog 76 = true := by kernel_rfl
theorem z_size9 : sizeB Tryd.prog 9 = some 1 := by kernel_rfl
theorem z_zero9 : zeroL Tryd.prog 9 = some ([.string ⟨#[]⟩]) := by kernel_rfl
theorem z_slice49 : sliceB Tryd.prog 49 = some (9, 1, 16) := by kernel_rfl
theorem z_notint49 : notIntB Tryd.prog 49 = true := by kernel_rfl
set_option maxRecDepth 100000 in
set_option maxHeartbeats 2000000 in
theorem rnum (s : List UInt8) (p : Int) (hs : s.length ≤ 1000000000000000000) (hp : -9223372036854775808 ≤ p ∧ p ≤ 9223372036854775807) (w : World) : Calls Tryd.prog 64 #[str s, .int .i64 p] w (Gives (.tuple #[.int .i64 (Oct.rdn s p).1, .int .i64 (Oct.rdn s p).2.1, .int .i64 (Oct.rdn s p).2.2]) [] w) := by
  refine enterL (args := [str s, .int .i64 p]) Tryd.func64 rfl rfl (l := []) (Sep.refl _) ?_
  intro a0 H0
  refine wp_seq ?_
  refine reg ?_
  refine plain (y_assign rfl rfl) rfl rfl rfl H0 ?_
  clear H0; intro a1 H1
  refine plain (y_assign rfl rfl) rfl rfl rfl H1 ?_
  clear H1; intro a2 H2
  refine plain (y_assign rfl rfl) rfl rfl rfl H2 ?_
  clear H2; intro a3 H3
  refine fin ?_
  refine then_n ?_
  refine wp_seq ?_
  refine wp_seq ?_
  refine reg ?_
  refine plain (y_move rfl rfl) rfl rfl rfl H3 ?_
  clear H3; intro a4 H4
  refine plain (y_lss rfl rfl rfl) rfl rfl rfl H4 ?_
  clear H4; intro a5 H5
  refine plain (y_move rfl rfl) rfl rfl rfl H5 ?_
  clear H5; intro a6 H6
  refine part_d (d := 12) H6 rfl (fun hg7 => ?_) (fun hg7 => ?_)
  · first
    | fail
    | skip
      clear H6; intro H8
      refine skip rfl rfl rfl H8 ?_
      clear H8; intro a9 H9
      refine skip rfl rfl rfl H9 ?_
      clear H9; intro a10 H10
      refine skip rfl rfl rfl H10 ?_
      clear H10; intro a11 H11
      refine skip rfl rfl rfl H11 ?_
      clear H11; intro a12 H12
      refine plain (y_pick_t rfl rfl rfl) rfl rfl rfl H12 ?_
      clear H12; intro a13 H13
      refine fin ?_
      refine then_n ?_
      refine cnd_t H13 rfl ?_
      refine wp_seq ?_
      refine reg ?_
      refine plain (y_assign rfl rfl) rfl rfl rfl H13 ?_
      clear H13; intro a15 H15
      refine plain (y_assign rfl rfl) rfl rfl rfl H15 ?_
      clear H15; intro a16 H16
      refine plain (y_assign rfl rfl) rfl rfl rfl H16 ?_
      clear H16; intro a17 H17
      refine fin ?_
      refine then_n ?_
      refine wp_ret ?_
      refine then_r ?_
      -- return 1
      refine ret3 rfl H17 rfl rfl rfl ?_
      exact ⟨_, [], rfl, ⟨by rw [Oct.rdn_neg (by omega)], rfl⟩, H17.sep.sub (List.nil_sublist _)⟩
  · first
    | fail
    | skip
      clear H6; intro H18
      obtain ⟨p, rfl⟩ := Int.eq_ofNat_of_zero_le (Int.not_lt.1 hg7)
      have e1 : ((p : Int) + 1).toNat = p + 1 := by omega
      refine plain (y_move rfl rfl) rfl rfl rfl H18 ?_
      clear H18; intro a19 H19
      refine plain (y_move rfl rfl) rfl rfl rfl H19 ?_
      clear H19; intro a20 H20
      refine plain (y_slen rfl Tryd.underlying9 rfl) rfl rfl rfl H20 ?_
      clear H20; intro a21 H21
      refine plain (y_gtr rfl rfl rfl) rfl rfl rfl H21 ?_
      clear H21; intro a22 H22
      refine plain (y_pick_f rfl rfl rfl) rfl rfl rfl H22 ?_
      clear H22; intro a23 H23
      refine fin ?_
      refine then_n ?_
      refine cnd_d H23 rfl (fun hc24 => ?_) (fun hc24 => ?_) -- cond 2
      · skip
        refine wp_seq ?_
        refine reg ?_
        refine plain (y_assign rfl rfl) rfl rfl rfl H23 ?_
        clear H23; intro a25 H25
        refine plain (y_assign rfl rfl) rfl rfl rfl H25 ?_
        clear H25; intro a26 H26
        refine plain (y_assign rfl rfl) rfl rfl rfl H26 ?_
        clear H26; intro a27 H27
        refine fin ?_
        refine then_n ?_
        refine wp_ret ?_
        refine then_r ?_
        -- return 2
        refine ret3 rfl H27 rfl rfl rfl ?_
        exact ⟨_, [], rfl, ⟨by rw [Oct.rdn_far (by omega)], rfl⟩, H27.sep.sub (List.nil_sublist _)⟩
      · skip
        refine wp_skip ?_
        refine then_n ?_
        refine wp_seq ?_
        refine wp_seq ?_
        refine reg ?_
        refine plain (y_move rfl rfl) rfl rfl rfl H23 ?_
        clear H23; intro a28 H28
        refine plain (y_move rfl rfl) rfl rfl rfl H28 ?_
        clear H28; intro a29 H29
        refine plain (y_slen rfl Tryd.underlying9 rfl) rfl rfl rfl H29 ?_
        clear H29; intro a30 H30
        refine plain (y_eql rfl rfl rfl) rfl rfl rfl H30 ?_
        clear H30; intro a31 H31
        refine fin ?_
        refine then_n ?_
        refine cnd_d H31 rfl (fun hc32 => ?_) (fun hc32 => ?_) -- cond 3
        · skip
          refine wp_seq ?_
          refine reg ?_
          refine plain (y_assign rfl rfl) rfl rfl rfl H31 ?_
          clear H31; intro a33 H33
          refine plain (y_assign rfl rfl) rfl rfl rfl H33 ?_
          clear H33; intro a34 H34
          refine plain (y_assign rfl rfl) rfl rfl rfl H34 ?_
          clear H34; intro a35 H35
          refine fin ?_
          refine then_n ?_
          refine wp_ret ?_
          refine then_r ?_
          -- return 3
          refine ret3 rfl H35 rfl rfl rfl ?_
          exact ⟨_, [], rfl, ⟨by rw [Oct.rdn_end (by omega)], rfl⟩, H35.sep.sub (List.nil_sublist _)⟩
        · skip
          refine wp_skip ?_
          refine then_n ?_
          refine wp_seq ?_
          refine reg ?_
          refine plain (y_move rfl rfl) rfl rfl rfl H31 ?_
          clear H31; intro a36 H36
          refine plain (y_move rfl rfl) rfl rfl rfl H36 ?_
          clear H36; intro a37 H37
          refine plain (y_sidx rfl Tryd.underlying9 rfl rfl (by omega) (by omega)) rfl rfl rfl H37 ?_
          clear H37; intro a38 H38
          simp only [Int.toNat_natCast] at H38
          obtain ⟨k, hk⟩ : ∃ k, (s.getD p 0).toNat = k := ⟨_, rfl⟩
          have hk8 := (s.getD p 0).toNat_lt
          refine plain (y_conv rfl Tryd.underlying5 Tryd.underlying3 rfl (wi64_u8 _)) rfl rfl rfl H38 ?_
          clear H38; intro a39 H39
          refine plain (y_assign rfl rfl) rfl rfl rfl H39 ?_
          clear H39; intro a40 H40
          refine fin ?_
          refine then_n ?_
          refine wp_seq ?_
          refine wp_cut (fun aC wC => Oct.Good s p k ∧ St Tryd.f64.ntmps [] w ([(0, str s), (1, .int .i64 (p : Int)), (7, .int .i64 (k : Int))]) ([]) aC wC) ?_ ?_
          · skip
            refine wp_block ?_
            refine wp_seq ?_
            refine reg ?_
            refine plain (y_move rfl rfl) rfl rfl rfl H40 ?_
            clear H40; intro a41 H41
            refine plain (y_gtr rfl rfl rfl) rfl rfl rfl H41 ?_
            clear H41; intro a42 H42
            refine plain (y_assign rfl rfl) rfl rfl rfl H42 ?_
            clear H42; intro a43 H43
            refine fin ?_
            refine then_n ?_
            refine cnd_d H43 rfl (fun hc44 => ?_) (fun hc44 => ?_) -- cond 4
            · skip
              refine wp_seq ?_
              refine reg ?_
              refine plain (y_assign rfl rfl) rfl rfl rfl H43 ?_
              clear H43; intro a45 H45
              refine plain (y_assign rfl rfl) rfl rfl rfl H45 ?_
              clear H45; intro a46 H46
              refine plain (y_assign rfl rfl) rfl rfl rfl H46 ?_
              clear H46; intro a47 H47
              refine fin ?_
              refine then_n ?_
              refine wp_ret ?_
              refine inb_r ?_
              refine cut_r ?_
              -- return 4
              refine ret3 rfl H47 rfl rfl rfl ?_
              exact ⟨_, [], rfl, ⟨by rw [Oct.rdn_big (by omega) (by omega)], rfl⟩, H47.sep.sub (List.nil_sublist _)⟩
            · skip
              refine wp_seq ?_
              refine reg ?_
              refine plain (y_move rfl rfl) rfl rfl rfl H43 ?_
              clear H43; intro a48 H48
              refine plain (y_slen rfl Tryd.underlying9 rfl) rfl rfl rfl H48 ?_
              clear H48; intro a49 H49
              refine plain (y_move rfl rfl) rfl rfl rfl H49 ?_
              clear H49; intro a50 H50
              refine plain (y_sub rfl rfl rfl (by first | exact w64 (by omega) (by omega) | rfl)) rfl rfl rfl H50 ?_
              clear H50; intro a51 H51
              refine plain (y_sub rfl rfl rfl (by first | exact w64 (by omega) (by omega) | rfl)) rfl rfl rfl H51 ?_
              clear H51; intro a52 H52
              refine plain (y_move rfl rfl) rfl rfl rfl H52 ?_
              clear H52; intro a53 H53
              refine plain (y_lss rfl rfl rfl) rfl rfl rfl H53 ?_
              clear H53; intro a54 H54
              refine plain (y_assign rfl rfl) rfl rfl rfl H54 ?_
              clear H54; intro a55 H55
              refine fin ?_
              refine then_n ?_
              refine cnd_d H55 rfl (fun hc56 => ?_) (fun hc56 => ?_) -- cond 5
              · skip
                refine wp_seq ?_
                refine reg ?_
                refine plain (y_assign rfl rfl) rfl rfl rfl H55 ?_
                clear H55; intro a57 H57
                refine plain (y_assign rfl rfl) rfl rfl rfl H57 ?_
                clear H57; intro a58 H58
                refine plain (y_assign rfl rfl) rfl rfl rfl H58 ?_
                clear H58; intro a59 H59
                refine fin ?_
                refine then_n ?_
                refine wp_ret ?_
                refine inb_r ?_
                refine cut_r ?_
                -- return 5
                refine ret3 rfl H59 rfl rfl rfl ?_
                exact ⟨_, [], rfl, ⟨by rw [Oct.rdn_short (by omega) (by omega) (by omega)], rfl⟩, H59.sep.sub (List.nil_sublist _)⟩
              · skip
                refine wp_seq ?_
                refine reg ?_
                refine plain (y_move rfl rfl) rfl rfl rfl H55 ?_
                clear H55; intro a60 H60
                refine plain (y_gtr rfl rfl rfl) rfl rfl rfl H60 ?_
                clear H60; intro a61 H61
                refine plain (y_move rfl rfl) rfl rfl rfl H61 ?_
                clear H61; intro a62 H62
                refine part_d (d := 40) H62 rfl (fun hg63 => ?_) (fun hg63 => ?_)
                · first
                  | fail
                  | skip
                    clear H62; intro H64
                    refine plain (y_move rfl rfl) rfl rfl rfl H64 ?_
                    clear H64; intro a65 H65
                    refine plain (y_move rfl rfl) rfl rfl rfl H65 ?_
                    clear H65; intro a66 H66
                    refine plain (y_add rfl rfl rfl (by first | exact w64 (by omega) (by omega) | rfl)) rfl rfl rfl H66 ?_
                    clear H66; intro a67 H67
                    refine plain (y_sidx rfl Tryd.underlying9 rfl rfl (by omega) (by omega)) rfl rfl rfl H67 ?_
                    clear H67; intro a68 H68
                    refine plain (y_eql rfl rfl rfl) rfl rfl rfl H68 ?_
                    clear H68; intro a69 H69
                    refine plain (y_move rfl rfl) rfl rfl rfl H69 ?_
                    clear H69; intro a70 H70
                    refine part_d (d := 46) H70 rfl (fun hg71 => ?_) (fun hg71 => ?_)
                    · first
                      | fail
                      | skip
                        clear H70; intro H72
                        refine skip rfl rfl rfl H72 ?_
                        clear H72; intro a73 H73
                        refine skip rfl rfl rfl H73 ?_
                        clear H73; intro a74 H74
                        refine skip rfl rfl rfl H74 ?_
                        clear H74; intro a75 H75
                        refine skip rfl rfl rfl H75 ?_
                        clear H75; intro a76 H76
                        refine skip rfl rfl rfl H76 ?_
                        clear H76; intro a77 H77
                        refine skip rfl rfl rfl H77 ?_
                        clear H77; intro a78 H78
                        refine skip rfl rfl rfl H78 ?_
                        clear H78; intro a79 H79
                        refine skip rfl rfl rfl H79 ?_
                        clear H79; intro a80 H80
                        refine skip rfl rfl rfl H80 ?_
                        clear H80; intro a81 H81
                        refine plain (y_pick_t rfl rfl rfl) rfl rfl rfl H81 ?_
                        clear H81; intro a82 H82
                        refine plain (y_pick_t rfl rfl rfl) rfl rfl rfl H82 ?_
                        clear H82; intro a83 H83
                        refine plain (y_assign rfl rfl) rfl rfl rfl H83 ?_
                        clear H83; intro a84 H84
                        refine fin ?_
                        refine then_n ?_
                        refine cnd_t H84 rfl ?_
                        refine wp_seq ?_
                        refine reg ?_
                        refine plain (y_assign rfl rfl) rfl rfl rfl H84 ?_
                        clear H84; intro a86 H86
                        refine plain (y_assign rfl rfl) rfl rfl rfl H86 ?_
                        clear H86; intro a87 H87
                        refine plain (y_assign rfl rfl) rfl rfl rfl H87 ?_
                        clear H87; intro a88 H88
                        refine fin ?_
                        refine then_n ?_
                        refine wp_ret ?_
                        refine inb_r ?_
                        refine cut_r ?_
                        -- return 6
                        refine ret3 rfl H88 rfl rfl rfl ?_
                        exact ⟨_, [], rfl, ⟨by rw [Oct.rdn_form (s := s) (p := p) (by omega) (by omega) (by omega) (by rw [hk, Oct.zero_toNat]; simp only [e1] at *; omega)], rfl⟩, H88.sep.sub (List.nil_sublist _)⟩
                    · first
                      | fail
                      | skip
                        clear H70; intro H89
                        refine plain (y_move rfl rfl) rfl rfl rfl H89 ?_
                        clear H89; intro a90 H90
                        refine plain (y_eql rfl rfl rfl) rfl rfl rfl H90 ?_
                        clear H90; intro a91 H91
                        refine plain (y_move rfl rfl) rfl rfl rfl H91 ?_
                        clear H91; intro a92 H92
                        refine part_d (d := 49) H92 rfl (fun hg93 => ?_) (fun hg93 => ?_)
                        · first
                          | fail
                          | skip
                            clear H92; intro H94
                            refine plain (y_move rfl rfl) rfl rfl rfl H94 ?_
                            clear H94; intro a95 H95
                            refine plain (y_move rfl rfl) rfl rfl rfl H95 ?_
                            clear H95; intro a96 H96
                            refine plain (y_add rfl rfl rfl (by first | exact w64 (by omega) (by omega) | rfl)) rfl rfl rfl H96 ?_
                            clear H96; intro a97 H97
                            refine plain (y_sidx rfl Tryd.underlying9 rfl rfl (by omega) (by omega)) rfl rfl rfl H97 ?_
                            clear H97; intro a98 H98
                            refine plain (y_gtr rfl rfl rfl) rfl rfl rfl H98 ?_
                            clear H98; intro a99 H99
                            refine plain (y_pick_t rfl rfl rfl) rfl rfl rfl H99 ?_
                            clear H99; intro a100 H100
                            refine plain (y_pick_f rfl rfl rfl) rfl rfl rfl H100 ?_
                            clear H100; intro a101 H101
                            refine plain (y_pick_t rfl rfl rfl) rfl rfl rfl H101 ?_
                            clear H101; intro a102 H102
                            refine plain (y_assign rfl rfl) rfl rfl rfl H102 ?_
                            clear H102; intro a103 H103
                            refine fin ?_
                            refine then_n ?_
                            refine cnd_d H103 rfl (fun hc104 => ?_) (fun hc104 => ?_) -- cond 7
                            · skip
                              refine wp_seq ?_
                              refine reg ?_
                              refine plain (y_assign rfl rfl) rfl rfl rfl H103 ?_
                              clear H103; intro a105 H105
                              refine plain (y_assign rfl rfl) rfl rfl rfl H105 ?_
                              clear H105; intro a106 H106
                              refine plain (y_assign rfl rfl) rfl rfl rfl H106 ?_
                              clear H106; intro a107 H107
                              refine fin ?_
                              refine then_n ?_
                              refine wp_ret ?_
                              refine inb_r ?_
                              refine cut_r ?_
                              -- return 7
                              refine ret3 rfl H107 rfl rfl rfl ?_
                              exact ⟨_, [], rfl, ⟨by rw [Oct.rdn_form (s := s) (p := p) (by omega) (by omega) (by omega) (by rw [hk, Oct.zero_toNat]; simp only [e1] at *; omega)], rfl⟩, H107.sep.sub (List.nil_sublist _)⟩
                            · skip
                              refine wp_skip ?_
                              refine inb_n ?_
                              refine cut_n ?_
                              exact ⟨Oct.rdn_isgood (s := s) (p := p) (k := k) (by omega) hk (by omega) (by omega) (by simp only [e1] at *; rw [Oct.zero_toNat]; omega), H103.weak ⟨rfl, rfl, fi rfl (by omega), trivial⟩ rfl⟩
                        · first
                          | fail
                          | skip
                            clear H92; intro H108
                            refine skip rfl rfl rfl H108 ?_
                            clear H108; intro a109 H109
                            refine skip rfl rfl rfl H109 ?_
                            clear H109; intro a110 H110
                            refine skip rfl rfl rfl H110 ?_
                            clear H110; intro a111 H111
                            refine skip rfl rfl rfl H111 ?_
                            clear H111; intro a112 H112
                            refine skip rfl rfl rfl H112 ?_
                            clear H112; intro a113 H113
                            refine plain (y_pick_f rfl rfl rfl) rfl rfl rfl H113 ?_
                            clear H113; intro a114 H114
                            refine plain (y_pick_f rfl rfl rfl) rfl rfl rfl H114 ?_
                            clear H114; intro a115 H115
                            refine plain (y_pick_t rfl rfl rfl) rfl rfl rfl H115 ?_
                            clear H115; intro a116 H116
                            refine plain (y_assign rfl rfl) rfl rfl rfl H116 ?_
                            clear H116; intro a117 H117
                            refine fin ?_
                            refine then_n ?_
                            refine cnd_f H117 rfl ?_
                            refine wp_skip ?_
                            refine inb_n ?_
                            refine cut_n ?_
                            exact ⟨Oct.rdn_isgood (s := s) (p := p) (k := k) (by omega) hk (by omega) (by omega) (by simp only [e1] at *; rw [Oct.zero_toNat]; omega), H117.weak ⟨rfl, rfl, fi rfl (by omega), trivial⟩ rfl⟩
                · first
                  | fail
                  | skip
                    clear H62; intro H119
                    refine skip rfl rfl rfl H119 ?_
                    clear H119; intro a120 H120
                    refine skip rfl rfl rfl H120 ?_
                    clear H120; intro a121 H121
                    refine skip rfl rfl rfl H121 ?_
                    clear H121; intro a122 H122
                    refine skip rfl rfl rfl H122 ?_
                    clear H122; intro a123 H123
                    refine skip rfl rfl rfl H123 ?_
                    clear H123; intro a124 H124
                    refine skip rfl rfl rfl H124 ?_
                    clear H124; intro a125 H125
                    refine skip rfl rfl rfl H125 ?_
                    clear H125; intro a126 H126
                    refine skip rfl rfl rfl H126 ?_
                    clear H126; intro a127 H127
                    refine skip rfl rfl rfl H127 ?_
                    clear H127; intro a128 H128
                    refine skip rfl rfl rfl H128 ?_
                    clear H128; intro a129 H129
                    refine skip rfl rfl rfl H129 ?_
                    clear H129; intro a130 H130
                    refine skip rfl rfl rfl H130 ?_
                    clear H130; intro a131 H131
                    refine skip rfl rfl rfl H131 ?_
                    clear H131; intro a132 H132
                    refine skip rfl rfl rfl H132 ?_
                    clear H132; intro a133 H133
                    refine skip rfl rfl rfl H133 ?_
                    clear H133; intro a134 H134
                    refine skip rfl rfl rfl H134 ?_
                    clear H134; intro a135 H135
                    refine plain (y_pick_f rfl rfl rfl) rfl rfl rfl H135 ?_
                    clear H135; intro a136 H136
                    refine plain (y_assign rfl rfl) rfl rfl rfl H136 ?_
                    clear H136; intro a137 H137
                    refine fin ?_
                    refine then_n ?_
                    refine cnd_f H137 rfl ?_
                    refine wp_skip ?_
                    refine inb_n ?_
                    refine cut_n ?_
                    exact ⟨Oct.rdn_isgood (s := s) (p := p) (k := k) (by omega) hk (by omega) (by omega) (by simp only [e1] at *; rw [Oct.zero_toNat]; omega), H137.weak ⟨rfl, rfl, fi rfl (by omega), trivial⟩ rfl⟩
          · clear H40; intro a139 wx139 hI139
            obtain ⟨hg, H139⟩ := hI139
            refine then_n ?_
            refine wp_seq ?_
            refine reg ?_
            refine plain (y_assign rfl rfl) rfl rfl rfl H139 ?_
            clear H139; intro a140 H140
            refine fin ?_
            refine then_n ?_
            refine wp_seq ?_
            refine wp_seq ?_
            refine reg ?_
            refine plain (y_move rfl rfl) rfl rfl rfl H140 ?_
            clear H140; intro a141 H141
            refine plain (y_move rfl rfl) rfl rfl rfl H141 ?_
            clear H141; intro a142 H142
            refine fin ?_
            refine then_n ?_
            refine wp_block ?_
            have hfit := hg.fit
            have hle8 := hg.le8
            refine loop (ι := Nat) (fun i => [(0, str s), (1, .int .i64 (p : Int)), (7, .int .i64 (k : Int)), (8, .int .i64 ((Oct.val ((s.drop (p + 1)).take i) : Nat) : Int)), (58, .int .i64 (k : Int)), (59, .int .i64 (i : Int))]) (fun i => []) (fun i => i ≤ k) (fun i => k - i) (0) (Nat.zero_le _) (H142.weak ⟨rfl, rfl, rfl, rfl, rfl, rfl, trivial⟩ rfl) ?_
            clear H142; intro i a143 wx143 hok143 H143
            have hok := hok143
            have hvs := fun h : i < k => Oct.val_take_succ (s := s) (q := p + 1) (i := i) (by omega)
            have hvb := fun h : i < k => Oct.good_val hg (i := i + 1) (by omega)
            have e2 : ((p : Int) + 1 + (i : Int)).toNat = p + 1 + i := by omega
            refine wp_seq ?_
            refine reg ?_
            refine plain (y_lss rfl rfl rfl) rfl rfl rfl H143 ?_
            clear H143; intro a144 H144
            refine fin ?_
            refine then_n ?_
            refine wp_seq ?_
            refine cnd_d H144 rfl (fun hc145 => ?_) (fun hc145 => ?_) -- cond 10
            · skip
              have hik : i < k := by omega
              refine wp_skip ?_
              refine then_n ?_
              refine wp_seq ?_
              refine wp_block ?_
              refine wp_seq ?_
              refine reg ?_
              refine plain (y_move rfl rfl) rfl rfl rfl H144 ?_
              clear H144; intro a146 H146
              refine plain (y_assign rfl rfl) rfl rfl rfl H146 ?_
              clear H146; intro a147 H147
              refine fin ?_
              refine then_n ?_
              refine reg ?_
              refine plain (y_move rfl rfl) rfl rfl rfl H147 ?_
              clear H147; intro a148 H148
              refine plain (y_shl rfl rfl rfl (by decide) (shl8 _ (by have := hvs hik; have := hvb hik; omega))) rfl rfl rfl H148 ?_
              clear H148; intro a149 H149
              refine plain (y_move rfl rfl) rfl rfl rfl H149 ?_
              clear H149; intro a150 H150
              refine plain (y_move rfl rfl) rfl rfl rfl H150 ?_
              clear H150; intro a151 H151
              refine plain (y_add rfl rfl rfl (by first | exact w64 (by omega) (by omega) | rfl)) rfl rfl rfl H151 ?_
              clear H151; intro a152 H152
              refine plain (y_move rfl rfl) rfl rfl rfl H152 ?_
              clear H152; intro a153 H153
              refine plain (y_add rfl rfl rfl (by first | exact w64 (by omega) (by omega) | rfl)) rfl rfl rfl H153 ?_
              clear H153; intro a154 H154
              refine plain (y_sidx rfl Tryd.underlying9 rfl rfl (by omega) (by omega)) rfl rfl rfl H154 ?_
              clear H154; intro a155 H155
              refine plain (y_conv rfl Tryd.underlying5 Tryd.underlying3 rfl (wi64_u8 _)) rfl rfl rfl H155 ?_
              clear H155; intro a156 H156
              refine plain (y_or rfl rfl rfl (or8 _ _ (by rw [e2]; have := hvs hik; have := hvb hik; omega))) rfl rfl rfl H156 ?_
              clear H156; intro a157 H157
              refine plain (y_assign rfl rfl) rfl rfl rfl H157 ?_
              clear H157; intro a158 H158
              refine fin ?_
              refine inb_n ?_
              refine then_n ?_
              refine reg ?_
              refine plain (y_add rfl rfl rfl (by first | exact w64 (by omega) (by omega) | rfl)) rfl rfl rfl H158 ?_
              clear H158; intro a159 H159
              refine plain (y_move rfl rfl) rfl rfl rfl H159 ?_
              clear H159; intro a160 H160
              refine fin ?_
              refine then_n ?_
              refine ⟨i + 1, by omega, by omega, H160.weak ⟨rfl, rfl, rfl, fi rfl (by rw [hvs hik, e2]), rfl, fi rfl (by omega), trivial⟩ rfl⟩
            · skip
              refine wp_exit ?_
              refine then_x ?_
              refine then_x ?_
              refine inb_hit ?_
              refine then_n ?_
              refine wp_seq ?_
              refine reg ?_
              refine plain (y_move rfl rfl) rfl rfl rfl H144 ?_
              clear H144; intro a161 H161
              refine plain (y_move rfl rfl) rfl rfl rfl H161 ?_
              clear H161; intro a162 H162
              refine plain (y_add rfl rfl rfl (by first | exact w64 (by omega) (by omega) | rfl)) rfl rfl rfl H162 ?_
              clear H162; intro a163 H163
              refine plain (y_move rfl rfl) rfl rfl rfl H163 ?_
              clear H163; intro a164 H164
              refine plain (y_add rfl rfl rfl (by first | exact w64 (by omega) (by omega) | rfl)) rfl rfl rfl H164 ?_
              clear H164; intro a165 H165
              refine plain (y_assign rfl rfl) rfl rfl rfl H165 ?_
              clear H165; intro a166 H166
              refine plain (y_assign rfl rfl) rfl rfl rfl H166 ?_
              clear H166; intro a167 H167
              refine plain (y_assign rfl rfl) rfl rfl rfl H167 ?_
              clear H167; intro a168 H168
              refine fin ?_
              refine then_n ?_
              refine wp_ret ?_
              -- return 8
              refine ret3 rfl H168 rfl rfl rfl ?_
              exact ⟨_, [], rfl, ⟨by rw [Oct.rdn_good hg, show i = k by omega]; simp, rfl⟩, H168.sep.sub (List.nil_sublist _)⟩
set_option maxRecDepth 100000 in
set_option maxHeartbeats 1000000 in
theorem rtxt (s : List UInt8) (p : Int) (hs : s.length ≤ 1000000000000000000) (hp : -9223372036854775808 ≤ p ∧ p ≤ 9223372036854775807) (w : World) : Calls Tryd.prog 76 #[str s, .int .i64 p] w (Gives (.tuple #[str (Oct.rdt s p).1, .int .i64 (Oct.rdt s p).2.1, .int .i64 (Oct.rdt s p).2.2]) [] w) := by
  refine enterL (args := [str s, .int .i64 p]) Tryd.func76 rfl rfl (l := []) (Sep.refl _) ?_
  intro a0 H0
  refine wp_seq ?_
  refine reg ?_
  refine plain (y_assign rfl rfl) rfl rfl rfl H0 ?_
  clear H0; intro a1 H1
  refine plain (y_assign rfl rfl) rfl rfl rfl H1 ?_
  clear H1; intro a2 H2
  refine plain (y_assign rfl rfl) rfl rfl rfl H2 ?_
  clear H2; intro a3 H3
  refine fin ?_
  refine then_n ?_
  refine wp_seq ?_
  refine reg ?_
  refine plain (y_move rfl rfl) rfl rfl rfl H3 ?_
  clear H3; intro a4 H4
  refine plain (y_move rfl rfl) rfl rfl rfl H4 ?_
  clear H4; intro a5 H5
  refine st_callg rfl z_call64 rfl rfl rfl rfl H5 (rnum s p hs hp _) ?_
  clear H5; intro a6 wx6 H6
  refine plain (y_move rfl rfl) rfl rfl rfl H6 ?_
  clear H6; intro a7 H7
  refine plain (y_extract rfl rfl rfl) rfl rfl rfl H7 ?_
  clear H7; intro a8 H8
  refine plain (y_extract rfl rfl rfl) rfl rfl rfl H8 ?_
  clear H8; intro a9 H9
  refine plain (y_extract rfl rfl rfl) rfl rfl rfl H9 ?_
  clear H9; intro a10 H10
  refine plain (y_assign rfl rfl) rfl rfl rfl H10 ?_
  clear H10; intro a11 H11
  refine plain (y_assign rfl rfl) rfl rfl rfl H11 ?_
  clear H11; intro a12 H12
  refine plain (y_assign rfl rfl) rfl rfl rfl H12 ?_
  clear H12; intro a13 H13
  refine fin ?_
  refine then_n ?_
  refine wp_seq ?_
  refine wp_block ?_
  refine wp_seq ?_
  refine reg ?_
  refine plain (y_move rfl rfl) rfl rfl rfl H13 ?_
  clear H13; intro a14 H14
  refine plain (y_neq rfl rfl rfl) rfl rfl rfl H14 ?_
  clear H14; intro a15 H15
  refine plain (y_assign rfl rfl) rfl rfl rfl H15 ?_
  clear H15; intro a16 H16
  refine fin ?_
  refine then_n ?_
  refine cnd_d H16 rfl (fun hc17 => ?_) (fun hc17 => ?_) -- cond 1
  · skip
    refine wp_seq ?_
    refine reg ?_
    refine plain (y_move rfl rfl) rfl rfl rfl H16 ?_
    clear H16; intro a18 H18
    refine plain (y_assign rfl rfl) rfl rfl rfl H18 ?_
    clear H18; intro a19 H19
    refine plain (y_assign rfl rfl) rfl rfl rfl H19 ?_
    clear H19; intro a20 H20
    refine plain (y_assign rfl rfl) rfl rfl rfl H20 ?_
    clear H20; intro a21 H21
    refine fin ?_
    refine then_n ?_
    refine wp_ret ?_
    refine inb_r ?_
    refine then_r ?_
    -- return 1
    refine ret3 rfl H21 rfl rfl rfl ?_
    exact ⟨_, [], rfl, ⟨by rw [Oct.rdt_err (by omega)], rfl⟩, H21.sep.sub (List.nil_sublist _)⟩
  · skip
    have h0 : (Oct.rdn s p).2.2 = 0 := by omega
    have hb := Oct.rdn_bounds h0
    refine wp_seq ?_
    refine reg ?_
    refine plain (y_move rfl rfl) rfl rfl rfl H16 ?_
    clear H16; intro a22 H22
    refine plain (y_gtr rfl rfl rfl) rfl rfl rfl H22 ?_
    clear H22; intro a23 H23
    refine plain (y_assign rfl rfl) rfl rfl rfl H23 ?_
    clear H23; intro a24 H24
    refine fin ?_
    refine then_n ?_
    refine cnd_d H24 rfl (fun hc25 => ?_) (fun hc25 => ?_) -- cond 2
    · skip
      refine wp_seq ?_
      refine reg ?_
      refine plain (y_assign rfl rfl) rfl rfl rfl H24 ?_
      clear H24; intro a26 H26
      refine plain (y_assign rfl rfl) rfl rfl rfl H26 ?_
      clear H26; intro a27 H27
      refine plain (y_assign rfl rfl) rfl rfl rfl H27 ?_
      clear H27; intro a28 H28
      refine fin ?_
      refine then_n ?_
      refine wp_ret ?_
      refine inb_r ?_
      refine then_r ?_
      -- return 2
      refine ret3 rfl H28 rfl rfl rfl ?_
      exact ⟨_, [], rfl, ⟨by rw [Oct.rdt_big h0 (by omega)], rfl⟩, H28.sep.sub (List.nil_sublist _)⟩
    · skip
      refine wp_seq ?_
      refine reg ?_
      refine plain (y_move rfl rfl) rfl rfl rfl H24 ?_
      clear H24; intro a29 H29
      refine plain (y_move rfl rfl) rfl rfl rfl H29 ?_
      clear H29; intro a30 H30
      refine plain (y_slen rfl Tryd.underlying9 rfl) rfl rfl rfl H30 ?_
      clear H30; intro a31 H31
      refine plain (y_move rfl rfl) rfl rfl rfl H31 ?_
      clear H31; intro a32 H32
      refine plain (y_sub rfl rfl rfl (by first | exact w64 (by omega) (by omega) | rfl)) rfl rfl rfl H32 ?_
      clear H32; intro a33 H33
      refine plain (y_gtr rfl rfl rfl) rfl rfl rfl H33 ?_
      clear H33; intro a34 H34
      refine plain (y_assign rfl rfl) rfl rfl rfl H34 ?_
      clear H34; intro a35 H35
      refine fin ?_
      refine then_n ?_
      refine cnd_d H35 rfl (fun hc36 => ?_) (fun hc36 => ?_) -- cond 3
      · skip
        refine wp_seq ?_
        refine reg ?_
        refine plain (y_assign rfl rfl) rfl rfl rfl H35 ?_
        clear H35; intro a37 H37
        refine plain (y_assign rfl rfl) rfl rfl rfl H37 ?_
        clear H37; intro a38 H38
        refine plain (y_assign rfl rfl) rfl rfl rfl H38 ?_
        clear H38; intro a39 H39
        refine fin ?_
        refine then_n ?_
        refine wp_ret ?_
        refine inb_r ?_
        refine then_r ?_
        -- return 3
        refine ret3 rfl H39 rfl rfl rfl ?_
        exact ⟨_, [], rfl, ⟨by rw [Oct.rdt_short h0 (by omega) (by omega)], rfl⟩, H39.sep.sub (List.nil_sublist _)⟩
      · skip
        refine wp_skip ?_
        refine inb_n ?_
        refine then_n ?_
        refine wp_seq ?_
        refine reg ?_
        refine plain (y_move rfl rfl) rfl rfl rfl H35 ?_
        clear H35; intro a40 H40
        refine plain (y_move rfl rfl) rfl rfl rfl H40 ?_
        clear H40; intro a41 H41
        refine plain (y_move rfl rfl) rfl rfl rfl H41 ?_
        clear H41; intro a42 H42
        refine plain (y_move rfl rfl) rfl rfl rfl H42 ?_
        clear H42; intro a43 H43
        refine plain (y_add rfl rfl rfl (by first | exact w64 (by omega) (by omega) | rfl)) rfl rfl rfl H43 ?_
        clear H43; intro a44 H44
        refine plain (y_sslice rfl Tryd.underlying9 rfl rfl rfl (by omega) (by omega) (by omega)) rfl rfl rfl H44 ?_
        clear H44; intro a45 H45
        refine plain (y_move rfl rfl) rfl rfl rfl H45 ?_
        clear H45; intro a46 H46
        refine plain (y_move rfl rfl) rfl rfl rfl H46 ?_
        clear H46; intro a47 H47
        refine plain (y_add rfl rfl rfl (by first | exact w64 (by omega) (by omega) | rfl)) rfl rfl rfl H47 ?_
        clear H47; intro a48 H48
        refine plain (y_assign rfl rfl) rfl rfl rfl H48 ?_
        clear H48; intro a49 H49
        refine plain (y_assign rfl rfl) rfl rfl rfl H49 ?_
        clear H49; intro a50 H50
        refine plain (y_assign rfl rfl) rfl rfl rfl H50 ?_
        clear H50; intro a51 H51
        refine fin ?_
        refine then_n ?_
        refine wp_ret ?_
        -- return 4
        refine ret3 rfl H51 rfl rfl rfl ?_
        exact ⟨_, [], rfl, ⟨by rw [Oct.rdt_good h0 (by omega) (by omega), show ((Oct.rdn s p).2.1 + (Oct.rdn s p).1).toNat - (Oct.rdn s p).2.1.toNat = (Oct.rdn s p).1.toNat by omega], rfl⟩, H51.sep.sub (List.nil_sublist _)⟩
set_option maxRecDepth 100000 in
set_option maxHeartbeats 2000000 in
theorem rlst (s : List UInt8) (p : Int) (hs : s.length ≤ 1000000000000000000) (hp : -9223372036854775808 ≤ p ∧ p ≤ 9223372036854775807) (w : World) : Calls Tryd.prog 63 #[str s, .int .i64 p] w (Post [] w (fun u l => ∃ v, u = .tuple #[v, .int .i64 (Oct.rdl s p).2.1, .int .i64 (Oct.rdl s p).2.2] ∧ l = [It.row 9 1 v (Oct.rdl s p).1.length ((Oct.rdl s p).1.map str)])) := by
  refine enterL (args := [str s, .int .i64 p]) Tryd.func63 rfl rfl (l := []) (Sep.refl _) ?_
  intro a0 H0
  refine wp_seq ?_
  refine reg ?_
  refine plain (y_assign rfl rfl) rfl rfl rfl H0 ?_
  clear H0; intro a1 H1
  refine plain (y_assign rfl rfl) rfl rfl rfl H1 ?_
  clear H1; intro a2 H2
  refine plain (y_assign rfl rfl) rfl rfl rfl H2 ?_
  clear H2; intro a3 H3
  refine fin ?_
  refine then_n ?_
  refine wp_seq ?_
  refine reg ?_
  refine plain (y_move rfl rfl) rfl rfl rfl H3 ?_
  clear H3; intro a4 H4
  refine plain (y_move rfl rfl) rfl rfl rfl H4 ?_
  clear H4; intro a5 H5
  refine st_callg rfl z_call64 rfl rfl rfl rfl H5 (rnum s p hs hp _) ?_
  clear H5; intro a6 wx6 H6
  refine plain (y_move rfl rfl) rfl rfl rfl H6 ?_
  clear H6; intro a7 H7
  refine plain (y_extract rfl rfl rfl) rfl rfl rfl H7 ?_
  clear H7; intro a8 H8
  refine plain (y_extract rfl rfl rfl) rfl rfl rfl H8 ?_
  clear H8; intro a9 H9
  refine plain (y_extract rfl rfl rfl) rfl rfl rfl H9 ?_
  clear H9; intro a10 H10
  refine plain (y_assign rfl rfl) rfl rfl rfl H10 ?_
  clear H10; intro a11 H11
  refine plain (y_assign rfl rfl) rfl rfl rfl H11 ?_
  clear H11; intro a12 H12
  refine plain (y_assign rfl rfl) rfl rfl rfl H12 ?_
  clear H12; intro a13 H13
  refine fin ?_
  refine then_n ?_
  refine wp_seq ?_
  refine wp_seq ?_
  refine reg ?_
  refine plain (y_move rfl rfl) rfl rfl rfl H13 ?_
  clear H13; intro a14 H14
  refine plain (y_neq rfl rfl rfl) rfl rfl rfl H14 ?_
  clear H14; intro a15 H15
  refine fin ?_
  refine then_n ?_
  refine cnd_d H15 rfl (fun hc16 => ?_) (fun hc16 => ?_) -- cond 1
  · skip
    refine wp_seq ?_
    refine reg ?_
    refine plain (y_move rfl rfl) rfl rfl rfl H15 ?_
    clear H15; intro a17 H17
    refine plain (y_assign rfl rfl) rfl rfl rfl H17 ?_
    clear H17; intro a18 H18
    refine plain (y_assign rfl rfl) rfl rfl rfl H18 ?_
    clear H18; intro a19 H19
    refine plain (y_assign rfl rfl) rfl rfl rfl H19 ?_
    clear H19; intro a20 H20
    refine fin ?_
    refine then_n ?_
    refine wp_ret ?_
    refine then_r ?_
    -- return 1
    refine ret3 rfl H20 rfl rfl rfl ?_
    exact ⟨_, _, rfl, ⟨.slice none 0 0, by rw [Oct.rdl_err (by omega)], by rw [Oct.rdl_err (by omega)]; rfl⟩, (H20.sep.sub (List.nil_sublist _)).addNil 9 1⟩
  · skip
    have h0 : (Oct.rdn s p).2.2 = 0 := by omega
    have hb := Oct.rdn_bounds h0
    refine wp_skip ?_
    refine then_n ?_
    refine wp_seq ?_
    refine wp_seq ?_
    refine reg ?_
    refine plain (y_move rfl rfl) rfl rfl rfl H15 ?_
    clear H15; intro a21 H21
    refine plain (y_gtr rfl rfl rfl) rfl rfl rfl H21 ?_
    clear H21; intro a22 H22
    refine fin ?_
    refine then_n ?_
    refine cnd_d H22 rfl (fun hc23 => ?_) (fun hc23 => ?_) -- cond 2
    · skip
      refine wp_seq ?_
      refine reg ?_
      refine plain (y_assign rfl rfl) rfl rfl rfl H22 ?_
      clear H22; intro a24 H24
      refine plain (y_assign rfl rfl) rfl rfl rfl H24 ?_
      clear H24; intro a25 H25
      refine plain (y_assign rfl rfl) rfl rfl rfl H25 ?_
      clear H25; intro a26 H26
      refine fin ?_
      refine then_n ?_
      refine wp_ret ?_
      refine then_r ?_
      -- return 2
      refine ret3 rfl H26 rfl rfl rfl ?_
      exact ⟨_, _, rfl, ⟨.slice none 0 0, by rw [Oct.rdl_big h0 (by omega)], by rw [Oct.rdl_big h0 (by omega)]; rfl⟩, (H26.sep.sub (List.nil_sublist _)).addNil 9 1⟩
    · skip
      refine wp_skip ?_
      refine then_n ?_
      refine wp_seq ?_
      refine reg ?_
      refine plain (y_assign rfl rfl) rfl rfl rfl H22 ?_
      clear H22; intro a27 H27
      refine fin ?_
      refine then_n ?_
      refine wp_seq ?_
      refine reg ?_
      refine plain (y_assign rfl rfl) rfl rfl rfl H27 ?_
      clear H27; intro a28 H28
      refine fin ?_
      refine then_n ?_
      refine wp_seq ?_
      refine wp_seq ?_
      refine reg ?_
      refine plain (y_move rfl rfl) rfl rfl rfl H28 ?_
      clear H28; intro a29 H29
      refine plain (y_move rfl rfl) rfl rfl rfl H29 ?_
      clear H29; intro a30 H30
      refine fin ?_
      refine then_n ?_
      refine wp_block ?_
      replace H30 := H30.nilRow 9 1
      refine loop (ι := List (List UInt8) × Int × Int × Value) (fun x => [(0, str s), (8, .int .i64 x.2.1), (10, x.2.2.2), (11, .int .i64 x.2.2.1), (27, .int .i64 (Oct.rdn s p).1), (28, .int .i64 (x.1.length : Int))]) (fun x => [It.row 9 1 x.2.2.2 x.1.length (x.1.map str)]) (fun x => x.1.length ≤ (Oct.rdn s p).1.toNat ∧ 0 ≤ x.2.2.1 ∧ x.2.2.1 ≤ 65536 ∧ 0 ≤ x.2.1 ∧ x.2.1 ≤ s.length ∧ Oct.rdls s ((Oct.rdn s p).1.toNat - x.1.length) x.2.1 x.2.2.1 x.1 = Oct.rdl s p) (fun x => (Oct.rdn s p).1.toNat - x.1.length) (([], (Oct.rdn s p).2.1, 65536, .slice none 0 0)) ⟨Nat.zero_le _, by dsimp only; omega, by dsimp only; omega, by dsimp only; omega, by dsimp only; omega, by dsimp only; rw [Oct.rdl_go h0 (by omega)]; rfl⟩ (H30.weak ⟨rfl, rfl, rfl, rfl, rfl, rfl, trivial⟩ rfl) ?_
      clear H30; intro x a31 wx31 hok31 H31
      obtain ⟨acc, pos, left, v⟩ := x
      dsimp only at hok31 H31
      obtain ⟨hok1, hok2, hok3, hok4, hok5, hrd⟩ := hok31
      refine wp_seq ?_
      refine reg ?_
      refine plain (y_lss rfl rfl rfl) rfl rfl rfl H31 ?_
      clear H31; intro a32 H32
      refine fin ?_
      refine then_n ?_
      refine wp_seq ?_
      refine cnd_d H32 rfl (fun hc33 => ?_) (fun hc33 => ?_) -- cond 3
      · skip
        obtain ⟨m, hm⟩ : ∃ m, (Oct.rdn s p).1.toNat - acc.length = m + 1 := ⟨(Oct.rdn s p).1.toNat - acc.length - 1, by omega⟩
        rw [hm] at hrd
        refine wp_skip ?_
        refine then_n ?_
        refine wp_seq ?_
        refine wp_block ?_
        refine wp_seq ?_
        refine reg ?_
        refine plain (y_move rfl rfl) rfl rfl rfl H32 ?_
        clear H32; intro a34 H34
        refine plain (y_move rfl rfl) rfl rfl rfl H34 ?_
        clear H34; intro a35 H35
        refine st_callg rfl z_call76 rfl rfl rfl rfl H35 (rtxt s pos hs (by omega) _) ?_
        clear H35; intro a36 wx36 H36
        refine plain (y_move rfl rfl) rfl rfl rfl H36 ?_
        clear H36; intro a37 H37
        refine plain (y_extract rfl rfl rfl) rfl rfl rfl H37 ?_
        clear H37; intro a38 H38
        refine plain (y_extract rfl rfl rfl) rfl rfl rfl H38 ?_
        clear H38; intro a39 H39
        refine plain (y_extract rfl rfl rfl) rfl rfl rfl H39 ?_
        clear H39; intro a40 H40
        refine plain (y_assign rfl rfl) rfl rfl rfl H40 ?_
        clear H40; intro a41 H41
        refine plain (y_assign rfl rfl) rfl rfl rfl H41 ?_
        clear H41; intro a42 H42
        refine plain (y_assign rfl rfl) rfl rfl rfl H42 ?_
        clear H42; intro a43 H43
        refine fin ?_
        refine then_n ?_
        refine wp_seq ?_
        refine wp_seq ?_
        refine reg ?_
        refine plain (y_move rfl rfl) rfl rfl rfl H43 ?_
        clear H43; intro a44 H44
        refine plain (y_neq rfl rfl rfl) rfl rfl rfl H44 ?_
        clear H44; intro a45 H45
        refine fin ?_
        refine then_n ?_
        refine cnd_d H45 rfl (fun hc46 => ?_) (fun hc46 => ?_) -- cond 4
        · skip
          rw [Oct.rdls_err (by omega)] at hrd
          refine wp_seq ?_
          refine reg ?_
          refine plain (y_move rfl rfl) rfl rfl rfl H45 ?_
          clear H45; intro a47 H47
          refine plain (y_assign rfl rfl) rfl rfl rfl H47 ?_
          clear H47; intro a48 H48
          refine plain (y_assign rfl rfl) rfl rfl rfl H48 ?_
          clear H48; intro a49 H49
          refine plain (y_assign rfl rfl) rfl rfl rfl H49 ?_
          clear H49; intro a50 H50
          refine fin ?_
          refine then_n ?_
          refine wp_ret ?_
          refine then_r ?_
          refine inb_r ?_
          refine then_r ?_
          refine then_r ?_
          refine inb_r ?_
          refine then_r ?_
          -- return 3
          refine ret3 rfl H50 rfl rfl rfl ?_
          exact ⟨_, _, rfl, ⟨.slice none 0 0, by rw [← hrd], by rw [← hrd]; rfl⟩, (H50.sep.sub (List.nil_sublist _)).addNil 9 1⟩
        · skip
          have ht0 : (Oct.rdt s pos).2.2 = 0 := by omega
          have htb := Oct.rdt_bounds ht0
          refine wp_skip ?_
          refine then_n ?_
          refine wp_seq ?_
          refine wp_seq ?_
          refine reg ?_
          refine plain (y_move rfl rfl) rfl rfl rfl H45 ?_
          clear H45; intro a51 H51
          refine plain (y_slen rfl Tryd.underlying9 rfl) rfl rfl rfl H51 ?_
          clear H51; intro a52 H52
          refine plain (y_move rfl rfl) rfl rfl rfl H52 ?_
          clear H52; intro a53 H53
          refine plain (y_gtr rfl rfl rfl) rfl rfl rfl H53 ?_
          clear H53; intro a54 H54
          refine fin ?_
          refine then_n ?_
          refine cnd_d H54 rfl (fun hc55 => ?_) (fun hc55 => ?_) -- cond 5
          · skip
            rw [Oct.rdls_big ht0 (by omega)] at hrd
            refine wp_seq ?_
            refine reg ?_
            refine plain (y_assign rfl rfl) rfl rfl rfl H54 ?_
            clear H54; intro a56 H56
            refine plain (y_assign rfl rfl) rfl rfl rfl H56 ?_
            clear H56; intro a57 H57
            refine plain (y_assign rfl rfl) rfl rfl rfl H57 ?_
            clear H57; intro a58 H58
            refine fin ?_
            refine then_n ?_
            refine wp_ret ?_
            refine then_r ?_
            refine inb_r ?_
            refine then_r ?_
            refine then_r ?_
            refine inb_r ?_
            refine then_r ?_
            -- return 4
            refine ret3 rfl H58 rfl rfl rfl ?_
            exact ⟨_, _, rfl, ⟨.slice none 0 0, by rw [← hrd], by rw [← hrd]; rfl⟩, (H58.sep.sub (List.nil_sublist _)).addNil 9 1⟩
          · skip
            rw [Oct.rdls_more ht0 (by omega)] at hrd
            refine wp_skip ?_
            refine then_n ?_
            refine wp_seq ?_
            refine reg ?_
            refine plain (y_move rfl rfl) rfl rfl rfl H54 ?_
            clear H54; intro a59 H59
            refine plain (y_move rfl rfl) rfl rfl rfl H59 ?_
            clear H59; intro a60 H60
            refine plain (y_slen rfl Tryd.underlying9 rfl) rfl rfl rfl H60 ?_
            clear H60; intro a61 H61
            refine plain (y_sub rfl rfl rfl (by first | exact w64 (by omega) (by omega) | rfl)) rfl rfl rfl H61 ?_
            clear H61; intro a62 H62
            refine plain (y_assign rfl rfl) rfl rfl rfl H62 ?_
            clear H62; intro a63 H63
            refine fin ?_
            refine then_n ?_
            refine wp_seq ?_
            refine reg ?_
            refine plain (y_move rfl rfl) rfl rfl rfl H63 ?_
            clear H63; intro a64 H64
            refine plain (y_move rfl rfl) rfl rfl rfl H64 ?_
            clear H64; intro a65 H65
            refine st_buildSlice1 (xs := [.tmp 49]) rfl Tryd.underlying49 z_size9 z_zero9 rfl rfl rfl rfl rfl rfl rfl rfl rfl H65 ?_
            clear H65; intro b66 a66 wx66 H66
            refine st_append rfl z_slice49 z_notint49 rfl rfl (fun _ => (by repeat (first | exact Uh | apply Ut))) (fun w hs => Src.slice ((rd_blkA (by repeat (first | exact Mh | apply Mt))) w hs) rfl (by simp [Value.oneCell'])) (by unfold maxLen; omega) (by omega) rfl rfl rfl H66 ?_
            clear H66; intro v67 a67 wx67 hnil67 H67
            refine plain (y_assign rfl rfl) rfl rfl rfl H67 ?_
            clear H67; intro a68 H68
            refine fin ?_
            refine then_n ?_
            refine reg ?_
            refine plain (y_move rfl rfl) rfl rfl rfl H68 ?_
            clear H68; intro a69 H69
            refine plain (y_assign rfl rfl) rfl rfl rfl H69 ?_
            clear H69; intro a70 H70
            refine fin ?_
            refine inb_n ?_
            refine then_n ?_
            refine reg ?_
            refine plain (y_add rfl rfl rfl (by first | exact w64 (by omega) (by omega) | rfl)) rfl rfl rfl H70 ?_
            clear H70; intro a71 H71
            refine plain (y_move rfl rfl) rfl rfl rfl H71 ?_
            clear H71; intro a72 H72
            refine fin ?_
            refine then_n ?_
            refine ⟨(acc ++ [(Oct.rdt s pos).1], (Oct.rdt s pos).2.1, left - (Oct.rdt s pos).1.length, v67), by simp only [List.length_append, List.length_singleton]; omega, ⟨by simp only [List.length_append, List.length_singleton]; omega, by dsimp only; omega, by dsimp only; omega, by dsimp only; omega, by dsimp only; omega, ?_⟩, (H72.drop (List.Sublist.cons _ (List.Sublist.refl _))).weak ⟨rfl, rfl, rfl, rfl, rfl, fi rfl (by simp), trivial⟩ (ir (by simp) (by simp))⟩
            rw [← hrd]; congr 1; simp only [List.length_append, List.length_singleton]; omega
      · skip
        have hm : (Oct.rdn s p).1.toNat - acc.length = 0 := by omega
        rw [hm] at hrd
        refine wp_exit ?_
        refine then_x ?_
        refine then_x ?_
        refine inb_hit ?_
        refine then_n ?_
        refine wp_seq ?_
        refine reg ?_
        refine plain (y_move rfl rfl) rfl rfl rfl H32 ?_
        clear H32; intro a73 H73
        refine plain (y_move rfl rfl) rfl rfl rfl H73 ?_
        clear H73; intro a74 H74
        refine plain (y_assign rfl rfl) rfl rfl rfl H74 ?_
        clear H74; intro a75 H75
        refine plain (y_assign rfl rfl) rfl rfl rfl H75 ?_
        clear H75; intro a76 H76
        refine plain (y_assign rfl rfl) rfl rfl rfl H76 ?_
        clear H76; intro a77 H77
        refine fin ?_
        refine then_n ?_
        refine wp_ret ?_
        -- return 5
        refine ret3 rfl H77 rfl rfl rfl ?_
        exact ⟨_, _, rfl, ⟨v, by rw [← hrd]; rfl, by rw [← hrd]; rfl⟩, H77.sep⟩
end Go.Proofs.YtnnhnnhdoipbaaaDoor.N_Read

set_option linter.unusedVariables false
set_option linter.unusedSimpArgs false
namespace Go.Proofs.YtnnhnnhdoipbaaaDoor.N_Lay
open Go.Sx Go.RowKit Go.Proofs.YtnnhnnhdoipbaaaDoor.N_Num

theorem z_size3 : sizeB Tryd.prog 3 = some 1 := by kernel_rfl
theorem z_agg3 : aggB Tryd.prog 3 = some false := by kernel_rfl
theorem z_call56 : callB Tryd.prog 56 = true := by kernel_rfl
theorem z_size9 : sizeB Tryd.prog 9 = some 1 := by kernel_rfl
theorem z_zero9 : zeroL Tryd.prog 9 = some ([.string ⟨#[]⟩]) := by kernel_rfl
theorem z_slice49 : sliceB Tryd.prog 49 = some (9, 1, 16) := by kernel_rfl
theorem z_notint49 : notIntB Tryd.prog 49 = true := by kernel_rfl
theorem z_call55 : callB Tryd.prog 55 = true := by kernel_rfl
theorem z_call57 : callB Tryd.prog 57 = true := by kernel_rfl
theorem z_field25_0 : fieldB Tryd.prog 25 0 = some 0 := by kernel_rfl
theorem q_ix_c4b32_0 {a0 a1 a2 a3 : Value} {t4 : List UInt8} : (a0 :: a1 :: a2 :: a3 :: t4.map u8)[0]? = some a0 := ix_0
theorem z_field25_1 : fieldB Tryd.prog 25 1 = some 1 := by kernel_rfl
theorem q_ix_c4b32_1 {a0 a1 a2 a3 : Value} {t4 : List UInt8} : (a0 :: a1 :: a2 :: a3 :: t4.map u8)[1]? = some a1 := (ix_c (o := 0) ix_0)
theorem z_field25_2 : fieldB Tryd.prog 25 2 = some 2 := by kernel_rfl
theorem q_ix_c4b32_2 {a0 a1 a2 a3 : Value} {t4 : List UInt8} : (a0 :: a1 :: a2 :: a3 :: t4.map u8)[2]? = some a2 := (ix_c (o := 1) (ix_c (o := 0) ix_0))
theorem z_field25_3 : fieldB Tryd.prog 25 3 = some 3 := by kernel_rfl
theorem q_ix_c4b32_3 {a0 a1 a2 a3 : Value} {t4 : List UInt8} : (a0 :: a1 :: a2 :: a3 :: t4.map u8)[3]? = some a3 := (ix_c (o := 2) (ix_c (o := 1) (ix_c (o := 0) ix_0)))
theorem z_zero3 : zeroL Tryd.prog 3 = some ([.int .i64 0]) := by kernel_rfl
theorem z_call47 : callB Tryd.prog 47 = true := by kernel_rfl
theorem z_agg25 : aggB Tryd.prog 25 = some true := by kernel_rfl
theorem z_size25 : sizeB Tryd.prog 25 = some 36 := by kernel_rfl
theorem q_ld_c4b32_0_36 {a0 a1 a2 a3 : Value} {t4 : List UInt8} (h4 : t4.length = 32) : ((a0 :: a1 :: a2 :: a3 :: t4.map u8).drop 0).take 36 = a0 :: a1 :: a2 :: a3 :: t4.map u8 := (ld_a (len_c (n := 35) (len_c (n := 34) (len_c (n := 33) (len_c (n := 32) (len_e (k := 32) h4))))))
theorem q_len_c4b32 {a0 a1 a2 a3 : Value} {t4 : List UInt8} (h4 : t4.length = 32) : (a0 :: a1 :: a2 :: a3 :: t4.map u8).length = 36 := (len_c (n := 35) (len_c (n := 34) (len_c (n := 33) (len_c (n := 32) (len_e (k := 32) h4)))))
theorem z_call34 : callB Tryd.prog 34 = true := by kernel_rfl
theorem z_field25_4 : fieldB Tryd.prog 25 4 = some 4 := by kernel_rfl
theorem z_size5 : sizeB Tryd.prog 5 = some 1 := by kernel_rfl
theorem z_call36 : callB Tryd.prog 36 = true := by kernel_rfl
theorem z_call35 : callB Tryd.prog 35 = true := by kernel_rfl

set_option maxRecDepth 100000 in
set_option maxHeartbeats 1000000 in
theorem nnum (ns : List Int) (A : Option Addr) (m c : Nat) (hm : m = ns.length) (hl : ns.length ≤ 1000) {w : World} (hR : Rd w A (ns.map i64)) : Calls Tryd.prog 47 #[.slice A m c] w (Gives (.bool (Note.nums ns)) [] w) := by
  subst hm
  have lz32 : (List.replicate 32 (0 : UInt8)).length = 32 := List.length_replicate
  refine enterL (args := [.slice A ns.length c]) Tryd.func47 rfl rfl (l := []) (Sep.refl _) ?_
  intro a0 H0
  refine wp_seq ?_
  refine reg ?_
  refine plain (y_assign rfl rfl) rfl rfl rfl H0 ?_
  clear H0; intro a1 H1
  refine fin ?_
  refine then_n ?_
  refine wp_seq ?_
  refine wp_seq ?_
  refine reg ?_
  refine plain (y_move rfl rfl) rfl rfl rfl H1 ?_
  clear H1; intro a2 H2
  refine plain (y_len rfl Tryd.underlying83 rfl) rfl rfl rfl H2 ?_
  clear H2; intro a3 H3
  refine plain (y_move rfl rfl) rfl rfl rfl H3 ?_
  clear H3; intro a4 H4
  refine fin ?_
  refine then_n ?_
  refine wp_block ?_
  refine loop (ι := Nat) (fun k => [(5, .slice A ns.length c), (6, .int .i64 (ns.length : Int)), (7, .int .i64 (k : Int))]) (fun k => []) (fun k => k ≤ ns.length ∧ (ns.take k).all Note.okNum = true) (fun k => ns.length - k) (0) ⟨Nat.zero_le _, rfl⟩ (H4.weak ⟨rfl, rfl, rfl, trivial⟩ rfl) ?_
  clear H4; intro k a5 wx5 hok5 H5
  have hok := hok5
  refine wp_seq ?_
  refine reg ?_
  refine plain (y_lss rfl rfl rfl) rfl rfl rfl H5 ?_
  clear H5; intro a6 H6
  refine fin ?_
  refine then_n ?_
  refine wp_seq ?_
  refine cnd H6 rfl (fun hc7 => ?_) (fun hc7 => ?_) -- cond 1
  · skip
    try simp only [decide_eq_true_eq, decide_eq_false_iff_not, Bool.not_eq_true', Bool.not_eq_false', Bool.and_eq_true, Bool.not_eq_true, Bool.not_eq_false] at hc7
    refine wp_skip ?_
    refine then_n ?_
    refine wp_seq ?_
    refine wp_block ?_
    refine wp_seq ?_
    refine reg ?_
    refine plain (y_ixR rfl Tryd.underlying83 z_size3 rfl rfl (by omega) (by omega) (rd_old (by assumption) (by simp)) (by rw [List.length_map]; omega)) rfl rfl rfl H6 ?_
    clear H6; intro a8 H8
    refine plain (y_loadR rfl z_agg3 rfl (rd_old (by assumption) (by simp)) (by rw [Nat.mul_one]; exact i64_get ns (k : Int).toNat (by omega))) rfl rfl rfl H8 ?_
    clear H8; intro a9 H9
    refine plain (y_assign rfl rfl) rfl rfl rfl H9 ?_
    clear H9; intro a10 H10
    refine fin ?_
    refine then_n ?_
    refine wp_seq ?_
    refine reg ?_
    refine plain (y_move rfl rfl) rfl rfl rfl H10 ?_
    clear H10; intro a11 H11
    refine plain (y_lss rfl rfl rfl) rfl rfl rfl H11 ?_
    clear H11; intro a12 H12
    refine plain (y_move rfl rfl) rfl rfl rfl H12 ?_
    clear H12; intro a13 H13
    refine Sx.part (d := 13) H13 rfl (fun hg14 => ?_) (fun hg14 => ?_)
    · first
      | fail
      | skip
        clear H13; intro H15
        try simp only [decide_eq_true_eq, decide_eq_false_iff_not, Bool.not_eq_true', Bool.not_eq_false', Bool.and_eq_true, Bool.not_eq_true, Bool.not_eq_false] at hg14
        refine skip rfl rfl rfl H15 ?_
        clear H15; intro a16 H16
        refine skip rfl rfl rfl H16 ?_
        clear H16; intro a17 H17
        refine plain (y_pick_t rfl rfl rfl) rfl rfl rfl H17 ?_
        clear H17; intro a18 H18
        refine fin ?_
        refine then_n ?_
        refine cnd_t H18 rfl ?_
        refine wp_seq ?_
        refine reg ?_
        refine plain (y_assign rfl rfl) rfl rfl rfl H18 ?_
        clear H18; intro a20 H20
        refine fin ?_
        refine then_n ?_
        refine wp_ret ?_
        refine inb_r ?_
        refine then_r ?_
        refine then_r ?_
        refine inb_r ?_
        refine then_r ?_
        -- return 1
        refine ret1 rfl H20 rfl ?_
        exact ⟨_, [], rfl, ⟨by rw [Note.nums_bad (k := k) (by omega) (by simp only [Int.toNat_natCast] at *; omega)], rfl⟩, H20.sep.sub (List.nil_sublist _)⟩
    · first
      | fail
      | skip
        clear H13; intro H21
        try simp only [decide_eq_true_eq, decide_eq_false_iff_not, Bool.not_eq_true', Bool.not_eq_false', Bool.and_eq_true, Bool.not_eq_true, Bool.not_eq_false] at hg14
        refine plain (y_move rfl rfl) rfl rfl rfl H21 ?_
        clear H21; intro a22 H22
        refine plain (y_gtr rfl rfl rfl) rfl rfl rfl H22 ?_
        clear H22; intro a23 H23
        refine plain (y_pick_f rfl rfl rfl) rfl rfl rfl H23 ?_
        clear H23; intro a24 H24
        refine fin ?_
        refine then_n ?_
        refine cnd H24 rfl (fun hc25 => ?_) (fun hc25 => ?_) -- cond 3
        · skip
          try simp only [decide_eq_true_eq, decide_eq_false_iff_not, Bool.not_eq_true', Bool.not_eq_false', Bool.and_eq_true, Bool.not_eq_true, Bool.not_eq_false] at hc25
          refine wp_seq ?_
          refine reg ?_
          refine plain (y_assign rfl rfl) rfl rfl rfl H24 ?_
          clear H24; intro a26 H26
          refine fin ?_
          refine then_n ?_
          refine wp_ret ?_
          refine inb_r ?_
          refine then_r ?_
          refine then_r ?_
          refine inb_r ?_
          refine then_r ?_
          -- return 2
          refine ret1 rfl H26 rfl ?_
          exact ⟨_, [], rfl, ⟨by rw [Note.nums_bad (k := k) (by omega) (by simp only [Int.toNat_natCast] at *; omega)], rfl⟩, H26.sep.sub (List.nil_sublist _)⟩
        · skip
          try simp only [decide_eq_true_eq, decide_eq_false_iff_not, Bool.not_eq_true', Bool.not_eq_false', Bool.and_eq_true, Bool.not_eq_true, Bool.not_eq_false] at hc25
          refine wp_skip ?_
          refine inb_n ?_
          refine then_n ?_
          refine reg ?_
          refine plain (y_add rfl rfl rfl (by first | exact w64 (by omega) (by omega) | rfl)) rfl rfl rfl H24 ?_
          clear H24; intro a27 H27
          refine plain (y_move rfl rfl) rfl rfl rfl H27 ?_
          clear H27; intro a28 H28
          refine fin ?_
          refine then_n ?_
          refine ⟨k + 1, by omega, ⟨by omega, Note.take_all 0 (by omega) hok.2 ?_⟩, H28.weak ⟨rfl, rfl, fi rfl (by omega), trivial⟩ rfl⟩
          simp only [Int.toNat_natCast, Note.okNum, decide_eq_true_eq] at *
          omega
  · skip
    try simp only [decide_eq_true_eq, decide_eq_false_iff_not, Bool.not_eq_true', Bool.not_eq_false', Bool.and_eq_true, Bool.not_eq_true, Bool.not_eq_false] at hc7
    refine wp_exit ?_
    refine then_x ?_
    refine then_x ?_
    refine inb_hit ?_
    refine then_n ?_
    refine wp_seq ?_
    refine reg ?_
    refine plain (y_assign rfl rfl) rfl rfl rfl H6 ?_
    clear H6; intro a29 H29
    refine fin ?_
    refine then_n ?_
    refine wp_ret ?_
    -- return 3
    refine ret1 rfl H29 rfl ?_
    exact ⟨_, [], rfl, ⟨by rw [Note.nums_all (k := k) (by omega) hok.2], rfl⟩, H29.sep.sub (List.nil_sublist _)⟩
set_option maxRecDepth 100000 in
set_option maxHeartbeats 1000000 in
theorem nlay (ns : List Int) (A : Option Addr) (m c : Nat) (hm : m = ns.length) (hl : ns.length ≤ 1000) (hb : ∀ x ∈ ns, x ≤ 9223372036854775807) {w : World} (hR : Rd w A (ns.map i64)) : Calls Tryd.prog 36 #[.slice A m c] w (Post [] w (fun u l => l = [It.row 9 1 u ns.length ((ns.map Note.num).map str)])) := by
  subst hm
  have lz32 : (List.replicate 32 (0 : UInt8)).length = 32 := List.length_replicate
  refine enterL (args := [.slice A ns.length c]) Tryd.func36 rfl rfl (l := []) (Sep.refl _) ?_
  intro a0 H0
  refine wp_seq ?_
  refine reg ?_
  refine plain (y_assign rfl rfl) rfl rfl rfl H0 ?_
  clear H0; intro a1 H1
  refine fin ?_
  refine then_n ?_
  refine wp_seq ?_
  refine reg ?_
  refine plain (y_assign rfl rfl) rfl rfl rfl H1 ?_
  clear H1; intro a2 H2
  refine fin ?_
  refine then_n ?_
  refine wp_seq ?_
  refine wp_seq ?_
  refine reg ?_
  refine plain (y_move rfl rfl) rfl rfl rfl H2 ?_
  clear H2; intro a3 H3
  refine plain (y_len rfl Tryd.underlying83 rfl) rfl rfl rfl H3 ?_
  clear H3; intro a4 H4
  refine plain (y_move rfl rfl) rfl rfl rfl H4 ?_
  clear H4; intro a5 H5
  refine fin ?_
  refine then_n ?_
  refine wp_block ?_
  replace H5 := H5.nilRow 9 1
  refine loop (ι := Nat × Value) (fun x => [(3, x.2), (8, .slice A ns.length c), (9, .int .i64 (ns.length : Int)), (10, .int .i64 (x.1 : Int))]) (fun x => [It.row 9 1 x.2 x.1 (((ns.take x.1).map Note.num).map str)]) (fun x => x.1 ≤ ns.length) (fun x => ns.length - x.1) ((0, .slice none 0 0)) (Nat.zero_le _) (H5.weak ⟨rfl, rfl, rfl, rfl, trivial⟩ rfl) ?_
  clear H5; intro x a6 wx6 hok6 H6
  obtain ⟨k, v⟩ := x
  dsimp only at hok6 H6
  have hok := hok6
  obtain ⟨Av, cv, hv, hRv, hmv⟩ := row_shape (v := v) H6.sep (by repeat (first | exact Mh | apply Mt))
  subst hv
  refine wp_seq ?_
  refine reg ?_
  refine plain (y_lss rfl rfl rfl) rfl rfl rfl H6 ?_
  clear H6; intro a7 H7
  refine fin ?_
  refine then_n ?_
  refine wp_seq ?_
  refine cnd H7 rfl (fun hc8 => ?_) (fun hc8 => ?_) -- cond 1
  · skip
    try simp only [decide_eq_true_eq, decide_eq_false_iff_not, Bool.not_eq_true', Bool.not_eq_false', Bool.and_eq_true, Bool.not_eq_true, Bool.not_eq_false] at hc8
    refine wp_skip ?_
    refine then_n ?_
    refine wp_seq ?_
    refine wp_block ?_
    refine wp_seq ?_
    refine reg ?_
    refine plain (y_ixR rfl Tryd.underlying83 z_size3 rfl rfl (by omega) (by omega) (rd_old (by assumption) (by simp)) (by rw [List.length_map]; omega)) rfl rfl rfl H7 ?_
    clear H7; intro a9 H9
    refine plain (y_loadR rfl z_agg3 rfl (rd_old (by assumption) (by simp)) (by rw [Nat.mul_one]; exact i64_get ns (k : Int).toNat (by omega))) rfl rfl rfl H9 ?_
    clear H9; intro a10 H10
    refine plain (y_assign rfl rfl) rfl rfl rfl H10 ?_
    clear H10; intro a11 H11
    refine fin ?_
    refine then_n ?_
    refine wp_seq ?_
    refine reg ?_
    refine plain (y_move rfl rfl) rfl rfl rfl H11 ?_
    clear H11; intro a12 H12
    refine st_callg rfl z_call56 rfl rfl rfl rfl H12 (num _ (by have := hb (ns.getD k 0) (by rw [Oct.getD_eq 0 (by omega)]; exact List.getElem_mem _); simpa using this) _) ?_
    clear H12; intro a13 wx13 H13
    refine plain (y_move rfl rfl) rfl rfl rfl H13 ?_
    clear H13; intro a14 H14
    refine plain (y_extract rfl rfl rfl) rfl rfl rfl H14 ?_
    clear H14; intro a15 H15
    refine plain (y_extract rfl rfl rfl) rfl rfl rfl H15 ?_
    clear H15; intro a16 H16
    refine plain (y_assign rfl rfl) rfl rfl rfl H16 ?_
    clear H16; intro a17 H17
    refine plain (y_assign rfl rfl) rfl rfl rfl H17 ?_
    clear H17; intro a18 H18
    refine fin ?_
    refine then_n ?_
    refine reg ?_
    refine plain (y_move rfl rfl) rfl rfl rfl H18 ?_
    clear H18; intro a19 H19
    refine plain (y_move rfl rfl) rfl rfl rfl H19 ?_
    clear H19; intro a20 H20
    refine st_buildSlice1 (xs := [.tmp 20]) rfl Tryd.underlying49 z_size9 z_zero9 rfl rfl rfl rfl rfl rfl rfl rfl rfl H20 ?_
    clear H20; intro b21 a21 wx21 H21
    refine st_append rfl z_slice49 z_notint49 rfl rfl (fun _ => (by repeat (first | exact Uh | apply Ut))) (fun w hs => Src.slice ((rd_blkA (by repeat (first | exact Mh | apply Mt))) w hs) rfl (by simp [Value.oneCell'])) (by unfold maxLen at *; first | omega | (simp only [List.length_cons, List.length_nil, List.length_append, List.length_map]; omega)) (by first | omega | (simp only [List.length_cons, List.length_nil, List.length_append, List.length_map]; omega)) rfl rfl rfl H21 ?_
    clear H21; intro v22 a22 wx22 hnil22 H22
    obtain ⟨Ar22, cr22, hvr22, hRr22, hmr22⟩ := row_shape (v := v22) H22.sep (by repeat (first | exact Mh | apply Mt))
    subst hvr22
    refine plain (y_assign rfl rfl) rfl rfl rfl H22 ?_
    clear H22; intro a23 H23
    refine fin ?_
    refine inb_n ?_
    refine then_n ?_
    refine reg ?_
    refine plain (y_add rfl rfl rfl (by first | exact w64 (by omega) (by omega) | rfl)) rfl rfl rfl H23 ?_
    clear H23; intro a24 H24
    refine plain (y_move rfl rfl) rfl rfl rfl H24 ?_
    clear H24; intro a25 H25
    refine fin ?_
    refine then_n ?_
    refine ⟨(k + 1, (.slice Ar22 _ cr22)), by dsimp only; omega, by dsimp only; omega, (H25.drop (List.Sublist.cons _ (List.Sublist.refl _))).weak ⟨rfl, rfl, rfl, fi rfl (by dsimp only; omega), trivial⟩ (ir (by dsimp only) ?_)⟩
    rw [Oct.take_succ 0 (by omega), List.map_append, List.map_append]
    rfl
  · skip
    try simp only [decide_eq_true_eq, decide_eq_false_iff_not, Bool.not_eq_true', Bool.not_eq_false', Bool.and_eq_true, Bool.not_eq_true, Bool.not_eq_false] at hc8
    refine wp_exit ?_
    refine then_x ?_
    refine then_x ?_
    refine inb_hit ?_
    refine then_n ?_
    refine wp_seq ?_
    refine reg ?_
    refine plain (y_move rfl rfl) rfl rfl rfl H7 ?_
    clear H7; intro a26 H26
    refine plain (y_assign rfl rfl) rfl rfl rfl H26 ?_
    clear H26; intro a27 H27
    refine fin ?_
    refine then_n ?_
    refine wp_ret ?_
    -- return 1
    refine ret1 rfl H27 rfl ?_
    refine ⟨_, _, rfl, ?_, H27.sep⟩
    rw [show k = ns.length by omega, List.take_length]
set_option maxRecDepth 100000 in
set_option maxHeartbeats 1000000 in
theorem nwrite (l : List (List UInt8)) (A : Option Addr) (m c : Nat) (hm : m = l.length) {w : World} (hR : Rd w A (l.map str)) (hl : l.length ≤ 9223372036854775807) : Calls Tryd.prog 35 #[.slice A m c] w (Gives (.tuple #[str (Oct.list l).1, .int .i64 (Oct.list l).2]) [] w) := by
  subst hm
  have lz32 : (List.replicate 32 (0 : UInt8)).length = 32 := List.length_replicate
  refine enterL (args := [.slice A l.length c]) Tryd.func35 rfl rfl (l := []) (Sep.refl _) ?_
  intro a0 H0
  refine wp_seq ?_
  refine reg ?_
  refine plain (y_assign rfl rfl) rfl rfl rfl H0 ?_
  clear H0; intro a1 H1
  refine plain (y_assign rfl rfl) rfl rfl rfl H1 ?_
  clear H1; intro a2 H2
  refine fin ?_
  refine then_n ?_
  refine wp_seq ?_
  refine reg ?_
  refine plain (y_move rfl rfl) rfl rfl rfl H2 ?_
  clear H2; intro a3 H3
  refine st_callg rfl z_call55 rfl rfl rfl rfl H3 (lst l A _ c rfl (Rd.frm hR H3.sep.frm (by simp)) hl) ?_
  clear H3; intro a4 wx4 H4
  refine plain (y_move rfl rfl) rfl rfl rfl H4 ?_
  clear H4; intro a5 H5
  refine plain (y_extract rfl rfl rfl) rfl rfl rfl H5 ?_
  clear H5; intro a6 H6
  refine plain (y_extract rfl rfl rfl) rfl rfl rfl H6 ?_
  clear H6; intro a7 H7
  refine plain (y_assign rfl rfl) rfl rfl rfl H7 ?_
  clear H7; intro a8 H8
  refine plain (y_assign rfl rfl) rfl rfl rfl H8 ?_
  clear H8; intro a9 H9
  refine fin ?_
  refine then_n ?_
  refine wp_seq ?_
  refine wp_seq ?_
  refine reg ?_
  refine plain (y_move rfl rfl) rfl rfl rfl H9 ?_
  clear H9; intro a10 H10
  refine plain (y_neq rfl rfl rfl) rfl rfl rfl H10 ?_
  clear H10; intro a11 H11
  refine fin ?_
  refine then_n ?_
  refine cnd H11 rfl (fun hc12 => ?_) (fun hc12 => ?_) -- cond 1
  · skip
    try simp only [decide_eq_true_eq, decide_eq_false_iff_not, Bool.not_eq_true', Bool.not_eq_false', Bool.and_eq_true, Bool.not_eq_true, Bool.not_eq_false] at hc12
    refine wp_seq ?_
    refine reg ?_
    refine plain (y_assign rfl rfl) rfl rfl rfl H11 ?_
    clear H11; intro a13 H13
    refine plain (y_assign rfl rfl) rfl rfl rfl H13 ?_
    clear H13; intro a14 H14
    refine fin ?_
    refine then_n ?_
    refine wp_ret ?_
    refine then_r ?_
    -- return 1
    refine ret2 rfl H14 rfl rfl ?_
    exact ⟨_, [], rfl, ⟨by rw [Note.list_bad (by assumption)], rfl⟩, H14.sep.sub (List.nil_sublist _)⟩
  · skip
    try simp only [decide_eq_true_eq, decide_eq_false_iff_not, Bool.not_eq_true', Bool.not_eq_false', Bool.and_eq_true, Bool.not_eq_true, Bool.not_eq_false] at hc12
    refine wp_skip ?_
    refine then_n ?_
    refine wp_seq ?_
    refine reg ?_
    refine plain (y_move rfl rfl) rfl rfl rfl H11 ?_
    clear H11; intro a15 H15
    refine plain (y_assign rfl rfl) rfl rfl rfl H15 ?_
    clear H15; intro a16 H16
    refine plain (y_assign rfl rfl) rfl rfl rfl H16 ?_
    clear H16; intro a17 H17
    refine fin ?_
    refine then_n ?_
    refine wp_ret ?_
    -- return 2
    refine ret2 rfl H17 rfl rfl ?_
    exact ⟨_, [], rfl, ⟨by rw [Note.list_fine (by assumption)], rfl⟩, H17.sep.sub (List.nil_sublist _)⟩
set_option maxRecDepth 100000 in
set_option maxHeartbeats 1000000 in
theorem rlist (l : List (List UInt8)) (A : Option Addr) (m c : Nat) (hm : m = l.length) {w : World} (hR : Rd w A (l.map str)) (hl : l.length ≤ 9223372036854775807) : Calls Tryd.prog 38 #[.slice A m c] w (Gives (.tuple #[str (Oct.list l).1, .int .i64 (Oct.list l).2]) [] w) := by
  subst hm
  have lz32 : (List.replicate 32 (0 : UInt8)).length = 32 := List.length_replicate
  refine enterL (args := [.slice A l.length c]) Tryd.func38 rfl rfl (l := []) (Sep.refl _) ?_
  intro a0 H0
  refine wp_seq ?_
  refine reg ?_
  refine plain (y_assign rfl rfl) rfl rfl rfl H0 ?_
  clear H0; intro a1 H1
  refine plain (y_assign rfl rfl) rfl rfl rfl H1 ?_
  clear H1; intro a2 H2
  refine fin ?_
  refine then_n ?_
  refine wp_seq ?_
  refine reg ?_
  refine plain (y_move rfl rfl) rfl rfl rfl H2 ?_
  clear H2; intro a3 H3
  refine st_callg rfl z_call57 rfl rfl rfl rfl H3 (lstR l A _ c rfl (Rd.frm hR H3.sep.frm (by simp)) hl) ?_
  clear H3; intro a4 wx4 H4
  refine plain (y_extract rfl rfl rfl) rfl rfl rfl H4 ?_
  clear H4; intro a5 H5
  refine plain (y_extract rfl rfl rfl) rfl rfl rfl H5 ?_
  clear H5; intro a6 H6
  refine plain (y_assign rfl rfl) rfl rfl rfl H6 ?_
  clear H6; intro a7 H7
  refine plain (y_assign rfl rfl) rfl rfl rfl H7 ?_
  clear H7; intro a8 H8
  refine fin ?_
  refine then_n ?_
  refine wp_ret ?_
  -- return 1
  refine ret2 rfl H8 rfl rfl ?_
  exact ⟨_, [], rfl, ⟨rfl, rfl⟩, H8.sep.sub (List.nil_sublist _)⟩
set_option maxRecDepth 100000 in
set_option maxHeartbeats 1000000 in
theorem nbid (b : Note.Bid) (wf : Note.Bid.Wf b) (w : World) : Calls Tryd.prog 34 #[.agg (Note.Bid.cells b).toArray] w (Gives (.bool b.ok) [] w) := by
  have lz32 : (List.replicate 32 (0 : UInt8)).length = 32 := List.length_replicate
  have lz0 := wf.tag
  refine enterL (args := [.agg (Note.Bid.cells b).toArray]) Tryd.func34 rfl rfl (l := []) (Sep.refl _) ?_
  intro a0 H0
  refine wp_seq ?_
  refine reg ?_
  refine st_box rfl rfl (agg_cells _) rfl rfl rfl H0 ?_
  clear H0; intro b1 a1 wx1 H1
  refine plain (y_assign rfl rfl) rfl rfl rfl H1 ?_
  clear H1; intro a2 H2
  refine fin ?_
  refine then_n ?_
  refine wp_seq ?_
  refine reg ?_
  refine plain (y_fieldB rfl z_field25_0 rfl (by first | (simp only [Nat.zero_add, Nat.add_zero, Nat.reduceAdd]; rfl) | rfl)) rfl rfl rfl H2 ?_
  clear H2; intro a3 H3
  refine plain (y_loadB rfl z_agg3 rfl (by repeat (first | exact Mh | apply Mt)) q_ix_c4b32_0) rfl rfl rfl H3 ?_
  clear H3; intro a4 H4
  refine plain (y_fieldB rfl z_field25_1 rfl (by first | (simp only [Nat.zero_add, Nat.add_zero, Nat.reduceAdd]; rfl) | rfl)) rfl rfl rfl H4 ?_
  clear H4; intro a5 H5
  refine plain (y_loadB rfl z_agg3 rfl (by repeat (first | exact Mh | apply Mt)) q_ix_c4b32_1) rfl rfl rfl H5 ?_
  clear H5; intro a6 H6
  refine plain (y_fieldB rfl z_field25_2 rfl (by first | (simp only [Nat.zero_add, Nat.add_zero, Nat.reduceAdd]; rfl) | rfl)) rfl rfl rfl H6 ?_
  clear H6; intro a7 H7
  refine plain (y_loadB rfl z_agg3 rfl (by repeat (first | exact Mh | apply Mt)) q_ix_c4b32_2) rfl rfl rfl H7 ?_
  clear H7; intro a8 H8
  refine plain (y_fieldB rfl z_field25_3 rfl (by first | (simp only [Nat.zero_add, Nat.add_zero, Nat.reduceAdd]; rfl) | rfl)) rfl rfl rfl H8 ?_
  clear H8; intro a9 H9
  refine plain (y_loadB rfl z_agg3 rfl (by repeat (first | exact Mh | apply Mt)) q_ix_c4b32_3) rfl rfl rfl H9 ?_
  clear H9; intro a10 H10
  refine st_buildSlice1 (xs := [.tmp 4, .tmp 6, .tmp 8, .tmp 10]) rfl Tryd.underlying83 z_size3 z_zero3 rfl rfl rfl rfl rfl rfl rfl rfl rfl H10 ?_
  clear H10; intro b11 a11 wx11 H11
  refine st_callg rfl z_call47 rfl rfl rfl rfl H11 (nnum [b.round, b.who, b.amount, b.salt] _ _ _ rfl (by simp) (Rd.ofSep (rd_blkA (by repeat (first | exact Mh | apply Mt))) H11.sep)) ?_
  clear H11; intro a12 wx12 H12
  refine plain (y_move rfl rfl) rfl rfl rfl H12 ?_
  clear H12; intro a13 H13
  refine Sx.part (d := 13) H13 rfl (fun hg14 => ?_) (fun hg14 => ?_)
  · first
    | fail
    | skip
      clear H13; intro H15
      try simp only [decide_eq_true_eq, decide_eq_false_iff_not, Bool.not_eq_true', Bool.not_eq_false', Bool.and_eq_true, Bool.not_eq_true, Bool.not_eq_false] at hg14
      have hk := hg14
      refine plain (y_fieldB rfl z_field25_1 rfl (by first | (simp only [Nat.zero_add, Nat.add_zero, Nat.reduceAdd]; rfl) | rfl)) rfl rfl rfl H15 ?_
      clear H15; intro a16 H16
      refine plain (y_loadB rfl z_agg3 rfl (by repeat (first | exact Mh | apply Mt)) q_ix_c4b32_1) rfl rfl rfl H16 ?_
      clear H16; intro a17 H17
      refine plain (y_lss rfl rfl rfl) rfl rfl rfl H17 ?_
      clear H17; intro a18 H18
      refine plain (y_pick_t rfl rfl rfl) rfl rfl rfl H18 ?_
      clear H18; intro a19 H19
      refine plain (y_assign rfl rfl) rfl rfl rfl H19 ?_
      clear H19; intro a20 H20
      refine fin ?_
      refine then_n ?_
      refine wp_ret ?_
      -- return 1
      refine ret1 rfl H20 rfl ?_
      exact ⟨_, [], rfl, ⟨by unfold Note.Bid.ok; rw [hk]; first | rfl | (simp; done) | (congr 1; simp), rfl⟩, H20.sep.sub (List.nil_sublist _)⟩
  · first
    | fail
    | skip
      clear H13; intro H21
      try simp only [decide_eq_true_eq, decide_eq_false_iff_not, Bool.not_eq_true', Bool.not_eq_false', Bool.and_eq_true, Bool.not_eq_true, Bool.not_eq_false] at hg14
      have hk := hg14
      refine skip rfl rfl rfl H21 ?_
      clear H21; intro a22 H22
      refine skip rfl rfl rfl H22 ?_
      clear H22; intro a23 H23
      refine skip rfl rfl rfl H23 ?_
      clear H23; intro a24 H24
      refine plain (y_pick_f rfl rfl rfl) rfl rfl rfl H24 ?_
      clear H24; intro a25 H25
      refine plain (y_assign rfl rfl) rfl rfl rfl H25 ?_
      clear H25; intro a26 H26
      refine fin ?_
      refine then_n ?_
      refine wp_ret ?_
      -- return 2
      refine ret1 rfl H26 rfl ?_
      exact ⟨_, [], rfl, ⟨by unfold Note.Bid.ok; rw [hk]; first | rfl | (simp; done) | (congr 1; simp), rfl⟩, H26.sep.sub (List.nil_sublist _)⟩
set_option maxRecDepth 100000 in
set_option maxHeartbeats 1000000 in
theorem nwbid (b : Note.Bid) (wf : Note.Bid.Wf b) (w : World) : Calls Tryd.prog 10 #[.agg (Note.Bid.cells b).toArray] w (Gives (.tuple #[str (Note.writeBid b).1, .int .i64 (Note.writeBid b).2]) [] w) := by
  have lz32 : (List.replicate 32 (0 : UInt8)).length = 32 := List.length_replicate
  have lz0 := wf.tag
  refine enterL (args := [.agg (Note.Bid.cells b).toArray]) Tryd.func10 rfl rfl (l := []) (Sep.refl _) ?_
  intro a0 H0
  refine wp_seq ?_
  refine reg ?_
  refine st_box rfl rfl (agg_cells _) rfl rfl rfl H0 ?_
  clear H0; intro b1 a1 wx1 H1
  refine plain (y_assign rfl rfl) rfl rfl rfl H1 ?_
  clear H1; intro a2 H2
  refine plain (y_assign rfl rfl) rfl rfl rfl H2 ?_
  clear H2; intro a3 H3
  refine fin ?_
  refine then_n ?_
  refine wp_seq ?_
  refine wp_seq ?_
  refine reg ?_
  refine plain (y_loadAB rfl z_agg25 z_size25 rfl (by repeat (first | exact Mh | apply Mt)) (q_ld_c4b32_0_36 (by assumption)) (q_len_c4b32 (by assumption))) rfl rfl rfl H3 ?_
  clear H3; intro a4 H4
  refine st_callg rfl z_call34 rfl rfl rfl rfl H4 (nbid b wf _) ?_
  clear H4; intro a5 wx5 H5
  refine plain ((by first | exact y_not_d rfl rfl | exact y_not rfl rfl)) rfl rfl rfl H5 ?_
  clear H5; intro a6 H6
  refine fin ?_
  refine then_n ?_
  refine cnd H6 rfl (fun hc7 => ?_) (fun hc7 => ?_) -- cond 1
  · skip
    try simp only [decide_eq_true_eq, decide_eq_false_iff_not, Bool.not_eq_true', Bool.not_eq_false', Bool.and_eq_true, Bool.not_eq_true, Bool.not_eq_false] at hc7
    have hk := hc7
    refine wp_seq ?_
    refine reg ?_
    refine plain (y_assign rfl rfl) rfl rfl rfl H6 ?_
    clear H6; intro a8 H8
    refine plain (y_assign rfl rfl) rfl rfl rfl H8 ?_
    clear H8; intro a9 H9
    refine fin ?_
    refine then_n ?_
    refine wp_ret ?_
    refine then_r ?_
    -- return 1
    refine ret2 rfl H9 rfl rfl ?_
    exact ⟨_, [], rfl, ⟨by rw [Note.writeBid, hk]; rfl, rfl⟩, H9.sep.sub (List.nil_sublist _)⟩
  · skip
    try simp only [decide_eq_true_eq, decide_eq_false_iff_not, Bool.not_eq_true', Bool.not_eq_false', Bool.and_eq_true, Bool.not_eq_true, Bool.not_eq_false] at hc7
    have hk := hc7
    refine wp_skip ?_
    refine then_n ?_
    refine wp_seq ?_
    refine hreg _ (fun _ h => h) (by kernel_rfl) H6 ?_
    clear H6; intro wx10 H10
    refine htake 0 rfl (by kernel_rfl) (y_fieldB rfl z_field25_0 rfl (by first | (simp only [Nat.zero_add, Nat.add_zero, Nat.reduceAdd]; rfl) | rfl)) rfl rfl rfl (fun _ h => (h.sub (by first | exact S0 | exact S1 | repeat (first | exact S1 | exact S0 | apply S2 | apply S3)))) H10 ?_
    clear H10; intro a11 H11
    refine htake 1 rfl (by kernel_rfl) (y_loadB rfl z_agg3 rfl (by repeat (first | exact Mh | apply Mt)) q_ix_c4b32_0) rfl rfl rfl (fun _ h => (h.sub (by first | exact S0 | exact S1 | repeat (first | exact S1 | exact S0 | apply S2 | apply S3)))) H11 ?_
    clear H11; intro a12 H12
    refine htake 2 rfl (by kernel_rfl) (y_fieldB rfl z_field25_1 rfl (by first | (simp only [Nat.zero_add, Nat.add_zero, Nat.reduceAdd]; rfl) | rfl)) rfl rfl rfl (fun _ h => (h.sub (by first | exact S0 | exact S1 | repeat (first | exact S1 | exact S0 | apply S2 | apply S3)))) H12 ?_
    clear H12; intro a13 H13
    refine htake 3 rfl (by kernel_rfl) (y_loadB rfl z_agg3 rfl (by repeat (first | exact Mh | apply Mt)) q_ix_c4b32_1) rfl rfl rfl (fun _ h => (h.sub (by first | exact S0 | exact S1 | repeat (first | exact S1 | exact S0 | apply S2 | apply S3)))) H13 ?_
    clear H13; intro a14 H14
    refine htake 4 rfl (by kernel_rfl) (y_fieldB rfl z_field25_2 rfl (by first | (simp only [Nat.zero_add, Nat.add_zero, Nat.reduceAdd]; rfl) | rfl)) rfl rfl rfl (fun _ h => (h.sub (by first | exact S0 | exact S1 | repeat (first | exact S1 | exact S0 | apply S2 | apply S3)))) H14 ?_
    clear H14; intro a15 H15
    refine htake 5 rfl (by kernel_rfl) (y_loadB rfl z_agg3 rfl (by repeat (first | exact Mh | apply Mt)) q_ix_c4b32_2) rfl rfl rfl (fun _ h => (h.sub (by first | exact S0 | exact S1 | repeat (first | exact S1 | exact S0 | apply S2 | apply S3)))) H15 ?_
    clear H15; intro a16 H16
    refine htake 6 rfl (by kernel_rfl) (y_fieldB rfl z_field25_3 rfl (by first | (simp only [Nat.zero_add, Nat.add_zero, Nat.reduceAdd]; rfl) | rfl)) rfl rfl rfl (fun _ h => (h.sub (by first | exact S0 | exact S1 | repeat (first | exact S1 | exact S0 | apply S2 | apply S3)))) H16 ?_
    clear H16; intro a17 H17
    refine htake 7 rfl (by kernel_rfl) (y_loadB rfl z_agg3 rfl (by repeat (first | exact Mh | apply Mt)) q_ix_c4b32_3) rfl rfl rfl (fun _ h => (h.sub (by first | exact S0 | exact S1 | repeat (first | exact S1 | exact S0 | apply S2 | apply S3)))) H17 ?_
    clear H17; intro a18 H18
    refine htake 10 rfl (by kernel_rfl) (y_fieldB rfl z_field25_4 rfl (by first | (simp only [Nat.zero_add, Nat.add_zero, Nat.reduceAdd]; rfl) | rfl)) rfl rfl rfl (fun _ h => (h.sub (by first | exact S0 | exact S1 | repeat (first | exact S1 | exact S0 | apply S2 | apply S3)))) H18 ?_
    clear H18; intro a19 H19
    refine htake 11 rfl (by kernel_rfl) (y_slA_all rfl Tryd.underlying23 z_size5 (by decide) rfl) rfl rfl rfl (fun _ h => (h.sub (by first | exact S0 | exact S1 | repeat (first | exact S1 | exact S0 | apply S2 | apply S3)))) H19 ?_
    clear H19; intro a20 H20
    refine htake 12 rfl (by kernel_rfl) (y_bstr (p := b.tag) rfl Tryd.underlying64 Tryd.underlying5 Tryd.underlying9 rfl (by rw [wf.tag]) (rd_blk (by repeat (first | exact Mh | apply Mt)) 32 (show _ = b.tag.map u8 from ld_c (ld_c (ld_c (ld_c (ld_a (len_e wf.tag)))))))) rfl rfl rfl (fun _ h => (h.sub (by first | exact S0 | exact S1 | repeat (first | exact S1 | exact S0 | apply S2 | apply S3)))) H20 ?_
    clear H20; intro a21 H21
    refine hgo2 8 13 rfl rfl (by kernel_rfl) ?_ ?_
    · skip
      refine st_buildSlice1 (xs := [.tmp 8, .tmp 10, .tmp 12, .tmp 14]) rfl Tryd.underlying83 z_size3 z_zero3 rfl rfl rfl rfl rfl rfl rfl rfl rfl H21 ?_
      clear H21; intro b22 a22 wx22 H22
      refine hfin (H22.sep.sub (by first | exact S0 | exact S1 | repeat (first | exact S1 | exact S0 | apply S2 | apply S3))) ?_
      refine hgo2 9 13 rfl rfl (by kernel_rfl) ?_ ?_
      · skip
        refine st_call rfl z_call36 rfl rfl rfl rfl H22 (nlay [b.round, b.who, b.amount, b.salt] _ _ _ rfl (by simp) (by intro x hx; simp only [List.mem_cons, List.not_mem_nil, or_false] at hx; rcases hx with rfl | rfl | rfl | rfl <;> first | exact wf.round.2 | exact wf.who.2 | exact wf.amount.2 | exact wf.salt.2) (Rd.ofSep (rd_blkA (by repeat (first | exact Mh | apply Mt))) H22.sep)) ?_
        clear H22; intro v23 l23 a23 wx23 hf23 H23
        obtain rfl := hf23
        simp only [List.cons_append, List.nil_append] at H23
        obtain ⟨Ar23, cr23, hvr23, hRr23, hmr23⟩ := row_shape (v := v23) H23.sep (by repeat (first | exact Mh | apply Mt))
        subst hvr23
        refine hfin (H23.sep.sub (by first | exact S0 | exact S1 | repeat (first | exact S1 | exact S0 | apply S2 | apply S3))) ?_
        refine hgo 13 rfl (by kernel_rfl) ?_
        refine st_buildSlice1 (xs := [.tmp 19]) rfl Tryd.underlying49 z_size9 z_zero9 rfl rfl rfl rfl rfl rfl rfl rfl rfl H23 ?_
        clear H23; intro b24 a24 wx24 H24
        refine hfin (H24.sep.sub (by first | exact S0 | exact S1 | repeat (first | exact S1 | exact S0 | apply S2 | apply S3))) ?_
        refine hgo 14 rfl (by kernel_rfl) ?_
        refine st_append rfl z_slice49 z_notint49 rfl rfl (fun _ => (by repeat (first | exact Uh | apply Ut))) (fun w hs => Src.slice ((rd_blkA (by repeat (first | exact Mh | apply Mt))) w hs) rfl (by simp [Value.oneCell'])) (by unfold maxLen at *; first | omega | (simp only [List.length_cons, List.length_nil, List.length_append, List.length_map]; omega)) (by first | omega | (simp only [List.length_cons, List.length_nil, List.length_append, List.length_map]; omega)) rfl rfl rfl H24 ?_
        clear H24; intro v25 a25 wx25 hnil25 H25
        obtain ⟨Ar25, cr25, hvr25, hRr25, hmr25⟩ := row_shape (v := v25) H25.sep (by repeat (first | exact Mh | apply Mt))
        subst hvr25
        refine hfin (H25.sep.sub (by first | exact S0 | exact S1 | repeat (first | exact S1 | exact S0 | apply S2 | apply S3))) ?_
        refine hgo 15 rfl (by kernel_rfl) ?_
        refine st_callg rfl z_call35 rfl rfl rfl rfl H25 (nwrite [Note.num b.round, Note.num b.who, Note.num b.amount, Note.num b.salt, b.tag] _ _ _ rfl (Rd.ofSep (rd_row (by repeat (first | exact Mh | apply Mt))) H25.sep) (by simp)) ?_
        clear H25; intro a26 wx26 H26
        refine hfin (H26.sep.sub (by first | exact S0 | exact S1 | repeat (first | exact S1 | exact S0 | apply S2 | apply S3))) ?_
        refine htake 16 rfl (by kernel_rfl) (y_extract rfl rfl rfl) rfl rfl rfl (fun _ h => (h.sub (by first | exact S0 | exact S1 | repeat (first | exact S1 | exact S0 | apply S2 | apply S3)))) H26 ?_
        clear H26; intro a27 H27
        refine htake 17 rfl (by kernel_rfl) (y_extract rfl rfl rfl) rfl rfl rfl (fun _ h => (h.sub (by first | exact S0 | exact S1 | repeat (first | exact S1 | exact S0 | apply S2 | apply S3)))) H27 ?_
        clear H27; intro a28 H28
        refine htake 18 rfl (by kernel_rfl) (y_assign rfl rfl) rfl rfl rfl (fun _ h => (h.sub (by first | exact S0 | exact S1 | repeat (first | exact S1 | exact S0 | apply S2 | apply S3)))) H28 ?_
        clear H28; intro a29 H29
        refine htake 19 rfl (by kernel_rfl) (y_assign rfl rfl) rfl rfl rfl (fun _ h => (h.sub (by first | exact S0 | exact S1 | repeat (first | exact S1 | exact S0 | apply S2 | apply S3)))) H29 ?_
        clear H29; intro a30 H30
        refine hdone (by kernel_rfl) ?_
        refine then_n ?_
        refine wp_ret ?_
        -- return 2
        refine ret2 rfl H30 rfl rfl ?_
        exact ⟨_, [], rfl, ⟨by rw [Note.writeBid, hk]; rfl, rfl⟩, H30.sep.sub (List.nil_sublist _)⟩
      · skip
        refine st_buildSlice1 (xs := [.tmp 19]) rfl Tryd.underlying49 z_size9 z_zero9 rfl rfl rfl rfl rfl rfl rfl rfl rfl H22 ?_
        clear H22; intro b31 a31 wx31 H31
        refine hfin (H31.sep.sub (by first | exact S0 | exact S1 | repeat (first | exact S1 | exact S0 | apply S2 | apply S3))) ?_
        refine hgo 9 rfl (by kernel_rfl) ?_
        refine st_call rfl z_call36 rfl rfl rfl rfl H31 (nlay [b.round, b.who, b.amount, b.salt] _ _ _ rfl (by simp) (by intro x hx; simp only [List.mem_cons, List.not_mem_nil, or_false] at hx; rcases hx with rfl | rfl | rfl | rfl <;> first | exact wf.round.2 | exact wf.who.2 | exact wf.amount.2 | exact wf.salt.2) (Rd.ofSep (rd_blkA (by repeat (first | exact Mh | apply Mt))) H31.sep)) ?_
        clear H31; intro v32 l32 a32 wx32 hf32 H32
        obtain rfl := hf32
        simp only [List.cons_append, List.nil_append] at H32
        obtain ⟨Ar32, cr32, hvr32, hRr32, hmr32⟩ := row_shape (v := v32) H32.sep (by repeat (first | exact Mh | apply Mt))
        subst hvr32
        refine hfin (H32.sep.sub (by first | exact S0 | exact S1 | repeat (first | exact S1 | exact S0 | apply S2 | apply S3))) ?_
        refine hgo 14 rfl (by kernel_rfl) ?_
        refine st_append rfl z_slice49 z_notint49 rfl rfl (fun _ => (by repeat (first | exact Uh | apply Ut))) (fun w hs => Src.slice ((rd_blkA (by repeat (first | exact Mh | apply Mt))) w hs) rfl (by simp [Value.oneCell'])) (by unfold maxLen at *; first | omega | (simp only [List.length_cons, List.length_nil, List.length_append, List.length_map]; omega)) (by first | omega | (simp only [List.length_cons, List.length_nil, List.length_append, List.length_map]; omega)) rfl rfl rfl H32 ?_
        clear H32; intro v33 a33 wx33 hnil33 H33
        obtain ⟨Ar33, cr33, hvr33, hRr33, hmr33⟩ := row_shape (v := v33) H33.sep (by repeat (first | exact Mh | apply Mt))
        subst hvr33
        refine hfin (H33.sep.sub (by first | exact S0 | exact S1 | repeat (first | exact S1 | exact S0 | apply S2 | apply S3))) ?_
        refine hgo 15 rfl (by kernel_rfl) ?_
        refine st_callg rfl z_call35 rfl rfl rfl rfl H33 (nwrite [Note.num b.round, Note.num b.who, Note.num b.amount, Note.num b.salt, b.tag] _ _ _ rfl (Rd.ofSep (rd_row (by repeat (first | exact Mh | apply Mt))) H33.sep) (by simp)) ?_
        clear H33; intro a34 wx34 H34
        refine hfin (H34.sep.sub (by first | exact S0 | exact S1 | repeat (first | exact S1 | exact S0 | apply S2 | apply S3))) ?_
        refine htake 16 rfl (by kernel_rfl) (y_extract rfl rfl rfl) rfl rfl rfl (fun _ h => (h.sub (by first | exact S0 | exact S1 | repeat (first | exact S1 | exact S0 | apply S2 | apply S3)))) H34 ?_
        clear H34; intro a35 H35
        refine htake 17 rfl (by kernel_rfl) (y_extract rfl rfl rfl) rfl rfl rfl (fun _ h => (h.sub (by first | exact S0 | exact S1 | repeat (first | exact S1 | exact S0 | apply S2 | apply S3)))) H35 ?_
        clear H35; intro a36 H36
        refine htake 18 rfl (by kernel_rfl) (y_assign rfl rfl) rfl rfl rfl (fun _ h => (h.sub (by first | exact S0 | exact S1 | repeat (first | exact S1 | exact S0 | apply S2 | apply S3)))) H36 ?_
        clear H36; intro a37 H37
        refine htake 19 rfl (by kernel_rfl) (y_assign rfl rfl) rfl rfl rfl (fun _ h => (h.sub (by first | exact S0 | exact S1 | repeat (first | exact S1 | exact S0 | apply S2 | apply S3)))) H37 ?_
        clear H37; intro a38 H38
        refine hdone (by kernel_rfl) ?_
        refine then_n ?_
        refine wp_ret ?_
        -- return 3
        refine ret2 rfl H38 rfl rfl ?_
        exact ⟨_, [], rfl, ⟨by rw [Note.writeBid, hk]; rfl, rfl⟩, H38.sep.sub (List.nil_sublist _)⟩
    · skip
      refine st_buildSlice1 (xs := [.tmp 19]) rfl Tryd.underlying49 z_size9 z_zero9 rfl rfl rfl rfl rfl rfl rfl rfl rfl H21 ?_
      clear H21; intro b39 a39 wx39 H39
      refine hfin (H39.sep.sub (by first | exact S0 | exact S1 | repeat (first | exact S1 | exact S0 | apply S2 | apply S3))) ?_
      refine hgo 8 rfl (by kernel_rfl) ?_
      refine st_buildSlice1 (xs := [.tmp 8, .tmp 10, .tmp 12, .tmp 14]) rfl Tryd.underlying83 z_size3 z_zero3 rfl rfl rfl rfl rfl rfl rfl rfl rfl H39 ?_
      clear H39; intro b40 a40 wx40 H40
      refine hfin (H40.sep.sub (by first | exact S0 | exact S1 | repeat (first | exact S1 | exact S0 | apply S2 | apply S3))) ?_
      refine hgo 9 rfl (by kernel_rfl) ?_
      refine st_call rfl z_call36 rfl rfl rfl rfl H40 (nlay [b.round, b.who, b.amount, b.salt] _ _ _ rfl (by simp) (by intro x hx; simp only [List.mem_cons, List.not_mem_nil, or_false] at hx; rcases hx with rfl | rfl | rfl | rfl <;> first | exact wf.round.2 | exact wf.who.2 | exact wf.amount.2 | exact wf.salt.2) (Rd.ofSep (rd_blkA (by repeat (first | exact Mh | apply Mt))) H40.sep)) ?_
      clear H40; intro v41 l41 a41 wx41 hf41 H41
      obtain rfl := hf41
      simp only [List.cons_append, List.nil_append] at H41
      obtain ⟨Ar41, cr41, hvr41, hRr41, hmr41⟩ := row_shape (v := v41) H41.sep (by repeat (first | exact Mh | apply Mt))
      subst hvr41
      refine hfin (H41.sep.sub (by first | exact S0 | exact S1 | repeat (first | exact S1 | exact S0 | apply S2 | apply S3))) ?_
      refine hgo 14 rfl (by kernel_rfl) ?_
      refine st_append rfl z_slice49 z_notint49 rfl rfl (fun _ => (by repeat (first | exact Uh | apply Ut))) (fun w hs => Src.slice ((rd_blkA (by repeat (first | exact Mh | apply Mt))) w hs) rfl (by simp [Value.oneCell'])) (by unfold maxLen at *; first | omega | (simp only [List.length_cons, List.length_nil, List.length_append, List.length_map]; omega)) (by first | omega | (simp only [List.length_cons, List.length_nil, List.length_append, List.length_map]; omega)) rfl rfl rfl H41 ?_
      clear H41; intro v42 a42 wx42 hnil42 H42
      obtain ⟨Ar42, cr42, hvr42, hRr42, hmr42⟩ := row_shape (v := v42) H42.sep (by repeat (first | exact Mh | apply Mt))
      subst hvr42
      refine hfin (H42.sep.sub (by first | exact S0 | exact S1 | repeat (first | exact S1 | exact S0 | apply S2 | apply S3))) ?_
      refine hgo 15 rfl (by kernel_rfl) ?_
      refine st_callg rfl z_call35 rfl rfl rfl rfl H42 (nwrite [Note.num b.round, Note.num b.who, Note.num b.amount, Note.num b.salt, b.tag] _ _ _ rfl (Rd.ofSep (rd_row (by repeat (first | exact Mh | apply Mt))) H42.sep) (by simp)) ?_
      clear H42; intro a43 wx43 H43
      refine hfin (H43.sep.sub (by first | exact S0 | exact S1 | repeat (first | exact S1 | exact S0 | apply S2 | apply S3))) ?_
      refine htake 16 rfl (by kernel_rfl) (y_extract rfl rfl rfl) rfl rfl rfl (fun _ h => (h.sub (by first | exact S0 | exact S1 | repeat (first | exact S1 | exact S0 | apply S2 | apply S3)))) H43 ?_
      clear H43; intro a44 H44
      refine htake 17 rfl (by kernel_rfl) (y_extract rfl rfl rfl) rfl rfl rfl (fun _ h => (h.sub (by first | exact S0 | exact S1 | repeat (first | exact S1 | exact S0 | apply S2 | apply S3)))) H44 ?_
      clear H44; intro a45 H45
      refine htake 18 rfl (by kernel_rfl) (y_assign rfl rfl) rfl rfl rfl (fun _ h => (h.sub (by first | exact S0 | exact S1 | repeat (first | exact S1 | exact S0 | apply S2 | apply S3)))) H45 ?_
      clear H45; intro a46 H46
      refine htake 19 rfl (by kernel_rfl) (y_assign rfl rfl) rfl rfl rfl (fun _ h => (h.sub (by first | exact S0 | exact S1 | repeat (first | exact S1 | exact S0 | apply S2 | apply S3)))) H46 ?_
      clear H46; intro a47 H47
      refine hdone (by kernel_rfl) ?_
      refine then_n ?_
      refine wp_ret ?_
      -- return 4
      refine ret2 rfl H47 rfl rfl ?_
      exact ⟨_, [], rfl, ⟨by rw [Note.writeBid, hk]; rfl, rfl⟩, H47.sep.sub (List.nil_sublist _)⟩

end Go.Proofs.YtnnhnnhdoipbaaaDoor.N_Lay

set_option linter.unusedVariables false
set_option linter.unusedSimpArgs false
namespace Go.Proofs.YtnnhnnhdoipbaaaDoor.N_Eq
open Go.Sx Go.RowKit

theorem z_agg23 : aggB Tryd.prog 23 = some true := by kernel_rfl
theorem z_size23 : sizeB Tryd.prog 23 = some 32 := by kernel_rfl
theorem q_len_c4b32 {a0 a1 a2 a3 : Value} {t4 : List UInt8} (h4 : t4.length = 32) : (a0 :: a1 :: a2 :: a3 :: t4.map u8).length = 36 := (len_c (n := 35) (len_c (n := 34) (len_c (n := 33) (len_c (n := 32) (len_e (k := 32) h4)))))
theorem q_ld_c4b32_4_32 {a0 a1 a2 a3 : Value} {t4 : List UInt8} (h4 : t4.length = 32) : ((a0 :: a1 :: a2 :: a3 :: t4.map u8).drop 4).take 32 = t4.map u8 := (ld_c (o := 3) (ld_c (o := 2) (ld_c (o := 1) (ld_c (o := 0) (ld_a (len_e (k := 32) h4))))))
theorem z_size5 : sizeB Tryd.prog 5 = some 1 := by kernel_rfl
theorem z_agg3 : aggB Tryd.prog 3 = some false := by kernel_rfl
theorem q_ix_c4b32_3 {a0 a1 a2 a3 : Value} {t4 : List UInt8} : (a0 :: a1 :: a2 :: a3 :: t4.map u8)[3]? = some a3 := (ix_c (o := 2) (ix_c (o := 1) (ix_c (o := 0) ix_0)))
theorem q_ix_c4b32_2 {a0 a1 a2 a3 : Value} {t4 : List UInt8} : (a0 :: a1 :: a2 :: a3 :: t4.map u8)[2]? = some a2 := (ix_c (o := 1) (ix_c (o := 0) ix_0))
theorem q_ix_c4b32_1 {a0 a1 a2 a3 : Value} {t4 : List UInt8} : (a0 :: a1 :: a2 :: a3 :: t4.map u8)[1]? = some a1 := (ix_c (o := 0) ix_0)
theorem q_ix_c4b32_0 {a0 a1 a2 a3 : Value} {t4 : List UInt8} : (a0 :: a1 :: a2 :: a3 :: t4.map u8)[0]? = some a0 := ix_0
theorem q_len_c4b32b32 {a0 a1 a2 a3 : Value} {t4 t5 : List UInt8} (h4 : t4.length = 32) (h5 : t5.length = 32) : (a0 :: a1 :: a2 :: a3 :: (t4.map u8 ++ (t5.map u8))).length = 68 := (len_c (n := 67) (len_c (n := 66) (len_c (n := 65) (len_c (n := 64) (len_b (k := 32) (n := 32) h4 (len_e (k := 32) h5))))))
theorem q_ld_c4b32b32_36_32 {a0 a1 a2 a3 : Value} {t4 t5 : List UInt8} (h4 : t4.length = 32) (h5 : t5.length = 32) : ((a0 :: a1 :: a2 :: a3 :: (t4.map u8 ++ (t5.map u8))).drop 36).take 32 = t5.map u8 := (ld_c (o := 35) (ld_c (o := 34) (ld_c (o := 33) (ld_c (o := 32) (ld_b (k := 32) (o := 0) h4 rfl (ld_a (len_e (k := 32) h5)))))))
theorem q_ld_c4b32b32_4_32 {a0 a1 a2 a3 : Value} {t4 t5 : List UInt8} (h4 : t4.length = 32) : ((a0 :: a1 :: a2 :: a3 :: (t4.map u8 ++ (t5.map u8))).drop 4).take 32 = t4.map u8 := (ld_c (o := 3) (ld_c (o := 2) (ld_c (o := 1) (ld_c (o := 0) (ld_h h4)))))
theorem z_agg9 : aggB Tryd.prog 9 = some false := by kernel_rfl
theorem q_ix_c4b32b32_3 {a0 a1 a2 a3 : Value} {t4 t5 : List UInt8} : (a0 :: a1 :: a2 :: a3 :: (t4.map u8 ++ (t5.map u8)))[3]? = some a3 := (ix_c (o := 2) (ix_c (o := 1) (ix_c (o := 0) ix_0)))
theorem q_ix_c4b32b32_2 {a0 a1 a2 a3 : Value} {t4 t5 : List UInt8} : (a0 :: a1 :: a2 :: a3 :: (t4.map u8 ++ (t5.map u8)))[2]? = some a2 := (ix_c (o := 1) (ix_c (o := 0) ix_0))
theorem q_ix_c4b32b32_1 {a0 a1 a2 a3 : Value} {t4 t5 : List UInt8} : (a0 :: a1 :: a2 :: a3 :: (t4.map u8 ++ (t5.map u8)))[1]? = some a1 := (ix_c (o := 0) ix_0)
theorem q_ix_c4b32b32_0 {a0 a1 a2 a3 : Value} {t4 t5 : List UInt8} : (a0 :: a1 :: a2 :: a3 :: (t4.map u8 ++ (t5.map u8)))[0]? = some a0 := ix_0
theorem eqr_Bid (x y : Note.Bid) (hx_tag : x.tag.length = 32) (hy_tag : y.tag.length = 32) : EqR Tryd.prog 10000 25 (.agg (Note.Bid.cells x).toArray) (.agg (Note.Bid.cells y).toArray) (decide (x = y)) := by
  have h : EqR Tryd.prog 10000 25 (.agg (Note.Bid.cells x).toArray) (.agg (Note.Bid.cells y).toArray) (decide (x.round = y.round) && (decide (x.who = y.who) && (decide (x.amount = y.amount) && (decide (x.salt = y.salt) && (decide (x.tag = y.tag) && true))))) := eqr_struct Tryd.underlying25 (by kernel_rfl) (eqf_c (by decide) (pa_1 z_agg3 q_ix_c4b32_0) (pa_1 z_agg3 q_ix_c4b32_0) (eqr_int Tryd.underlying3) (eqf_c (by decide) (pa_1 z_agg3 q_ix_c4b32_1) (pa_1 z_agg3 q_ix_c4b32_1) (eqr_int Tryd.underlying3) (eqf_c (by decide) (pa_1 z_agg3 q_ix_c4b32_2) (pa_1 z_agg3 q_ix_c4b32_2) (eqr_int Tryd.underlying3) (eqf_c (by decide) (pa_1 z_agg3 q_ix_c4b32_3) (pa_1 z_agg3 q_ix_c4b32_3) (eqr_int Tryd.underlying3) (eqf_c (by decide) (pa_a z_agg23 z_size23 (q_len_c4b32 (by assumption)) (by decide) (q_ld_c4b32_4_32 (by assumption))) (pa_a z_agg23 z_size23 (q_len_c4b32 (by assumption)) (by decide) (q_ld_c4b32_4_32 (by assumption))) (eqr_bytes Tryd.underlying23 Tryd.underlying5 z_size5 hx_tag hy_tag) eqf_n)))))
  have e : decide (x = y) = (decide (x.round = y.round) && (decide (x.who = y.who) && (decide (x.amount = y.amount) && (decide (x.salt = y.salt) && (decide (x.tag = y.tag) && true))))) := by
    rw [Bool.eq_iff_iff]
    cases x
    cases y
    simp
  rw [e]
  exact h
theorem eqr_Receipt (x y : Note.Receipt) (hx_prev : x.prev.length = 32) (hy_prev : y.prev.length = 32) (hx_hash : x.hash.length = 32) (hy_hash : y.hash.length = 32) : EqR Tryd.prog 10000 35 (.agg (Note.Receipt.cells x).toArray) (.agg (Note.Receipt.cells y).toArray) (decide (x = y)) := by
  have h : EqR Tryd.prog 10000 35 (.agg (Note.Receipt.cells x).toArray) (.agg (Note.Receipt.cells y).toArray) (decide (x.index = y.index) && (decide (x.kind = y.kind) && (decide (x.time = y.time) && (decide (x.body = y.body) && (decide (x.prev = y.prev) && (decide (x.hash = y.hash) && true)))))) := eqr_struct Tryd.underlying35 (by kernel_rfl) (eqf_c (by decide) (pa_1 z_agg3 q_ix_c4b32b32_0) (pa_1 z_agg3 q_ix_c4b32b32_0) (eqr_int Tryd.underlying3) (eqf_c (by decide) (pa_1 z_agg3 q_ix_c4b32b32_1) (pa_1 z_agg3 q_ix_c4b32b32_1) (eqr_int Tryd.underlying3) (eqf_c (by decide) (pa_1 z_agg3 q_ix_c4b32b32_2) (pa_1 z_agg3 q_ix_c4b32b32_2) (eqr_int Tryd.underlying3) (eqf_c (by decide) (pa_1 z_agg9 q_ix_c4b32b32_3) (pa_1 z_agg9 q_ix_c4b32b32_3) (eqr_str Tryd.underlying9) (eqf_c (by decide) (pa_a z_agg23 z_size23 (q_len_c4b32b32 (by assumption) (by assumption)) (by decide) (q_ld_c4b32b32_4_32 (by assumption))) (pa_a z_agg23 z_size23 (q_len_c4b32b32 (by assumption) (by assumption)) (by decide) (q_ld_c4b32b32_4_32 (by assumption))) (eqr_bytes Tryd.underlying23 Tryd.underlying5 z_size5 hx_prev hy_prev) (eqf_c (by decide) (pa_a z_agg23 z_size23 (q_len_c4b32b32 (by assumption) (by assumption)) (by decide) (q_ld_c4b32b32_36_32 (by assumption) (by assumption))) (pa_a z_agg23 z_size23 (q_len_c4b32b32 (by assumption) (by assumption)) (by decide) (q_ld_c4b32b32_36_32 (by assumption) (by assumption))) (eqr_bytes Tryd.underlying23 Tryd.underlying5 z_size5 hx_hash hy_hash) eqf_n))))))
  have e : decide (x = y) = (decide (x.index = y.index) && (decide (x.kind = y.kind) && (decide (x.time = y.time) && (decide (x.body = y.body) && (decide (x.prev = y.prev) && (decide (x.hash = y.hash) && true)))))) := by
    rw [Bool.eq_iff_iff]
    cases x
    cases y
    simp
  rw [e]
  exact h
end Go.Proofs.YtnnhnnhdoipbaaaDoor.N_Eq

set_option linter.unusedVariables false
set_option linter.unusedSimpArgs false
namespace Go.Proofs.YtnnhnnhdoipbaaaDoor.N_Ref0
open Go.Sx Go.RowKit Go.Proofs.YtnnhnnhdoipbaaaDoor.N_Num Go.Proofs.YtnnhnnhdoipbaaaDoor.N_Read Go.Proofs.YtnnhnnhdoipbaaaDoor.N_Lay

theorem z_call58 : callB Tryd.prog 58 = true := by kernel_rfl
theorem z_zeroN23 : zeroL Tryd.prog 23 = some ((List.replicate 32 (0 : UInt8)).map u8) := by kernel_rfl
theorem z_size5 : sizeB Tryd.prog 5 = some 1 := by kernel_rfl
theorem z_size23 : sizeB Tryd.prog 23 = some 32 := by kernel_rfl
theorem q_one_b32 {t0 : List UInt8} : (t0.map u8).all (·.oneCell') = true := (one_u8 _)
theorem q_len_b32 {t0 : List UInt8} (h0 : t0.length = 32) : (t0.map u8).length = 32 := (len_e (k := 32) h0)
theorem q_spl_b32_0_b32 {t0 : List UInt8} {s0 : List UInt8} (h0 : t0.length = 32) (g0 : s0.length = 32) : spl (t0.map u8) 0 (s0.map u8) = s0.map u8 := (spl_a (z := 32) (len_e (k := 32) h0) (len_e (k := 32) g0))
theorem z_agg23 : aggB Tryd.prog 23 = some true := by kernel_rfl
theorem z_size9 : sizeB Tryd.prog 9 = some 1 := by kernel_rfl
theorem z_agg9 : aggB Tryd.prog 9 = some false := by kernel_rfl
theorem z_size3 : sizeB Tryd.prog 3 = some 1 := by kernel_rfl
theorem z_zero3 : zeroL Tryd.prog 3 = some ([.int .i64 0]) := by kernel_rfl
set_option maxRecDepth 100000 in
set_option maxHeartbeats 1000000 in
theorem rwithin (n k : Int) (w : World) : Calls Tryd.prog 45 #[.int .i64 n, .int .i64 k] w (Gives (.bool (decide (0 ≤ n ∧ n ≤ k))) [] w) := by
  have lz32 : (List.replicate 32 (0 : UInt8)).length = 32 := List.length_replicate
  refine enterL (args := [.int .i64 n, .int .i64 k]) Tryd.func45 rfl rfl (l := []) (Sep.refl _) ?_
  intro a0 H0
  refine wp_seq ?_
  refine reg ?_
  refine plain (y_assign rfl rfl) rfl rfl rfl H0 ?_
  clear H0; intro a1 H1
  refine fin ?_
  refine then_n ?_
  refine wp_seq ?_
  refine reg ?_
  refine plain (y_move rfl rfl) rfl rfl rfl H1 ?_
  clear H1; intro a2 H2
  refine plain (y_geq rfl rfl rfl) rfl rfl rfl H2 ?_
  clear H2; intro a3 H3
  refine plain (y_move rfl rfl) rfl rfl rfl H3 ?_
  clear H3; intro a4 H4
  refine Sx.part (d := 7) H4 rfl (fun hg5 => ?_) (fun hg5 => ?_)
  · first
    | fail
    | skip
      clear H4; intro H6
      try simp only [decide_eq_true_eq, decide_eq_false_iff_not, Bool.not_eq_true', Bool.not_eq_false', Bool.and_eq_true, Bool.not_eq_true, Bool.not_eq_false] at hg5
      refine plain (y_move rfl rfl) rfl rfl rfl H6 ?_
      clear H6; intro a7 H7
      refine plain (y_move rfl rfl) rfl rfl rfl H7 ?_
      clear H7; intro a8 H8
      refine plain (y_leq rfl rfl rfl) rfl rfl rfl H8 ?_
      clear H8; intro a9 H9
      refine plain (y_pick_t rfl rfl rfl) rfl rfl rfl H9 ?_
      clear H9; intro a10 H10
      refine plain (y_assign rfl rfl) rfl rfl rfl H10 ?_
      clear H10; intro a11 H11
      refine fin ?_
      refine then_n ?_
      refine wp_ret ?_
      -- return 1
      refine ret1 rfl H11 rfl ?_
      refine ⟨_, [], rfl, ⟨?_, rfl⟩, H11.sep.sub (List.nil_sublist _)⟩
      clear H11
      first | exact congrArg Value.bool (decide_eq_decide.2 (by omega)) | exact congrArg Value.bool (decide_eq_false (by omega)).symm
  · first
    | fail
    | skip
      clear H4; intro H12
      try simp only [decide_eq_true_eq, decide_eq_false_iff_not, Bool.not_eq_true', Bool.not_eq_false', Bool.and_eq_true, Bool.not_eq_true, Bool.not_eq_false] at hg5
      refine skip rfl rfl rfl H12 ?_
      clear H12; intro a13 H13
      refine skip rfl rfl rfl H13 ?_
      clear H13; intro a14 H14
      refine skip rfl rfl rfl H14 ?_
      clear H14; intro a15 H15
      refine plain (y_pick_f rfl rfl rfl) rfl rfl rfl H15 ?_
      clear H15; intro a16 H16
      refine plain (y_assign rfl rfl) rfl rfl rfl H16 ?_
      clear H16; intro a17 H17
      refine fin ?_
      refine then_n ?_
      refine wp_ret ?_
      -- return 2
      refine ret1 rfl H17 rfl ?_
      refine ⟨_, [], rfl, ⟨?_, rfl⟩, H17.sep.sub (List.nil_sublist _)⟩
      clear H17
      first | exact congrArg Value.bool (decide_eq_decide.2 (by omega)) | exact congrArg Value.bool (decide_eq_false (by omega)).symm
set_option maxRecDepth 100000 in
set_option maxHeartbeats 1000000 in
theorem rtext (n : Int) (hn : n ≤ 9223372036854775807) (w : World) : Calls Tryd.prog 39 #[.int .i64 n] w (Gives (str (Note.num n)) [] w) := by
  have lz32 : (List.replicate 32 (0 : UInt8)).length = 32 := List.length_replicate
  refine enterL (args := [.int .i64 n]) Tryd.func39 rfl rfl (l := []) (Sep.refl _) ?_
  intro a0 H0
  refine wp_seq ?_
  refine reg ?_
  refine plain (y_assign rfl rfl) rfl rfl rfl H0 ?_
  clear H0; intro a1 H1
  refine fin ?_
  refine then_n ?_
  refine wp_seq ?_
  refine reg ?_
  refine plain (y_move rfl rfl) rfl rfl rfl H1 ?_
  clear H1; intro a2 H2
  refine st_callg rfl z_call58 rfl rfl rfl rfl H2 (numR n hn _) ?_
  clear H2; intro a3 wx3 H3
  refine plain (y_move rfl rfl) rfl rfl rfl H3 ?_
  clear H3; intro a4 H4
  refine plain (y_extract rfl rfl rfl) rfl rfl rfl H4 ?_
  clear H4; intro a5 H5
  refine plain (y_extract rfl rfl rfl) rfl rfl rfl H5 ?_
  clear H5; intro a6 H6
  refine plain (y_assign rfl rfl) rfl rfl rfl H6 ?_
  clear H6; intro a7 H7
  refine plain (y_assign rfl rfl) rfl rfl rfl H7 ?_
  clear H7; intro a8 H8
  refine fin ?_
  refine then_n ?_
  refine wp_seq ?_
  refine reg ?_
  refine plain (y_move rfl rfl) rfl rfl rfl H8 ?_
  clear H8; intro a9 H9
  refine plain (y_assign rfl rfl) rfl rfl rfl H9 ?_
  clear H9; intro a10 H10
  refine fin ?_
  refine then_n ?_
  refine wp_ret ?_
  -- return 1
  refine ret1 rfl H10 rfl ?_
  exact ⟨_, [], rfl, ⟨rfl, rfl⟩, H10.sep.sub (List.nil_sublist _)⟩
end Go.Proofs.YtnnhnnhdoipbaaaDoor.N_Ref0

set_option linter.unusedVariables false
set_option linter.unusedSimpArgs false
namespace Go.Proofs.YtnnhnnhdoipbaaaDoor.N_Rec
open Go.Sx Go.RowKit Go.Proofs.YtnnhnnhdoipbaaaDoor.N_Block Go.Proofs.YtnnhnnhdoipbaaaDoor.N_Sum Go.Proofs.YtnnhnnhdoipbaaaDoor.N_Ref Go.Proofs.YtnnhnnhdoipbaaaDoor.N_RSum Go.Proofs.YtnnhnnhdoipbaaaDoor.N_Leaf Go.Proofs.YtnnhnnhdoipbaaaDoor.N_Num Go.Proofs.YtnnhnnhdoipbaaaDoor.N_Key Go.Proofs.YtnnhnnhdoipbaaaDoor.N_Lay

theorem z_field35_0 : fieldB Tryd.prog 35 0 = some 0 := by kernel_rfl
theorem z_agg3 : aggB Tryd.prog 3 = some false := by kernel_rfl
theorem q_ix_c4b32b32_0 {a0 a1 a2 a3 : Value} {t4 t5 : List UInt8} : (a0 :: a1 :: a2 :: a3 :: (t4.map u8 ++ (t5.map u8)))[0]? = some a0 := ix_0
theorem z_field35_2 : fieldB Tryd.prog 35 2 = some 2 := by kernel_rfl
theorem q_ix_c4b32b32_2 {a0 a1 a2 a3 : Value} {t4 t5 : List UInt8} : (a0 :: a1 :: a2 :: a3 :: (t4.map u8 ++ (t5.map u8)))[2]? = some a2 := (ix_c (o := 1) (ix_c (o := 0) ix_0))
theorem z_size3 : sizeB Tryd.prog 3 = some 1 := by kernel_rfl
theorem z_zero3 : zeroL Tryd.prog 3 = some ([.int .i64 0]) := by kernel_rfl
theorem z_call47 : callB Tryd.prog 47 = true := by kernel_rfl
theorem z_field35_1 : fieldB Tryd.prog 35 1 = some 1 := by kernel_rfl
theorem q_ix_c4b32b32_1 {a0 a1 a2 a3 : Value} {t4 t5 : List UInt8} : (a0 :: a1 :: a2 :: a3 :: (t4.map u8 ++ (t5.map u8)))[1]? = some a1 := (ix_c (o := 0) ix_0)
theorem z_field35_3 : fieldB Tryd.prog 35 3 = some 3 := by kernel_rfl
theorem z_agg9 : aggB Tryd.prog 9 = some false := by kernel_rfl
theorem q_ix_c4b32b32_3 {a0 a1 a2 a3 : Value} {t4 t5 : List UInt8} : (a0 :: a1 :: a2 :: a3 :: (t4.map u8 ++ (t5.map u8)))[3]? = some a3 := (ix_c (o := 2) (ix_c (o := 1) (ix_c (o := 0) ix_0)))
theorem z_zeroN23 : zeroL Tryd.prog 23 = some ((List.replicate 32 (0 : UInt8)).map u8) := by kernel_rfl
theorem z_call36 : callB Tryd.prog 36 = true := by kernel_rfl
theorem z_size9 : sizeB Tryd.prog 9 = some 1 := by kernel_rfl
theorem z_zero9 : zeroL Tryd.prog 9 = some ([.string ⟨#[]⟩]) := by kernel_rfl
theorem z_slice49 : sliceB Tryd.prog 49 = some (9, 1, 16) := by kernel_rfl
theorem z_notint49 : notIntB Tryd.prog 49 = true := by kernel_rfl
theorem z_call35 : callB Tryd.prog 35 = true := by kernel_rfl
theorem z_field35_4 : fieldB Tryd.prog 35 4 = some 4 := by kernel_rfl
theorem z_agg23 : aggB Tryd.prog 23 = some true := by kernel_rfl
theorem z_size23 : sizeB Tryd.prog 23 = some 32 := by kernel_rfl
theorem q_ld_c4b32b32_4_32 {a0 a1 a2 a3 : Value} {t4 t5 : List UInt8} (h4 : t4.length = 32) : ((a0 :: a1 :: a2 :: a3 :: (t4.map u8 ++ (t5.map u8))).drop 4).take 32 = t4.map u8 := (ld_c (o := 3) (ld_c (o := 2) (ld_c (o := 1) (ld_c (o := 0) (ld_h h4)))))
theorem q_len_b32 {t0 : List UInt8} (h0 : t0.length = 32) : (t0.map u8).length = 32 := (len_e (k := 32) h0)
theorem z_call62 : callB Tryd.prog 62 = true := by kernel_rfl
theorem q_one_b32 {t0 : List UInt8} : (t0.map u8).all (·.oneCell') = true := (one_u8 _)
theorem q_spl_b32_0_b32 {t0 : List UInt8} {s0 : List UInt8} (h0 : t0.length = 32) (g0 : s0.length = 32) : spl (t0.map u8) 0 (s0.map u8) = s0.map u8 := (spl_a (z := 32) (len_e (k := 32) h0) (len_e (k := 32) g0))
theorem z_zeroN35 : zeroL Tryd.prog 35 = some ((.int .i64 0 :: (.int .i64 0 :: (.int .i64 0 :: (.string ⟨#[]⟩ :: ((List.replicate 32 (0 : UInt8)).map u8 ++ (List.replicate 32 (0 : UInt8)).map u8)))))) := by kernel_rfl
theorem q_ld_b32_0_32 {t0 : List UInt8} (h0 : t0.length = 32) : ((t0.map u8).drop 0).take 32 = t0.map u8 := (ld_a (len_e (k := 32) h0))
theorem z_places35 : placesB Tryd.prog 35 = some [(0, 1), (1, 1), (2, 1), (3, 1), (4, 32), (36, 32)] := by kernel_rfl
theorem q_len_c4b32b32 {a0 a1 a2 a3 : Value} {t4 t5 : List UInt8} (h4 : t4.length = 32) (h5 : t5.length = 32) : (a0 :: a1 :: a2 :: a3 :: (t4.map u8 ++ (t5.map u8))).length = 68 := (len_c (n := 67) (len_c (n := 66) (len_c (n := 65) (len_c (n := 64) (len_b (k := 32) (n := 32) h4 (len_e (k := 32) h5))))))
theorem q_spl_c4b32b32_0_c1 {a0 a1 a2 a3 : Value} {t4 t5 : List UInt8} {b0 : Value} : spl (a0 :: a1 :: a2 :: a3 :: (t4.map u8 ++ (t5.map u8))) 0 (b0 :: []) = b0 :: a1 :: a2 :: a3 :: (t4.map u8 ++ (t5.map u8)) := spl_0
theorem q_spl_c4b32b32_1_c1 {a0 a1 a2 a3 : Value} {t4 t5 : List UInt8} {b0 : Value} : spl (a0 :: a1 :: a2 :: a3 :: (t4.map u8 ++ (t5.map u8))) 1 (b0 :: []) = a0 :: b0 :: a2 :: a3 :: (t4.map u8 ++ (t5.map u8)) := (spl_c (o := 0) spl_0)
theorem q_spl_c4b32b32_2_c1 {a0 a1 a2 a3 : Value} {t4 t5 : List UInt8} {b0 : Value} : spl (a0 :: a1 :: a2 :: a3 :: (t4.map u8 ++ (t5.map u8))) 2 (b0 :: []) = a0 :: a1 :: b0 :: a3 :: (t4.map u8 ++ (t5.map u8)) := (spl_c (o := 1) (spl_c (o := 0) spl_0))
theorem q_spl_c4b32b32_3_c1 {a0 a1 a2 a3 : Value} {t4 t5 : List UInt8} {b0 : Value} : spl (a0 :: a1 :: a2 :: a3 :: (t4.map u8 ++ (t5.map u8))) 3 (b0 :: []) = a0 :: a1 :: a2 :: b0 :: (t4.map u8 ++ (t5.map u8)) := (spl_c (o := 2) (spl_c (o := 1) (spl_c (o := 0) spl_0)))
theorem q_spl_c4b32b32_4_b32 {a0 a1 a2 a3 : Value} {t4 t5 : List UInt8} {s0 : List UInt8} (h4 : t4.length = 32) (g0 : s0.length = 32) : spl (a0 :: a1 :: a2 :: a3 :: (t4.map u8 ++ (t5.map u8))) 4 (s0.map u8) = a0 :: a1 :: a2 :: a3 :: (s0.map u8 ++ (t5.map u8)) := (spl_c (o := 3) (spl_c (o := 2) (spl_c (o := 1) (spl_c (o := 0) (spl_h (z := 32) (len_e h4) (len_e g0))))))
theorem z_size35 : sizeB Tryd.prog 35 = some 68 := by kernel_rfl
theorem q_one_c4b32b32 {a0 a1 a2 a3 : Value} {t4 t5 : List UInt8} (o0 : a0.oneCell' = true) (o1 : a1.oneCell' = true) (o2 : a2.oneCell' = true) (o3 : a3.oneCell' = true) : (a0 :: a1 :: a2 :: a3 :: (t4.map u8 ++ (t5.map u8))).all (·.oneCell') = true := (one_c o0 (one_c o1 (one_c o2 (one_c o3 (one_b (one_u8 _))))))
theorem q_spl_c4b32b32_0_c4b32b32 {a0 a1 a2 a3 : Value} {t4 t5 : List UInt8} {b0 b1 b2 b3 : Value} {s4 s5 : List UInt8} (h4 : t4.length = 32) (h5 : t5.length = 32) (g4 : s4.length = 32) (g5 : s5.length = 32) : spl (a0 :: a1 :: a2 :: a3 :: (t4.map u8 ++ (t5.map u8))) 0 (b0 :: b1 :: b2 :: b3 :: (s4.map u8 ++ (s5.map u8))) = b0 :: b1 :: b2 :: b3 :: (s4.map u8 ++ (s5.map u8)) := (spl_a (z := 68) (len_c (n := 67) (len_c (n := 66) (len_c (n := 65) (len_c (n := 64) (len_b (k := 32) (n := 32) h4 (len_e (k := 32) h5)))))) (len_c (n := 67) (len_c (n := 66) (len_c (n := 65) (len_c (n := 64) (len_b (k := 32) (n := 32) g4 (len_e (k := 32) g5)))))))
theorem z_agg35 : aggB Tryd.prog 35 = some true := by kernel_rfl
theorem q_ld_c4b32b32_0_68 {a0 a1 a2 a3 : Value} {t4 t5 : List UInt8} (h4 : t4.length = 32) (h5 : t5.length = 32) : ((a0 :: a1 :: a2 :: a3 :: (t4.map u8 ++ (t5.map u8))).drop 0).take 68 = a0 :: a1 :: a2 :: a3 :: (t4.map u8 ++ (t5.map u8)) := (ld_a (len_c (n := 67) (len_c (n := 66) (len_c (n := 65) (len_c (n := 64) (len_b (k := 32) (n := 32) h4 (len_e (k := 32) h5)))))))
theorem z_call43 : callB Tryd.prog 43 = true := by kernel_rfl
theorem z_call44 : callB Tryd.prog 44 = true := by kernel_rfl
theorem z_field35_5 : fieldB Tryd.prog 35 5 = some 36 := by kernel_rfl
theorem q_spl_c4b32b32_36_b32 {a0 a1 a2 a3 : Value} {t4 t5 : List UInt8} {s0 : List UInt8} (h4 : t4.length = 32) (h5 : t5.length = 32) (g0 : s0.length = 32) : spl (a0 :: a1 :: a2 :: a3 :: (t4.map u8 ++ (t5.map u8))) 36 (s0.map u8) = a0 :: a1 :: a2 :: a3 :: (t4.map u8 ++ (s0.map u8)) := (spl_c (o := 35) (spl_c (o := 34) (spl_c (o := 33) (spl_c (o := 32) (spl_b (k := 32) (o := 0) h4 rfl (spl_a (z := 32) (len_e (k := 32) h5) (len_e (k := 32) g0)))))))
theorem q_ld_c4b32b32_36_32 {a0 a1 a2 a3 : Value} {t4 t5 : List UInt8} (h4 : t4.length = 32) (h5 : t5.length = 32) : ((a0 :: a1 :: a2 :: a3 :: (t4.map u8 ++ (t5.map u8))).drop 36).take 32 = t5.map u8 := (ld_c (o := 35) (ld_c (o := 34) (ld_c (o := 33) (ld_c (o := 32) (ld_b (k := 32) (o := 0) h4 rfl (ld_a (len_e (k := 32) h5)))))))
theorem z_size5 : sizeB Tryd.prog 5 = some 1 := by kernel_rfl

set_option maxRecDepth 100000 in
set_option maxHeartbeats 1000000 in
theorem nreceipt (r : Note.Receipt) (wf : Note.Receipt.Wf r) (w : World) : Calls Tryd.prog 43 #[.agg (Note.Receipt.cells r).toArray] w (Gives (.bool r.ok) [] w) := by
  have lz32 : (List.replicate 32 (0 : UInt8)).length = 32 := List.length_replicate
  have lz0 := wf.prev
  have lz1 := wf.hash
  refine enterL (args := [.agg (Note.Receipt.cells r).toArray]) Tryd.func43 rfl rfl (l := []) (Sep.refl _) ?_
  intro a0 H0
  refine wp_seq ?_
  refine reg ?_
  refine st_box rfl rfl (agg_cells _) rfl rfl rfl H0 ?_
  clear H0; intro b1 a1 wx1 H1
  refine plain (y_assign rfl rfl) rfl rfl rfl H1 ?_
  clear H1; intro a2 H2
  refine fin ?_
  refine then_n ?_
  refine wp_seq ?_
  refine reg ?_
  refine plain (y_fieldB rfl z_field35_0 rfl (by first | (simp only [Nat.zero_add, Nat.add_zero, Nat.reduceAdd]; rfl) | rfl)) rfl rfl rfl H2 ?_
  clear H2; intro a3 H3
  refine plain (y_loadB rfl z_agg3 rfl (by repeat (first | exact Mh | apply Mt)) q_ix_c4b32b32_0) rfl rfl rfl H3 ?_
  clear H3; intro a4 H4
  refine plain (y_fieldB rfl z_field35_2 rfl (by first | (simp only [Nat.zero_add, Nat.add_zero, Nat.reduceAdd]; rfl) | rfl)) rfl rfl rfl H4 ?_
  clear H4; intro a5 H5
  refine plain (y_loadB rfl z_agg3 rfl (by repeat (first | exact Mh | apply Mt)) q_ix_c4b32b32_2) rfl rfl rfl H5 ?_
  clear H5; intro a6 H6
  refine st_buildSlice1 (xs := [.tmp 4, .tmp 6]) rfl Tryd.underlying83 z_size3 z_zero3 rfl rfl rfl rfl rfl rfl rfl rfl rfl H6 ?_
  clear H6; intro b7 a7 wx7 H7
  refine st_callg rfl z_call47 rfl rfl rfl rfl H7 (nnum [r.index, r.time] _ _ _ rfl (by simp) (Rd.ofSep (rd_blkA (by repeat (first | exact Mh | apply Mt))) H7.sep)) ?_
  clear H7; intro a8 wx8 H8
  rw [Note.nums2] at H8
  refine plain (y_move rfl rfl) rfl rfl rfl H8 ?_
  clear H8; intro a9 H9
  refine Sx.part (d := 9) H9 rfl (fun hg10 => ?_) (fun hg10 => ?_)
  · first
    | fail
    | skip
      clear H9; intro H11
      try simp only [decide_eq_true_eq, decide_eq_false_iff_not, Bool.not_eq_true', Bool.not_eq_false', Bool.and_eq_true, Bool.not_eq_true, Bool.not_eq_false] at hg10
      refine plain (y_fieldB rfl z_field35_1 rfl (by first | (simp only [Nat.zero_add, Nat.add_zero, Nat.reduceAdd]; rfl) | rfl)) rfl rfl rfl H11 ?_
      clear H11; intro a12 H12
      refine plain (y_loadB rfl z_agg3 rfl (by repeat (first | exact Mh | apply Mt)) q_ix_c4b32b32_1) rfl rfl rfl H12 ?_
      clear H12; intro a13 H13
      refine plain (y_eql rfl rfl rfl) rfl rfl rfl H13 ?_
      clear H13; intro a14 H14
      refine plain (y_move rfl rfl) rfl rfl rfl H14 ?_
      clear H14; intro a15 H15
      refine Sx.part (d := 13) H15 rfl (fun hg16 => ?_) (fun hg16 => ?_)
      · first
        | fail
        | skip
          clear H15; intro H17
          try simp only [decide_eq_true_eq, decide_eq_false_iff_not, Bool.not_eq_true', Bool.not_eq_false', Bool.and_eq_true, Bool.not_eq_true, Bool.not_eq_false] at hg16
          refine skip rfl rfl rfl H17 ?_
          clear H17; intro a18 H18
          refine skip rfl rfl rfl H18 ?_
          clear H18; intro a19 H19
          refine skip rfl rfl rfl H19 ?_
          clear H19; intro a20 H20
          refine plain (y_pick_t rfl rfl rfl) rfl rfl rfl H20 ?_
          clear H20; intro a21 H21
          refine plain (y_pick_t rfl rfl rfl) rfl rfl rfl H21 ?_
          clear H21; intro a22 H22
          refine plain (y_move rfl rfl) rfl rfl rfl H22 ?_
          clear H22; intro a23 H23
          refine plain (y_fieldB rfl z_field35_3 rfl (by first | (simp only [Nat.zero_add, Nat.add_zero, Nat.reduceAdd]; rfl) | rfl)) rfl rfl rfl H23 ?_
          clear H23; intro a24 H24
          refine plain (y_loadB rfl z_agg9 rfl (by repeat (first | exact Mh | apply Mt)) q_ix_c4b32b32_3) rfl rfl rfl H24 ?_
          clear H24; intro a25 H25
          refine plain (y_slen rfl Tryd.underlying9 rfl) rfl rfl rfl H25 ?_
          clear H25; intro a26 H26
          refine plain (y_leq rfl rfl rfl) rfl rfl rfl H26 ?_
          clear H26; intro a27 H27
          refine plain (y_pick_t rfl rfl rfl) rfl rfl rfl H27 ?_
          clear H27; intro a28 H28
          refine plain (y_assign rfl rfl) rfl rfl rfl H28 ?_
          clear H28; intro a29 H29
          refine fin ?_
          refine then_n ?_
          refine wp_ret ?_
          -- return 1
          refine ret1 rfl H29 rfl ?_
          refine ⟨_, [], rfl, ⟨?_, rfl⟩, H29.sep.sub (List.nil_sublist _)⟩
          clear H29
          rw [Note.Receipt.ok_is]
          first | exact congrArg Value.bool (decide_eq_decide.2 (by omega)) | exact congrArg Value.bool (decide_eq_false (by omega)).symm | exact congrArg Value.bool (decide_eq_true (by omega)).symm
      · first
        | fail
        | skip
          clear H15; intro H30
          try simp only [decide_eq_true_eq, decide_eq_false_iff_not, Bool.not_eq_true', Bool.not_eq_false', Bool.and_eq_true, Bool.not_eq_true, Bool.not_eq_false] at hg16
          refine plain (y_fieldB rfl z_field35_1 rfl (by first | (simp only [Nat.zero_add, Nat.add_zero, Nat.reduceAdd]; rfl) | rfl)) rfl rfl rfl H30 ?_
          clear H30; intro a31 H31
          refine plain (y_loadB rfl z_agg3 rfl (by repeat (first | exact Mh | apply Mt)) q_ix_c4b32b32_1) rfl rfl rfl H31 ?_
          clear H31; intro a32 H32
          refine plain (y_eql rfl rfl rfl) rfl rfl rfl H32 ?_
          clear H32; intro a33 H33
          refine plain (y_pick_f rfl rfl rfl) rfl rfl rfl H33 ?_
          clear H33; intro a34 H34
          refine plain (y_pick_t rfl rfl rfl) rfl rfl rfl H34 ?_
          clear H34; intro a35 H35
          refine plain (y_move rfl rfl) rfl rfl rfl H35 ?_
          clear H35; intro a36 H36
          refine Sx.part (d := 19) H36 rfl (fun hg37 => ?_) (fun hg37 => ?_)
          · first
            | fail
            | skip
              clear H36; intro H38
              try simp only [decide_eq_true_eq, decide_eq_false_iff_not, Bool.not_eq_true', Bool.not_eq_false', Bool.and_eq_true, Bool.not_eq_true, Bool.not_eq_false] at hg37
              refine plain (y_fieldB rfl z_field35_3 rfl (by first | (simp only [Nat.zero_add, Nat.add_zero, Nat.reduceAdd]; rfl) | rfl)) rfl rfl rfl H38 ?_
              clear H38; intro a39 H39
              refine plain (y_loadB rfl z_agg9 rfl (by repeat (first | exact Mh | apply Mt)) q_ix_c4b32b32_3) rfl rfl rfl H39 ?_
              clear H39; intro a40 H40
              refine plain (y_slen rfl Tryd.underlying9 rfl) rfl rfl rfl H40 ?_
              clear H40; intro a41 H41
              refine plain (y_leq rfl rfl rfl) rfl rfl rfl H41 ?_
              clear H41; intro a42 H42
              refine plain (y_pick_t rfl rfl rfl) rfl rfl rfl H42 ?_
              clear H42; intro a43 H43
              refine plain (y_assign rfl rfl) rfl rfl rfl H43 ?_
              clear H43; intro a44 H44
              refine fin ?_
              refine then_n ?_
              refine wp_ret ?_
              -- return 2
              refine ret1 rfl H44 rfl ?_
              refine ⟨_, [], rfl, ⟨?_, rfl⟩, H44.sep.sub (List.nil_sublist _)⟩
              clear H44
              rw [Note.Receipt.ok_is]
              first | exact congrArg Value.bool (decide_eq_decide.2 (by omega)) | exact congrArg Value.bool (decide_eq_false (by omega)).symm | exact congrArg Value.bool (decide_eq_true (by omega)).symm
          · first
            | fail
            | skip
              clear H36; intro H45
              try simp only [decide_eq_true_eq, decide_eq_false_iff_not, Bool.not_eq_true', Bool.not_eq_false', Bool.and_eq_true, Bool.not_eq_true, Bool.not_eq_false] at hg37
              refine skip rfl rfl rfl H45 ?_
              clear H45; intro a46 H46
              refine skip rfl rfl rfl H46 ?_
              clear H46; intro a47 H47
              refine skip rfl rfl rfl H47 ?_
              clear H47; intro a48 H48
              refine skip rfl rfl rfl H48 ?_
              clear H48; intro a49 H49
              refine plain (y_pick_f rfl rfl rfl) rfl rfl rfl H49 ?_
              clear H49; intro a50 H50
              refine plain (y_assign rfl rfl) rfl rfl rfl H50 ?_
              clear H50; intro a51 H51
              refine fin ?_
              refine then_n ?_
              refine wp_ret ?_
              -- return 3
              refine ret1 rfl H51 rfl ?_
              refine ⟨_, [], rfl, ⟨?_, rfl⟩, H51.sep.sub (List.nil_sublist _)⟩
              clear H51
              rw [Note.Receipt.ok_is]
              first | exact congrArg Value.bool (decide_eq_decide.2 (by omega)) | exact congrArg Value.bool (decide_eq_false (by omega)).symm | exact congrArg Value.bool (decide_eq_true (by omega)).symm
  · first
    | fail
    | skip
      clear H9; intro H52
      try simp only [decide_eq_true_eq, decide_eq_false_iff_not, Bool.not_eq_true', Bool.not_eq_false', Bool.and_eq_true, Bool.not_eq_true, Bool.not_eq_false] at hg10
      refine skip rfl rfl rfl H52 ?_
      clear H52; intro a53 H53
      refine skip rfl rfl rfl H53 ?_
      clear H53; intro a54 H54
      refine skip rfl rfl rfl H54 ?_
      clear H54; intro a55 H55
      refine skip rfl rfl rfl H55 ?_
      clear H55; intro a56 H56
      refine skip rfl rfl rfl H56 ?_
      clear H56; intro a57 H57
      refine skip rfl rfl rfl H57 ?_
      clear H57; intro a58 H58
      refine skip rfl rfl rfl H58 ?_
      clear H58; intro a59 H59
      refine skip rfl rfl rfl H59 ?_
      clear H59; intro a60 H60
      refine plain (y_pick_f rfl rfl rfl) rfl rfl rfl H60 ?_
      clear H60; intro a61 H61
      refine plain (y_move rfl rfl) rfl rfl rfl H61 ?_
      clear H61; intro a62 H62
      refine skip rfl rfl rfl H62 ?_
      clear H62; intro a63 H63
      refine skip rfl rfl rfl H63 ?_
      clear H63; intro a64 H64
      refine skip rfl rfl rfl H64 ?_
      clear H64; intro a65 H65
      refine skip rfl rfl rfl H65 ?_
      clear H65; intro a66 H66
      refine plain (y_pick_f rfl rfl rfl) rfl rfl rfl H66 ?_
      clear H66; intro a67 H67
      refine plain (y_assign rfl rfl) rfl rfl rfl H67 ?_
      clear H67; intro a68 H68
      refine fin ?_
      refine then_n ?_
      refine wp_ret ?_
      -- return 4
      refine ret1 rfl H68 rfl ?_
      refine ⟨_, [], rfl, ⟨?_, rfl⟩, H68.sep.sub (List.nil_sublist _)⟩
      clear H68
      rw [Note.Receipt.ok_is]
      first | exact congrArg Value.bool (decide_eq_decide.2 (by omega)) | exact congrArg Value.bool (decide_eq_false (by omega)).symm | exact congrArg Value.bool (decide_eq_true (by omega)).symm
set_option maxRecDepth 100000 in
set_option maxHeartbeats 1000000 in
theorem nlink (r : Note.Receipt) (wf : Note.Receipt.Wf r) {w : World} (hG : Glob 0 Sha.K w) : Calls Tryd.prog 44 #[.agg (Note.Receipt.cells r).toArray] w (Gives (.agg (r.link.map u8).toArray) [] w) := by
  have lz32 : (List.replicate 32 (0 : UInt8)).length = 32 := List.length_replicate
  have lz0 := wf.prev
  have lz1 := wf.hash
  refine enterL (args := [.agg (Note.Receipt.cells r).toArray]) Tryd.func44 rfl rfl (l := []) (Sep.refl _) ?_
  intro a0 H0
  refine wp_seq ?_
  refine reg ?_
  refine st_box rfl rfl (agg_cells _) rfl rfl rfl H0 ?_
  clear H0; intro b1 a1 wx1 H1
  refine st_alloc rfl z_zeroN23 rfl rfl rfl H1 ?_
  clear H1; intro b2 a2 wx2 H2
  refine fin ?_
  refine then_n ?_
  refine wp_seq ?_
  refine hreg _ (fun _ h => h) (by kernel_rfl) H2 ?_
  clear H2; intro wx3 H3
  refine htake 0 rfl (by kernel_rfl) (y_fieldB rfl z_field35_0 rfl (by first | (simp only [Nat.zero_add, Nat.add_zero, Nat.reduceAdd]; rfl) | rfl)) rfl rfl rfl (fun _ h => (h.sub (by first | exact S0 | exact S1 | repeat (first | exact S1 | exact S0 | apply S2 | apply S3)))) H3 ?_
  clear H3; intro a4 H4
  refine htake 1 rfl (by kernel_rfl) (y_loadB rfl z_agg3 rfl (by repeat (first | exact Mh | apply Mt)) q_ix_c4b32b32_0) rfl rfl rfl (fun _ h => (h.sub (by first | exact S0 | exact S1 | repeat (first | exact S1 | exact S0 | apply S2 | apply S3)))) H4 ?_
  clear H4; intro a5 H5
  refine htake 2 rfl (by kernel_rfl) (y_fieldB rfl z_field35_1 rfl (by first | (simp only [Nat.zero_add, Nat.add_zero, Nat.reduceAdd]; rfl) | rfl)) rfl rfl rfl (fun _ h => (h.sub (by first | exact S0 | exact S1 | repeat (first | exact S1 | exact S0 | apply S2 | apply S3)))) H5 ?_
  clear H5; intro a6 H6
  refine htake 3 rfl (by kernel_rfl) (y_loadB rfl z_agg3 rfl (by repeat (first | exact Mh | apply Mt)) q_ix_c4b32b32_1) rfl rfl rfl (fun _ h => (h.sub (by first | exact S0 | exact S1 | repeat (first | exact S1 | exact S0 | apply S2 | apply S3)))) H6 ?_
  clear H6; intro a7 H7
  refine htake 4 rfl (by kernel_rfl) (y_fieldB rfl z_field35_2 rfl (by first | (simp only [Nat.zero_add, Nat.add_zero, Nat.reduceAdd]; rfl) | rfl)) rfl rfl rfl (fun _ h => (h.sub (by first | exact S0 | exact S1 | repeat (first | exact S1 | exact S0 | apply S2 | apply S3)))) H7 ?_
  clear H7; intro a8 H8
  refine htake 5 rfl (by kernel_rfl) (y_loadB rfl z_agg3 rfl (by repeat (first | exact Mh | apply Mt)) q_ix_c4b32b32_2) rfl rfl rfl (fun _ h => (h.sub (by first | exact S0 | exact S1 | repeat (first | exact S1 | exact S0 | apply S2 | apply S3)))) H8 ?_
  clear H8; intro a9 H9
  refine htake 8 rfl (by kernel_rfl) (y_fieldB rfl z_field35_3 rfl (by first | (simp only [Nat.zero_add, Nat.add_zero, Nat.reduceAdd]; rfl) | rfl)) rfl rfl rfl (fun _ h => (h.sub (by first | exact S0 | exact S1 | repeat (first | exact S1 | exact S0 | apply S2 | apply S3)))) H9 ?_
  clear H9; intro a10 H10
  refine htake 9 rfl (by kernel_rfl) (y_loadB rfl z_agg9 rfl (by repeat (first | exact Mh | apply Mt)) q_ix_c4b32b32_3) rfl rfl rfl (fun _ h => (h.sub (by first | exact S0 | exact S1 | repeat (first | exact S1 | exact S0 | apply S2 | apply S3)))) H10 ?_
  clear H10; intro a11 H11
  refine hgo2 6 10 rfl rfl (by kernel_rfl) ?_ ?_
  · skip
    refine st_buildSlice1 (xs := [.tmp 7, .tmp 9, .tmp 11]) rfl Tryd.underlying83 z_size3 z_zero3 rfl rfl rfl rfl rfl rfl rfl rfl rfl H11 ?_
    clear H11; intro b12 a12 wx12 H12
    refine hfin (H12.sep.sub (by first | exact S0 | exact S1 | repeat (first | exact S1 | exact S0 | apply S2 | apply S3))) ?_
    refine hgo2 7 10 rfl rfl (by kernel_rfl) ?_ ?_
    · skip
      refine st_call rfl z_call36 rfl rfl rfl rfl H12 (nlay [r.index, r.kind, r.time] _ _ _ rfl (by simp) (by intro x hx; simp only [List.mem_cons, List.not_mem_nil, or_false] at hx; rcases hx with rfl | rfl | rfl <;> first | exact wf.index.2 | exact wf.kind.2 | exact wf.time.2) (Rd.ofSep (rd_blkA (by repeat (first | exact Mh | apply Mt))) H12.sep)) ?_
      clear H12; intro v13 l13 a13 wx13 hf13 H13
      obtain rfl := hf13
      simp only [List.cons_append, List.nil_append] at H13
      obtain ⟨Ar13, cr13, hvr13, hRr13, hmr13⟩ := row_shape (v := v13) H13.sep (by repeat (first | exact Mh | apply Mt))
      subst hvr13
      refine hfin (H13.sep.sub (by first | exact S0 | exact S1 | repeat (first | exact S1 | exact S0 | apply S2 | apply S3))) ?_
      refine hgo 10 rfl (by kernel_rfl) ?_
      refine st_buildSlice1 (xs := [.tmp 15]) rfl Tryd.underlying49 z_size9 z_zero9 rfl rfl rfl rfl rfl rfl rfl rfl rfl H13 ?_
      clear H13; intro b14 a14 wx14 H14
      refine hfin (H14.sep.sub (by first | exact S0 | exact S1 | repeat (first | exact S1 | exact S0 | apply S2 | apply S3))) ?_
      refine hgo 11 rfl (by kernel_rfl) ?_
      refine st_append rfl z_slice49 z_notint49 rfl rfl (fun _ => (by repeat (first | exact Uh | apply Ut))) (fun w hs => Src.slice ((rd_blkA (by repeat (first | exact Mh | apply Mt))) w hs) rfl (by simp [Value.oneCell'])) (by unfold maxLen at *; first | omega | (simp only [List.length_cons, List.length_nil, List.length_append, List.length_map]; omega)) (by first | omega | (simp only [List.length_cons, List.length_nil, List.length_append, List.length_map]; omega)) rfl rfl rfl H14 ?_
      clear H14; intro v15 a15 wx15 hnil15 H15
      obtain ⟨Ar15, cr15, hvr15, hRr15, hmr15⟩ := row_shape (v := v15) H15.sep (by repeat (first | exact Mh | apply Mt))
      subst hvr15
      refine hfin (H15.sep.sub (by first | exact S0 | exact S1 | repeat (first | exact S1 | exact S0 | apply S2 | apply S3))) ?_
      refine hgo 12 rfl (by kernel_rfl) ?_
      refine st_callg rfl z_call35 rfl rfl rfl rfl H15 (nwrite [Note.num r.index, Note.num r.kind, Note.num r.time, r.body] _ _ _ rfl (Rd.ofSep (rd_row (by repeat (first | exact Mh | apply Mt))) H15.sep) (by simp)) ?_
      clear H15; intro a16 wx16 H16
      refine hfin (H16.sep.sub (by first | exact S0 | exact S1 | repeat (first | exact S1 | exact S0 | apply S2 | apply S3))) ?_
      refine htake 13 rfl (by kernel_rfl) (y_move rfl rfl) rfl rfl rfl (fun _ h => (h.sub (by first | exact S0 | exact S1 | repeat (first | exact S1 | exact S0 | apply S2 | apply S3)))) H16 ?_
      clear H16; intro a17 H17
      refine htake 14 rfl (by kernel_rfl) (y_extract rfl rfl rfl) rfl rfl rfl (fun _ h => (h.sub (by first | exact S0 | exact S1 | repeat (first | exact S1 | exact S0 | apply S2 | apply S3)))) H17 ?_
      clear H17; intro a18 H18
      refine htake 15 rfl (by kernel_rfl) (y_extract rfl rfl rfl) rfl rfl rfl (fun _ h => (h.sub (by first | exact S0 | exact S1 | repeat (first | exact S1 | exact S0 | apply S2 | apply S3)))) H18 ?_
      clear H18; intro a19 H19
      refine htake 16 rfl (by kernel_rfl) (y_assign rfl rfl) rfl rfl rfl (fun _ h => (h.sub (by first | exact S0 | exact S1 | repeat (first | exact S1 | exact S0 | apply S2 | apply S3)))) H19 ?_
      clear H19; intro a20 H20
      refine htake 17 rfl (by kernel_rfl) (y_assign rfl rfl) rfl rfl rfl (fun _ h => (h.sub (by first | exact S0 | exact S1 | repeat (first | exact S1 | exact S0 | apply S2 | apply S3)))) H20 ?_
      clear H20; intro a21 H21
      refine hdone (by kernel_rfl) ?_
      refine then_n ?_
      refine wp_seq ?_
      refine reg ?_
      refine plain (y_fieldB rfl z_field35_4 rfl (by first | (simp only [Nat.zero_add, Nat.add_zero, Nat.reduceAdd]; rfl) | rfl)) rfl rfl rfl H21 ?_
      clear H21; intro a22 H22
      refine plain (y_loadAB rfl z_agg23 z_size23 rfl (by repeat (first | exact Mh | apply Mt)) (q_ld_c4b32b32_4_32 (by first | assumption | exact Sha.sum_length _)) (q_len_b32 (by first | assumption | exact Sha.sum_length _))) rfl rfl rfl H22 ?_
      clear H22; intro a23 H23
      refine plain (y_move rfl rfl) rfl rfl rfl H23 ?_
      clear H23; intro a24 H24
      refine st_callg rfl z_call62 rfl rfl rfl rfl H24 (dchain r.prev wf.prev _ (by have := Oct.list_len (l := [Note.num r.index, Note.num r.kind, Note.num r.time, r.body]); omega) (hG.frm H24.sep.frm (by simp))) ?_
      clear H24; intro a25 wx25 H25
      refine st_storeN rfl z_size23 rfl rfl (agg_cells _) (by repeat (first | exact Uh | apply Ut)) q_one_b32 (q_len_b32 (by first | assumption | exact Sha.sum_length _)) (q_len_b32 (by first | assumption | exact Sha.sum_length _)) (q_spl_b32_0_b32 (by first | assumption | exact Sha.sum_length _) (by first | assumption | exact Sha.sum_length _)) (by decide) rfl rfl H25 ?_
      clear H25; intro wx26 H26
      refine fin ?_
      refine then_n ?_
      refine wp_ret ?_
      -- return 1
      refine retc rfl H26 rfl z_agg23 z_size23 (by repeat (first | exact Mh | apply Mt)) (q_len_b32 (by first | assumption | exact Sha.sum_length _)) ?_
      refine ⟨_, [], rfl, ⟨?_, rfl⟩, H26.sep.sub (List.nil_sublist _)⟩
      rfl
    · skip
      refine st_buildSlice1 (xs := [.tmp 15]) rfl Tryd.underlying49 z_size9 z_zero9 rfl rfl rfl rfl rfl rfl rfl rfl rfl H12 ?_
      clear H12; intro b27 a27 wx27 H27
      refine hfin (H27.sep.sub (by first | exact S0 | exact S1 | repeat (first | exact S1 | exact S0 | apply S2 | apply S3))) ?_
      refine hgo 7 rfl (by kernel_rfl) ?_
      refine st_call rfl z_call36 rfl rfl rfl rfl H27 (nlay [r.index, r.kind, r.time] _ _ _ rfl (by simp) (by intro x hx; simp only [List.mem_cons, List.not_mem_nil, or_false] at hx; rcases hx with rfl | rfl | rfl <;> first | exact wf.index.2 | exact wf.kind.2 | exact wf.time.2) (Rd.ofSep (rd_blkA (by repeat (first | exact Mh | apply Mt))) H27.sep)) ?_
      clear H27; intro v28 l28 a28 wx28 hf28 H28
      obtain rfl := hf28
      simp only [List.cons_append, List.nil_append] at H28
      obtain ⟨Ar28, cr28, hvr28, hRr28, hmr28⟩ := row_shape (v := v28) H28.sep (by repeat (first | exact Mh | apply Mt))
      subst hvr28
      refine hfin (H28.sep.sub (by first | exact S0 | exact S1 | repeat (first | exact S1 | exact S0 | apply S2 | apply S3))) ?_
      refine hgo 11 rfl (by kernel_rfl) ?_
      refine st_append rfl z_slice49 z_notint49 rfl rfl (fun _ => (by repeat (first | exact Uh | apply Ut))) (fun w hs => Src.slice ((rd_blkA (by repeat (first | exact Mh | apply Mt))) w hs) rfl (by simp [Value.oneCell'])) (by unfold maxLen at *; first | omega | (simp only [List.length_cons, List.length_nil, List.length_append, List.length_map]; omega)) (by first | omega | (simp only [List.length_cons, List.length_nil, List.length_append, List.length_map]; omega)) rfl rfl rfl H28 ?_
      clear H28; intro v29 a29 wx29 hnil29 H29
      obtain ⟨Ar29, cr29, hvr29, hRr29, hmr29⟩ := row_shape (v := v29) H29.sep (by repeat (first | exact Mh | apply Mt))
      subst hvr29
      refine hfin (H29.sep.sub (by first | exact S0 | exact S1 | repeat (first | exact S1 | exact S0 | apply S2 | apply S3))) ?_
      refine hgo 12 rfl (by kernel_rfl) ?_
      refine st_callg rfl z_call35 rfl rfl rfl rfl H29 (nwrite [Note.num r.index, Note.num r.kind, Note.num r.time, r.body] _ _ _ rfl (Rd.ofSep (rd_row (by repeat (first | exact Mh | apply Mt))) H29.sep) (by simp)) ?_
      clear H29; intro a30 wx30 H30
      refine hfin (H30.sep.sub (by first | exact S0 | exact S1 | repeat (first | exact S1 | exact S0 | apply S2 | apply S3))) ?_
      refine htake 13 rfl (by kernel_rfl) (y_move rfl rfl) rfl rfl rfl (fun _ h => (h.sub (by first | exact S0 | exact S1 | repeat (first | exact S1 | exact S0 | apply S2 | apply S3)))) H30 ?_
      clear H30; intro a31 H31
      refine htake 14 rfl (by kernel_rfl) (y_extract rfl rfl rfl) rfl rfl rfl (fun _ h => (h.sub (by first | exact S0 | exact S1 | repeat (first | exact S1 | exact S0 | apply S2 | apply S3)))) H31 ?_
      clear H31; intro a32 H32
      refine htake 15 rfl (by kernel_rfl) (y_extract rfl rfl rfl) rfl rfl rfl (fun _ h => (h.sub (by first | exact S0 | exact S1 | repeat (first | exact S1 | exact S0 | apply S2 | apply S3)))) H32 ?_
      clear H32; intro a33 H33
      refine htake 16 rfl (by kernel_rfl) (y_assign rfl rfl) rfl rfl rfl (fun _ h => (h.sub (by first | exact S0 | exact S1 | repeat (first | exact S1 | exact S0 | apply S2 | apply S3)))) H33 ?_
      clear H33; intro a34 H34
      refine htake 17 rfl (by kernel_rfl) (y_assign rfl rfl) rfl rfl rfl (fun _ h => (h.sub (by first | exact S0 | exact S1 | repeat (first | exact S1 | exact S0 | apply S2 | apply S3)))) H34 ?_
      clear H34; intro a35 H35
      refine hdone (by kernel_rfl) ?_
      refine then_n ?_
      refine wp_seq ?_
      refine reg ?_
      refine plain (y_fieldB rfl z_field35_4 rfl (by first | (simp only [Nat.zero_add, Nat.add_zero, Nat.reduceAdd]; rfl) | rfl)) rfl rfl rfl H35 ?_
      clear H35; intro a36 H36
      refine plain (y_loadAB rfl z_agg23 z_size23 rfl (by repeat (first | exact Mh | apply Mt)) (q_ld_c4b32b32_4_32 (by first | assumption | exact Sha.sum_length _)) (q_len_b32 (by first | assumption | exact Sha.sum_length _))) rfl rfl rfl H36 ?_
      clear H36; intro a37 H37
      refine plain (y_move rfl rfl) rfl rfl rfl H37 ?_
      clear H37; intro a38 H38
      refine st_callg rfl z_call62 rfl rfl rfl rfl H38 (dchain r.prev wf.prev _ (by have := Oct.list_len (l := [Note.num r.index, Note.num r.kind, Note.num r.time, r.body]); omega) (hG.frm H38.sep.frm (by simp))) ?_
      clear H38; intro a39 wx39 H39
      refine st_storeN rfl z_size23 rfl rfl (agg_cells _) (by repeat (first | exact Uh | apply Ut)) q_one_b32 (q_len_b32 (by first | assumption | exact Sha.sum_length _)) (q_len_b32 (by first | assumption | exact Sha.sum_length _)) (q_spl_b32_0_b32 (by first | assumption | exact Sha.sum_length _) (by first | assumption | exact Sha.sum_length _)) (by decide) rfl rfl H39 ?_
      clear H39; intro wx40 H40
      refine fin ?_
      refine then_n ?_
      refine wp_ret ?_
      -- return 2
      refine retc rfl H40 rfl z_agg23 z_size23 (by repeat (first | exact Mh | apply Mt)) (q_len_b32 (by first | assumption | exact Sha.sum_length _)) ?_
      refine ⟨_, [], rfl, ⟨?_, rfl⟩, H40.sep.sub (List.nil_sublist _)⟩
      rfl
  · skip
    refine st_buildSlice1 (xs := [.tmp 15]) rfl Tryd.underlying49 z_size9 z_zero9 rfl rfl rfl rfl rfl rfl rfl rfl rfl H11 ?_
    clear H11; intro b41 a41 wx41 H41
    refine hfin (H41.sep.sub (by first | exact S0 | exact S1 | repeat (first | exact S1 | exact S0 | apply S2 | apply S3))) ?_
    refine hgo 6 rfl (by kernel_rfl) ?_
    refine st_buildSlice1 (xs := [.tmp 7, .tmp 9, .tmp 11]) rfl Tryd.underlying83 z_size3 z_zero3 rfl rfl rfl rfl rfl rfl rfl rfl rfl H41 ?_
    clear H41; intro b42 a42 wx42 H42
    refine hfin (H42.sep.sub (by first | exact S0 | exact S1 | repeat (first | exact S1 | exact S0 | apply S2 | apply S3))) ?_
    refine hgo 7 rfl (by kernel_rfl) ?_
    refine st_call rfl z_call36 rfl rfl rfl rfl H42 (nlay [r.index, r.kind, r.time] _ _ _ rfl (by simp) (by intro x hx; simp only [List.mem_cons, List.not_mem_nil, or_false] at hx; rcases hx with rfl | rfl | rfl <;> first | exact wf.index.2 | exact wf.kind.2 | exact wf.time.2) (Rd.ofSep (rd_blkA (by repeat (first | exact Mh | apply Mt))) H42.sep)) ?_
    clear H42; intro v43 l43 a43 wx43 hf43 H43
    obtain rfl := hf43
    simp only [List.cons_append, List.nil_append] at H43
    obtain ⟨Ar43, cr43, hvr43, hRr43, hmr43⟩ := row_shape (v := v43) H43.sep (by repeat (first | exact Mh | apply Mt))
    subst hvr43
    refine hfin (H43.sep.sub (by first | exact S0 | exact S1 | repeat (first | exact S1 | exact S0 | apply S2 | apply S3))) ?_
    refine hgo 11 rfl (by kernel_rfl) ?_
    refine st_append rfl z_slice49 z_notint49 rfl rfl (fun _ => (by repeat (first | exact Uh | apply Ut))) (fun w hs => Src.slice ((rd_blkA (by repeat (first | exact Mh | apply Mt))) w hs) rfl (by simp [Value.oneCell'])) (by unfold maxLen at *; first | omega | (simp only [List.length_cons, List.length_nil, List.length_append, List.length_map]; omega)) (by first | omega | (simp only [List.length_cons, List.length_nil, List.length_append, List.length_map]; omega)) rfl rfl rfl H43 ?_
    clear H43; intro v44 a44 wx44 hnil44 H44
    obtain ⟨Ar44, cr44, hvr44, hRr44, hmr44⟩ := row_shape (v := v44) H44.sep (by repeat (first | exact Mh | apply Mt))
    subst hvr44
    refine hfin (H44.sep.sub (by first | exact S0 | exact S1 | repeat (first | exact S1 | exact S0 | apply S2 | apply S3))) ?_
    refine hgo 12 rfl (by kernel_rfl) ?_
    refine st_callg rfl z_call35 rfl rfl rfl rfl H44 (nwrite [Note.num r.index, Note.num r.kind, Note.num r.time, r.body] _ _ _ rfl (Rd.ofSep (rd_row (by repeat (first | exact Mh | apply Mt))) H44.sep) (by simp)) ?_
    clear H44; intro a45 wx45 H45
    refine hfin (H45.sep.sub (by first | exact S0 | exact S1 | repeat (first | exact S1 | exact S0 | apply S2 | apply S3))) ?_
    refine htake 13 rfl (by kernel_rfl) (y_move rfl rfl) rfl rfl rfl (fun _ h => (h.sub (by first | exact S0 | exact S1 | repeat (first | exact S1 | exact S0 | apply S2 | apply S3)))) H45 ?_
    clear H45; intro a46 H46
    refine htake 14 rfl (by kernel_rfl) (y_extract rfl rfl rfl) rfl rfl rfl (fun _ h => (h.sub (by first | exact S0 | exact S1 | repeat (first | exact S1 | exact S0 | apply S2 | apply S3)))) H46 ?_
    clear H46; intro a47 H47
    refine htake 15 rfl (by kernel_rfl) (y_extract rfl rfl rfl) rfl rfl rfl (fun _ h => (h.sub (by first | exact S0 | exact S1 | repeat (first | exact S1 | exact S0 | apply S2 | apply S3)))) H47 ?_
    clear H47; intro a48 H48
    refine htake 16 rfl (by kernel_rfl) (y_assign rfl rfl) rfl rfl rfl (fun _ h => (h.sub (by first | exact S0 | exact S1 | repeat (first | exact S1 | exact S0 | apply S2 | apply S3)))) H48 ?_
    clear H48; intro a49 H49
    refine htake 17 rfl (by kernel_rfl) (y_assign rfl rfl) rfl rfl rfl (fun _ h => (h.sub (by first | exact S0 | exact S1 | repeat (first | exact S1 | exact S0 | apply S2 | apply S3)))) H49 ?_
    clear H49; intro a50 H50
    refine hdone (by kernel_rfl) ?_
    refine then_n ?_
    refine wp_seq ?_
    refine reg ?_
    refine plain (y_fieldB rfl z_field35_4 rfl (by first | (simp only [Nat.zero_add, Nat.add_zero, Nat.reduceAdd]; rfl) | rfl)) rfl rfl rfl H50 ?_
    clear H50; intro a51 H51
    refine plain (y_loadAB rfl z_agg23 z_size23 rfl (by repeat (first | exact Mh | apply Mt)) (q_ld_c4b32b32_4_32 (by first | assumption | exact Sha.sum_length _)) (q_len_b32 (by first | assumption | exact Sha.sum_length _))) rfl rfl rfl H51 ?_
    clear H51; intro a52 H52
    refine plain (y_move rfl rfl) rfl rfl rfl H52 ?_
    clear H52; intro a53 H53
    refine st_callg rfl z_call62 rfl rfl rfl rfl H53 (dchain r.prev wf.prev _ (by have := Oct.list_len (l := [Note.num r.index, Note.num r.kind, Note.num r.time, r.body]); omega) (hG.frm H53.sep.frm (by simp))) ?_
    clear H53; intro a54 wx54 H54
    refine st_storeN rfl z_size23 rfl rfl (agg_cells _) (by repeat (first | exact Uh | apply Ut)) q_one_b32 (q_len_b32 (by first | assumption | exact Sha.sum_length _)) (q_len_b32 (by first | assumption | exact Sha.sum_length _)) (q_spl_b32_0_b32 (by first | assumption | exact Sha.sum_length _) (by first | assumption | exact Sha.sum_length _)) (by decide) rfl rfl H54 ?_
    clear H54; intro wx55 H55
    refine fin ?_
    refine then_n ?_
    refine wp_ret ?_
    -- return 3
    refine retc rfl H55 rfl z_agg23 z_size23 (by repeat (first | exact Mh | apply Mt)) (q_len_b32 (by first | assumption | exact Sha.sum_length _)) ?_
    refine ⟨_, [], rfl, ⟨?_, rfl⟩, H55.sep.sub (List.nil_sublist _)⟩
    rfl
set_option maxRecDepth 100000 in
set_option maxHeartbeats 1000000 in
theorem nlinkF (prev : List UInt8) (hp : prev.length = 32) (index kind time : Int) (hi : Note.I64 index) (hkd : Note.I64 kind) (hti : Note.I64 time) (body : List UInt8) (hbl : body.length ≤ 140737488351232) {w : World} (hG : Glob 0 Sha.K w) : Calls Tryd.prog 19 #[.agg (prev.map u8).toArray, .int .i64 index, .int .i64 kind, .int .i64 time, str body] w (Gives (.tuple #[.agg (Note.Receipt.cells (Note.link prev index kind time body).1).toArray, .int .i64 (Note.link prev index kind time body).2]) [] w) := by
  have wf : Note.Receipt.Wf (⟨index, kind, time, body, prev, Note.Z⟩ : Note.Receipt) := ⟨hi, hkd, hti, hbl, hp, rfl⟩
  have lz32 : (List.replicate 32 (0 : UInt8)).length = 32 := List.length_replicate
  refine enterL (args := [.agg (prev.map u8).toArray, .int .i64 index, .int .i64 kind, .int .i64 time, str body]) Tryd.func19 rfl rfl (l := []) (Sep.refl _) ?_
  intro a0 H0
  refine wp_seq ?_
  refine reg ?_
  refine st_box rfl rfl (agg_cells _) rfl rfl rfl H0 ?_
  clear H0; intro b1 a1 wx1 H1
  refine st_alloc rfl z_zeroN35 rfl rfl rfl H1 ?_
  clear H1; intro b2 a2 wx2 H2
  refine plain (y_assign rfl rfl) rfl rfl rfl H2 ?_
  clear H2; intro a3 H3
  refine fin ?_
  refine then_n ?_
  refine wp_seq ?_
  refine reg ?_
  refine plain (y_move rfl rfl) rfl rfl rfl H3 ?_
  clear H3; intro a4 H4
  refine plain (y_move rfl rfl) rfl rfl rfl H4 ?_
  clear H4; intro a5 H5
  refine plain (y_move rfl rfl) rfl rfl rfl H5 ?_
  clear H5; intro a6 H6
  refine plain (y_move rfl rfl) rfl rfl rfl H6 ?_
  clear H6; intro a7 H7
  refine plain (y_loadAB rfl z_agg23 z_size23 rfl (by repeat (first | exact Mh | apply Mt)) (q_ld_b32_0_32 (by first | assumption | exact Note.link_len _)) (q_len_b32 (by first | assumption | exact Note.link_len _))) rfl rfl rfl H7 ?_
  clear H7; intro a8 H8
  refine plain (y_build rfl z_zeroN35 z_places35 rfl (lay_1 (off := 0) (n := 68) rfl (q_len_c4b32b32 (by first | assumption | exact Note.link_len _) (by first | assumption | exact Note.link_len _)) (by decide) q_spl_c4b32b32_0_c1 (lay_1 (off := 1) (n := 68) rfl (q_len_c4b32b32 (by first | assumption | exact Note.link_len _) (by first | assumption | exact Note.link_len _)) (by decide) q_spl_c4b32b32_1_c1 (lay_1 (off := 2) (n := 68) rfl (q_len_c4b32b32 (by first | assumption | exact Note.link_len _) (by first | assumption | exact Note.link_len _)) (by decide) q_spl_c4b32b32_2_c1 (lay_1 (off := 3) (n := 68) rfl (q_len_c4b32b32 (by first | assumption | exact Note.link_len _) (by first | assumption | exact Note.link_len _)) (by decide) q_spl_c4b32b32_3_c1 (lay_f (off := 4) (z := 32) (n := 68) rfl (agg_cells _) (q_len_b32 (by first | assumption | exact Note.link_len _)) (q_len_c4b32b32 (by first | assumption | exact Note.link_len _) (by first | assumption | exact Note.link_len _)) (by decide) (q_spl_c4b32b32_4_b32 (by first | assumption | exact Note.link_len _) (by first | assumption | exact Note.link_len _)) lay_n) (by rfl)) (by rfl)) (by rfl)) (by rfl))) rfl rfl rfl H8 ?_
  clear H8; intro a9 H9
  refine st_alloc rfl z_zeroN35 rfl rfl rfl H9 ?_
  clear H9; intro b10 a10 wx10 H10
  refine st_storeN rfl z_size35 rfl rfl (agg_cells _) (by repeat (first | exact Uh | apply Ut)) (q_one_c4b32b32 rfl rfl rfl rfl) (q_len_c4b32b32 (by first | assumption | exact Note.link_len _) (by first | assumption | exact Note.link_len _)) (q_len_c4b32b32 (by first | assumption | exact Note.link_len _) (by first | assumption | exact Note.link_len _)) (q_spl_c4b32b32_0_c4b32b32 (by first | assumption | exact Note.link_len _) (by first | assumption | exact Note.link_len _) (by first | assumption | exact Note.link_len _) (by first | assumption | exact Note.link_len _)) (by decide) rfl rfl H10 ?_
  clear H10; intro wx11 H11
  refine fin ?_
  refine then_n ?_
  refine wp_seq ?_
  refine wp_seq ?_
  refine reg ?_
  refine plain (y_loadAB rfl z_agg35 z_size35 rfl (by repeat (first | exact Mh | apply Mt)) (q_ld_c4b32b32_0_68 (by first | assumption | exact Note.link_len _) (by first | assumption | exact Note.link_len _)) (q_len_c4b32b32 (by first | assumption | exact Note.link_len _) (by first | assumption | exact Note.link_len _))) rfl rfl rfl H11 ?_
  clear H11; intro a12 H12
  refine st_callg rfl z_call43 rfl rfl rfl rfl H12 (nreceipt (⟨index, kind, time, body, prev, Note.Z⟩ : Note.Receipt) wf _) ?_
  clear H12; intro a13 wx13 H13
  refine plain ((by first | exact y_not_d rfl rfl | exact y_not rfl rfl)) rfl rfl rfl H13 ?_
  clear H13; intro a14 H14
  refine fin ?_
  refine then_n ?_
  refine cnd H14 rfl (fun hc15 => ?_) (fun hc15 => ?_) -- cond 1
  · skip
    try simp only [decide_eq_true_eq, decide_eq_false_iff_not, Bool.not_eq_true', Bool.not_eq_false', Bool.and_eq_true, Bool.not_eq_true, Bool.not_eq_false] at hc15
    have hk := hc15
    refine wp_seq ?_
    refine reg ?_
    refine plain (y_build rfl z_zeroN35 z_places35 rfl lay_n) rfl rfl rfl H14 ?_
    clear H14; intro a16 H16
    refine st_storeN rfl z_size35 rfl rfl (agg_cells _) (by repeat (first | exact Uh | apply Ut)) (q_one_c4b32b32 rfl rfl rfl rfl) (q_len_c4b32b32 (by first | assumption | exact Note.link_len _) (by first | assumption | exact Note.link_len _)) (q_len_c4b32b32 (by first | assumption | exact Note.link_len _) (by first | assumption | exact Note.link_len _)) (q_spl_c4b32b32_0_c4b32b32 (by first | assumption | exact Note.link_len _) (by first | assumption | exact Note.link_len _) (by first | assumption | exact Note.link_len _) (by first | assumption | exact Note.link_len _)) (by decide) rfl rfl H16 ?_
    clear H16; intro wx17 H17
    refine plain (y_assign rfl rfl) rfl rfl rfl H17 ?_
    clear H17; intro a18 H18
    refine fin ?_
    refine then_n ?_
    refine wp_ret ?_
    refine then_r ?_
    -- return 1
    refine retct rfl H18 rfl z_agg35 z_size35 (by repeat (first | exact Mh | apply Mt)) (q_len_c4b32b32 (by first | assumption | exact Note.link_len _) (by first | assumption | exact Note.link_len _)) rfl ?_
    refine ⟨_, [], rfl, ⟨?_, rfl⟩, H18.sep.sub (List.nil_sublist _)⟩
    rw [Note.link, if_neg (by rw [hk]; decide)]
    rfl
  · skip
    try simp only [decide_eq_true_eq, decide_eq_false_iff_not, Bool.not_eq_true', Bool.not_eq_false', Bool.and_eq_true, Bool.not_eq_true, Bool.not_eq_false] at hc15
    have hk := hc15
    refine wp_skip ?_
    refine then_n ?_
    refine wp_seq ?_
    refine reg ?_
    refine plain (y_loadAB rfl z_agg35 z_size35 rfl (by repeat (first | exact Mh | apply Mt)) (q_ld_c4b32b32_0_68 (by first | assumption | exact Note.link_len _) (by first | assumption | exact Note.link_len _)) (q_len_c4b32b32 (by first | assumption | exact Note.link_len _) (by first | assumption | exact Note.link_len _))) rfl rfl rfl H14 ?_
    clear H14; intro a19 H19
    refine st_callg rfl z_call44 rfl rfl rfl rfl H19 (nlink (⟨index, kind, time, body, prev, Note.Z⟩ : Note.Receipt) wf (hG.frm H19.sep.frm (by simp))) ?_
    clear H19; intro a20 wx20 H20
    refine plain (y_fieldB rfl z_field35_5 rfl (by first | (simp only [Nat.zero_add, Nat.add_zero, Nat.reduceAdd]; rfl) | rfl)) rfl rfl rfl H20 ?_
    clear H20; intro a21 H21
    refine st_storeN rfl z_size23 rfl rfl (agg_cells _) (by repeat (first | exact Uh | apply Ut)) q_one_b32 (q_len_b32 (by first | assumption | exact Note.link_len _)) (q_len_c4b32b32 (by first | assumption | exact Note.link_len _) (by first | assumption | exact Note.link_len _)) (q_spl_c4b32b32_36_b32 (by first | assumption | exact Note.link_len _) (by first | assumption | exact Note.link_len _) (by first | assumption | exact Note.link_len _)) (by decide) rfl rfl H21 ?_
    clear H21; intro wx22 H22
    refine fin ?_
    refine then_n ?_
    refine wp_seq ?_
    refine reg ?_
    refine plain (y_loadAB rfl z_agg35 z_size35 rfl (by repeat (first | exact Mh | apply Mt)) (q_ld_c4b32b32_0_68 (by first | assumption | exact Note.link_len _) (by first | assumption | exact Note.link_len _)) (q_len_c4b32b32 (by first | assumption | exact Note.link_len _) (by first | assumption | exact Note.link_len _))) rfl rfl rfl H22 ?_
    clear H22; intro a23 H23
    refine st_storeN rfl z_size35 rfl rfl (agg_cells _) (by repeat (first | exact Uh | apply Ut)) (q_one_c4b32b32 rfl rfl rfl rfl) (q_len_c4b32b32 (by first | assumption | exact Note.link_len _) (by first | assumption | exact Note.link_len _)) (q_len_c4b32b32 (by first | assumption | exact Note.link_len _) (by first | assumption | exact Note.link_len _)) (q_spl_c4b32b32_0_c4b32b32 (by first | assumption | exact Note.link_len _) (by first | assumption | exact Note.link_len _) (by first | assumption | exact Note.link_len _) (by first | assumption | exact Note.link_len _)) (by decide) rfl rfl H23 ?_
    clear H23; intro wx24 H24
    refine plain (y_assign rfl rfl) rfl rfl rfl H24 ?_
    clear H24; intro a25 H25
    refine fin ?_
    refine then_n ?_
    refine wp_ret ?_
    -- return 2
    refine retct rfl H25 rfl z_agg35 z_size35 (by repeat (first | exact Mh | apply Mt)) (q_len_c4b32b32 (by first | assumption | exact Note.link_len _) (by first | assumption | exact Note.link_len _)) rfl ?_
    refine ⟨_, [], rfl, ⟨?_, rfl⟩, H25.sep.sub (List.nil_sublist _)⟩
    rw [Note.link, if_pos hk]
    rfl
set_option maxRecDepth 100000 in
set_option maxHeartbeats 2000000 in
theorem nwrec (r : Note.Receipt) (wf : Note.Receipt.Wf r) {w : World} (hG : Glob 0 Sha.K w) : Calls Tryd.prog 17 #[.agg (Note.Receipt.cells r).toArray] w (Gives (.tuple #[str (Note.writeReceipt r).1, .int .i64 (Note.writeReceipt r).2]) [] w) := by
  have lz32 : (List.replicate 32 (0 : UInt8)).length = 32 := List.length_replicate
  have lz0 := wf.prev
  have lz1 := wf.hash
  refine enterL (args := [.agg (Note.Receipt.cells r).toArray]) Tryd.func17 rfl rfl (l := []) (Sep.refl _) ?_
  intro a0 H0
  refine wp_seq ?_
  refine reg ?_
  refine st_box rfl rfl (agg_cells _) rfl rfl rfl H0 ?_
  clear H0; intro b1 a1 wx1 H1
  refine plain (y_assign rfl rfl) rfl rfl rfl H1 ?_
  clear H1; intro a2 H2
  refine plain (y_assign rfl rfl) rfl rfl rfl H2 ?_
  clear H2; intro a3 H3
  refine fin ?_
  refine then_n ?_
  refine wp_seq ?_
  refine wp_block ?_
  refine wp_seq ?_
  refine reg ?_
  refine plain (y_loadAB rfl z_agg35 z_size35 rfl (by repeat (first | exact Mh | apply Mt)) (q_ld_c4b32b32_0_68 (by first | assumption | exact Note.link_len _) (by first | assumption | exact Note.link_len _)) (q_len_c4b32b32 (by first | assumption | exact Note.link_len _) (by first | assumption | exact Note.link_len _))) rfl rfl rfl H3 ?_
  clear H3; intro a4 H4
  refine st_callg rfl z_call43 rfl rfl rfl rfl H4 (nreceipt r wf _) ?_
  clear H4; intro a5 wx5 H5
  refine plain ((by first | exact y_not_d rfl rfl | exact y_not rfl rfl)) rfl rfl rfl H5 ?_
  clear H5; intro a6 H6
  refine plain (y_assign rfl rfl) rfl rfl rfl H6 ?_
  clear H6; intro a7 H7
  refine fin ?_
  refine then_n ?_
  refine cnd H7 rfl (fun hc8 => ?_) (fun hc8 => ?_) -- cond 1
  · skip
    try simp only [decide_eq_true_eq, decide_eq_false_iff_not, Bool.not_eq_true', Bool.not_eq_false', Bool.and_eq_true, Bool.not_eq_true, Bool.not_eq_false] at hc8
    have hk := hc8
    refine wp_seq ?_
    refine reg ?_
    refine plain (y_assign rfl rfl) rfl rfl rfl H7 ?_
    clear H7; intro a9 H9
    refine plain (y_assign rfl rfl) rfl rfl rfl H9 ?_
    clear H9; intro a10 H10
    refine fin ?_
    refine then_n ?_
    refine wp_ret ?_
    refine inb_r ?_
    refine then_r ?_
    -- return 1
    refine ret2 rfl H10 rfl rfl ?_
    exact ⟨_, [], rfl, ⟨by rw [Note.writeReceipt, if_neg (by rw [hk]; decide)], rfl⟩, H10.sep.sub (List.nil_sublist _)⟩
  · skip
    try simp only [decide_eq_true_eq, decide_eq_false_iff_not, Bool.not_eq_true', Bool.not_eq_false', Bool.and_eq_true, Bool.not_eq_true, Bool.not_eq_false] at hc8
    have hk := hc8
    refine wp_seq ?_
    refine qreg (by kernel_rfl) (by kernel_rfl) H7 ?_
    have F11 := H7.fr
    clear H7
    refine qplain (y_loadAB rfl z_agg35 z_size35 rfl (by repeat (first | exact Mh | apply Mt)) (q_ld_c4b32b32_0_68 (by first | assumption | exact Note.link_len _) (by first | assumption | exact Note.link_len _)) (q_len_c4b32b32 (by first | assumption | exact Note.link_len _) (by first | assumption | exact Note.link_len _))) rfl rfl rfl F11 ?_
    clear F11; intro a12 H12
    refine qcallg rfl z_call44 rfl rfl rfl rfl H12 (fun w hs => (nlink r wf (hG.frm hs.frm (by simp)))) ?_
    clear H12; intro a13 H13
    refine qplain (y_fieldB rfl z_field35_5 rfl (by first | (simp only [Nat.zero_add, Nat.add_zero, Nat.reduceAdd]; rfl) | rfl)) rfl rfl rfl H13 ?_
    clear H13; intro a14 H14
    refine qplain (y_loadAB rfl z_agg23 z_size23 rfl (by repeat (first | exact Mh | apply Mt)) (q_ld_c4b32b32_36_32 (by first | assumption | exact Note.link_len _) (by first | assumption | exact Note.link_len _)) (q_len_b32 (by first | assumption | exact Note.link_len _))) rfl rfl rfl H14 ?_
    clear H14; intro a15 H15
    refine qplain (y_hneq rfl Tryd.eqGuardType23 Tryd.underlying23 Tryd.underlying5 z_size5 rfl rfl (by first | assumption | exact Note.link_len _) (by first | assumption | exact Note.link_len _)) rfl rfl rfl H15 ?_
    clear H15; intro a16 H16
    refine qplain (y_assign rfl rfl) rfl rfl rfl H16 ?_
    clear H16; intro a17 H17
    refine qfin H17 ?_
    clear H17; intro wx18 H18
    refine then_n ?_
    refine cnd H18 rfl (fun hc19 => ?_) (fun hc19 => ?_) -- cond 2
    · skip
      try simp only [decide_eq_true_eq, decide_eq_false_iff_not, Bool.not_eq_true', Bool.not_eq_false', Bool.and_eq_true, Bool.not_eq_true, Bool.not_eq_false] at hc19
      have hh := hc19
      refine wp_seq ?_
      refine reg ?_
      refine plain (y_assign rfl rfl) rfl rfl rfl H18 ?_
      clear H18; intro a20 H20
      refine plain (y_assign rfl rfl) rfl rfl rfl H20 ?_
      clear H20; intro a21 H21
      refine fin ?_
      refine then_n ?_
      refine wp_ret ?_
      refine inb_r ?_
      refine then_r ?_
      -- return 2
      refine ret2 rfl H21 rfl rfl ?_
      exact ⟨_, [], rfl, ⟨by rw [Note.writeReceipt, if_pos hk, if_neg hh], rfl⟩, H21.sep.sub (List.nil_sublist _)⟩
    · skip
      try simp only [decide_eq_true_eq, decide_eq_false_iff_not, Bool.not_eq_true', Bool.not_eq_false', Bool.and_eq_true, Bool.not_eq_true, Bool.not_eq_false] at hc19
      have hh := Decidable.not_not.1 hc19
      refine wp_skip ?_
      refine inb_n ?_
      refine then_n ?_
      refine wp_seq ?_
      refine hreg _ (fun _ h => h) (by kernel_rfl) H18 ?_
      clear H18; intro wx22 H22
      refine htake 0 rfl (by kernel_rfl) (y_fieldB rfl z_field35_0 rfl (by first | (simp only [Nat.zero_add, Nat.add_zero, Nat.reduceAdd]; rfl) | rfl)) rfl rfl rfl (fun _ h => (h.sub (by first | exact S0 | exact S1 | repeat (first | exact S1 | exact S0 | apply S2 | apply S3)))) H22 ?_
      clear H22; intro a23 H23
      refine htake 1 rfl (by kernel_rfl) (y_loadB rfl z_agg3 rfl (by repeat (first | exact Mh | apply Mt)) q_ix_c4b32b32_0) rfl rfl rfl (fun _ h => (h.sub (by first | exact S0 | exact S1 | repeat (first | exact S1 | exact S0 | apply S2 | apply S3)))) H23 ?_
      clear H23; intro a24 H24
      refine htake 2 rfl (by kernel_rfl) (y_fieldB rfl z_field35_1 rfl (by first | (simp only [Nat.zero_add, Nat.add_zero, Nat.reduceAdd]; rfl) | rfl)) rfl rfl rfl (fun _ h => (h.sub (by first | exact S0 | exact S1 | repeat (first | exact S1 | exact S0 | apply S2 | apply S3)))) H24 ?_
      clear H24; intro a25 H25
      refine htake 3 rfl (by kernel_rfl) (y_loadB rfl z_agg3 rfl (by repeat (first | exact Mh | apply Mt)) q_ix_c4b32b32_1) rfl rfl rfl (fun _ h => (h.sub (by first | exact S0 | exact S1 | repeat (first | exact S1 | exact S0 | apply S2 | apply S3)))) H25 ?_
      clear H25; intro a26 H26
      refine htake 4 rfl (by kernel_rfl) (y_fieldB rfl z_field35_2 rfl (by first | (simp only [Nat.zero_add, Nat.add_zero, Nat.reduceAdd]; rfl) | rfl)) rfl rfl rfl (fun _ h => (h.sub (by first | exact S0 | exact S1 | repeat (first | exact S1 | exact S0 | apply S2 | apply S3)))) H26 ?_
      clear H26; intro a27 H27
      refine htake 5 rfl (by kernel_rfl) (y_loadB rfl z_agg3 rfl (by repeat (first | exact Mh | apply Mt)) q_ix_c4b32b32_2) rfl rfl rfl (fun _ h => (h.sub (by first | exact S0 | exact S1 | repeat (first | exact S1 | exact S0 | apply S2 | apply S3)))) H27 ?_
      clear H27; intro a28 H28
      refine htake 8 rfl (by kernel_rfl) (y_fieldB rfl z_field35_3 rfl (by first | (simp only [Nat.zero_add, Nat.add_zero, Nat.reduceAdd]; rfl) | rfl)) rfl rfl rfl (fun _ h => (h.sub (by first | exact S0 | exact S1 | repeat (first | exact S1 | exact S0 | apply S2 | apply S3)))) H28 ?_
      clear H28; intro a29 H29
      refine htake 9 rfl (by kernel_rfl) (y_loadB rfl z_agg9 rfl (by repeat (first | exact Mh | apply Mt)) q_ix_c4b32b32_3) rfl rfl rfl (fun _ h => (h.sub (by first | exact S0 | exact S1 | repeat (first | exact S1 | exact S0 | apply S2 | apply S3)))) H29 ?_
      clear H29; intro a30 H30
      refine htake 10 rfl (by kernel_rfl) (y_fieldB rfl z_field35_4 rfl (by first | (simp only [Nat.zero_add, Nat.add_zero, Nat.reduceAdd]; rfl) | rfl)) rfl rfl rfl (fun _ h => (h.sub (by first | exact S0 | exact S1 | repeat (first | exact S1 | exact S0 | apply S2 | apply S3)))) H30 ?_
      clear H30; intro a31 H31
      refine htake 11 rfl (by kernel_rfl) (y_slA_all rfl Tryd.underlying23 z_size5 (by decide) rfl) rfl rfl rfl (fun _ h => (h.sub (by first | exact S0 | exact S1 | repeat (first | exact S1 | exact S0 | apply S2 | apply S3)))) H31 ?_
      clear H31; intro a32 H32
      refine htake 12 rfl (by kernel_rfl) (y_bstrN rfl Tryd.underlying64 Tryd.underlying5 Tryd.underlying9 rfl (rd_blk (by repeat (first | exact Mh | apply Mt)) 32 (q_ld_c4b32b32_4_32 (by first | assumption | exact Note.link_len _))) (Eq.symm (by first | assumption | exact Note.link_len _))) rfl rfl rfl (fun _ h => (h.sub (by first | exact S0 | exact S1 | repeat (first | exact S1 | exact S0 | apply S2 | apply S3)))) H32 ?_
      clear H32; intro a33 H33
      refine htake 13 rfl (by kernel_rfl) (y_fieldB rfl z_field35_5 rfl (by first | (simp only [Nat.zero_add, Nat.add_zero, Nat.reduceAdd]; rfl) | rfl)) rfl rfl rfl (fun _ h => (h.sub (by first | exact S0 | exact S1 | repeat (first | exact S1 | exact S0 | apply S2 | apply S3)))) H33 ?_
      clear H33; intro a34 H34
      refine htake 14 rfl (by kernel_rfl) (y_slA_all rfl Tryd.underlying23 z_size5 (by decide) rfl) rfl rfl rfl (fun _ h => (h.sub (by first | exact S0 | exact S1 | repeat (first | exact S1 | exact S0 | apply S2 | apply S3)))) H34 ?_
      clear H34; intro a35 H35
      refine htake 15 rfl (by kernel_rfl) (y_bstrN rfl Tryd.underlying64 Tryd.underlying5 Tryd.underlying9 rfl (rd_blk (by repeat (first | exact Mh | apply Mt)) 32 (q_ld_c4b32b32_36_32 (by first | assumption | exact Note.link_len _) (by first | assumption | exact Note.link_len _))) (Eq.symm (by first | assumption | exact Note.link_len _))) rfl rfl rfl (fun _ h => (h.sub (by first | exact S0 | exact S1 | repeat (first | exact S1 | exact S0 | apply S2 | apply S3)))) H35 ?_
      clear H35; intro a36 H36
      refine hgo2 6 16 rfl rfl (by kernel_rfl) ?_ ?_
      · skip
        refine st_buildSlice1 (xs := [.tmp 15, .tmp 17, .tmp 19]) rfl Tryd.underlying83 z_size3 z_zero3 rfl rfl rfl rfl rfl rfl rfl rfl rfl H36 ?_
        clear H36; intro b37 a37 wx37 H37
        refine hfin (H37.sep.sub (by first | exact S0 | exact S1 | repeat (first | exact S1 | exact S0 | apply S2 | apply S3))) ?_
        refine hgo2 7 16 rfl rfl (by kernel_rfl) ?_ ?_
        · skip
          refine st_call rfl z_call36 rfl rfl rfl rfl H37 (nlay [r.index, r.kind, r.time] _ _ _ rfl (by simp) (by intro x hx; simp only [List.mem_cons, List.not_mem_nil, or_false] at hx; rcases hx with rfl | rfl | rfl <;> first | exact wf.index.2 | exact wf.kind.2 | exact wf.time.2) (Rd.ofSep (rd_blkA (by repeat (first | exact Mh | apply Mt))) H37.sep)) ?_
          clear H37; intro v38 l38 a38 wx38 hf38 H38
          obtain rfl := hf38
          simp only [List.cons_append, List.nil_append] at H38
          obtain ⟨Ar38, cr38, hvr38, hRr38, hmr38⟩ := row_shape (v := v38) H38.sep (by repeat (first | exact Mh | apply Mt))
          subst hvr38
          refine hfin (H38.sep.sub (by first | exact S0 | exact S1 | repeat (first | exact S1 | exact S0 | apply S2 | apply S3))) ?_
          refine hgo 16 rfl (by kernel_rfl) ?_
          refine st_buildSlice1 (xs := [.tmp 23, .tmp 26, .tmp 29]) rfl Tryd.underlying49 z_size9 z_zero9 rfl rfl rfl rfl rfl rfl rfl rfl rfl H38 ?_
          clear H38; intro b39 a39 wx39 H39
          refine hfin (H39.sep.sub (by first | exact S0 | exact S1 | repeat (first | exact S1 | exact S0 | apply S2 | apply S3))) ?_
          refine hgo 17 rfl (by kernel_rfl) ?_
          refine st_append rfl z_slice49 z_notint49 rfl rfl (fun _ => (by repeat (first | exact Uh | apply Ut))) (fun w hs => Src.slice ((rd_blkA (by repeat (first | exact Mh | apply Mt))) w hs) rfl (by simp [Value.oneCell'])) (by unfold maxLen at *; first | omega | (simp only [List.length_cons, List.length_nil, List.length_append, List.length_map]; omega)) (by first | omega | (simp only [List.length_cons, List.length_nil, List.length_append, List.length_map]; omega)) rfl rfl rfl H39 ?_
          clear H39; intro v40 a40 wx40 hnil40 H40
          obtain ⟨Ar40, cr40, hvr40, hRr40, hmr40⟩ := row_shape (v := v40) H40.sep (by repeat (first | exact Mh | apply Mt))
          subst hvr40
          refine hfin (H40.sep.sub (by first | exact S0 | exact S1 | repeat (first | exact S1 | exact S0 | apply S2 | apply S3))) ?_
          refine hgo 18 rfl (by kernel_rfl) ?_
          refine st_callg rfl z_call35 rfl rfl rfl rfl H40 (nwrite [Note.num r.index, Note.num r.kind, Note.num r.time, r.body, r.prev, r.hash] _ _ _ rfl (Rd.ofSep (rd_row (by repeat (first | exact Mh | apply Mt))) H40.sep) (by simp)) ?_
          clear H40; intro a41 wx41 H41
          refine hfin (H41.sep.sub (by first | exact S0 | exact S1 | repeat (first | exact S1 | exact S0 | apply S2 | apply S3))) ?_
          refine htake 19 rfl (by kernel_rfl) (y_extract rfl rfl rfl) rfl rfl rfl (fun _ h => (h.sub (by first | exact S0 | exact S1 | repeat (first | exact S1 | exact S0 | apply S2 | apply S3)))) H41 ?_
          clear H41; intro a42 H42
          refine htake 20 rfl (by kernel_rfl) (y_extract rfl rfl rfl) rfl rfl rfl (fun _ h => (h.sub (by first | exact S0 | exact S1 | repeat (first | exact S1 | exact S0 | apply S2 | apply S3)))) H42 ?_
          clear H42; intro a43 H43
          refine htake 21 rfl (by kernel_rfl) (y_assign rfl rfl) rfl rfl rfl (fun _ h => (h.sub (by first | exact S0 | exact S1 | repeat (first | exact S1 | exact S0 | apply S2 | apply S3)))) H43 ?_
          clear H43; intro a44 H44
          refine htake 22 rfl (by kernel_rfl) (y_assign rfl rfl) rfl rfl rfl (fun _ h => (h.sub (by first | exact S0 | exact S1 | repeat (first | exact S1 | exact S0 | apply S2 | apply S3)))) H44 ?_
          clear H44; intro a45 H45
          refine hdone (by kernel_rfl) ?_
          refine then_n ?_
          refine wp_ret ?_
          -- return 3
          refine ret2 rfl H45 rfl rfl ?_
          exact ⟨_, [], rfl, ⟨by rw [Note.writeReceipt, if_pos hk, if_pos hh], rfl⟩, H45.sep.sub (List.nil_sublist _)⟩
        · skip
          refine st_buildSlice1 (xs := [.tmp 23, .tmp 26, .tmp 29]) rfl Tryd.underlying49 z_size9 z_zero9 rfl rfl rfl rfl rfl rfl rfl rfl rfl H37 ?_
          clear H37; intro b46 a46 wx46 H46
          refine hfin (H46.sep.sub (by first | exact S0 | exact S1 | repeat (first | exact S1 | exact S0 | apply S2 | apply S3))) ?_
          refine hgo 7 rfl (by kernel_rfl) ?_
          refine st_call rfl z_call36 rfl rfl rfl rfl H46 (nlay [r.index, r.kind, r.time] _ _ _ rfl (by simp) (by intro x hx; simp only [List.mem_cons, List.not_mem_nil, or_false] at hx; rcases hx with rfl | rfl | rfl <;> first | exact wf.index.2 | exact wf.kind.2 | exact wf.time.2) (Rd.ofSep (rd_blkA (by repeat (first | exact Mh | apply Mt))) H46.sep)) ?_
          clear H46; intro v47 l47 a47 wx47 hf47 H47
          obtain rfl := hf47
          simp only [List.cons_append, List.nil_append] at H47
          obtain ⟨Ar47, cr47, hvr47, hRr47, hmr47⟩ := row_shape (v := v47) H47.sep (by repeat (first | exact Mh | apply Mt))
          subst hvr47
          refine hfin (H47.sep.sub (by first | exact S0 | exact S1 | repeat (first | exact S1 | exact S0 | apply S2 | apply S3))) ?_
          refine hgo 17 rfl (by kernel_rfl) ?_
          refine st_append rfl z_slice49 z_notint49 rfl rfl (fun _ => (by repeat (first | exact Uh | apply Ut))) (fun w hs => Src.slice ((rd_blkA (by repeat (first | exact Mh | apply Mt))) w hs) rfl (by simp [Value.oneCell'])) (by unfold maxLen at *; first | omega | (simp only [List.length_cons, List.length_nil, List.length_append, List.length_map]; omega)) (by first | omega | (simp only [List.length_cons, List.length_nil, List.length_append, List.length_map]; omega)) rfl rfl rfl H47 ?_
          clear H47; intro v48 a48 wx48 hnil48 H48
          obtain ⟨Ar48, cr48, hvr48, hRr48, hmr48⟩ := row_shape (v := v48) H48.sep (by repeat (first | exact Mh | apply Mt))
          subst hvr48
          refine hfin (H48.sep.sub (by first | exact S0 | exact S1 | repeat (first | exact S1 | exact S0 | apply S2 | apply S3))) ?_
          refine hgo 18 rfl (by kernel_rfl) ?_
          refine st_callg rfl z_call35 rfl rfl rfl rfl H48 (nwrite [Note.num r.index, Note.num r.kind, Note.num r.time, r.body, r.prev, r.hash] _ _ _ rfl (Rd.ofSep (rd_row (by repeat (first | exact Mh | apply Mt))) H48.sep) (by simp)) ?_
          clear H48; intro a49 wx49 H49
          refine hfin (H49.sep.sub (by first | exact S0 | exact S1 | repeat (first | exact S1 | exact S0 | apply S2 | apply S3))) ?_
          refine htake 19 rfl (by kernel_rfl) (y_extract rfl rfl rfl) rfl rfl rfl (fun _ h => (h.sub (by first | exact S0 | exact S1 | repeat (first | exact S1 | exact S0 | apply S2 | apply S3)))) H49 ?_
          clear H49; intro a50 H50
          refine htake 20 rfl (by kernel_rfl) (y_extract rfl rfl rfl) rfl rfl rfl (fun _ h => (h.sub (by first | exact S0 | exact S1 | repeat (first | exact S1 | exact S0 | apply S2 | apply S3)))) H50 ?_
          clear H50; intro a51 H51
          refine htake 21 rfl (by kernel_rfl) (y_assign rfl rfl) rfl rfl rfl (fun _ h => (h.sub (by first | exact S0 | exact S1 | repeat (first | exact S1 | exact S0 | apply S2 | apply S3)))) H51 ?_
          clear H51; intro a52 H52
          refine htake 22 rfl (by kernel_rfl) (y_assign rfl rfl) rfl rfl rfl (fun _ h => (h.sub (by first | exact S0 | exact S1 | repeat (first | exact S1 | exact S0 | apply S2 | apply S3)))) H52 ?_
          clear H52; intro a53 H53
          refine hdone (by kernel_rfl) ?_
          refine then_n ?_
          refine wp_ret ?_
          -- return 4
          refine ret2 rfl H53 rfl rfl ?_
          exact ⟨_, [], rfl, ⟨by rw [Note.writeReceipt, if_pos hk, if_pos hh], rfl⟩, H53.sep.sub (List.nil_sublist _)⟩
      · skip
        refine st_buildSlice1 (xs := [.tmp 23, .tmp 26, .tmp 29]) rfl Tryd.underlying49 z_size9 z_zero9 rfl rfl rfl rfl rfl rfl rfl rfl rfl H36 ?_
        clear H36; intro b54 a54 wx54 H54
        refine hfin (H54.sep.sub (by first | exact S0 | exact S1 | repeat (first | exact S1 | exact S0 | apply S2 | apply S3))) ?_
        refine hgo 6 rfl (by kernel_rfl) ?_
        refine st_buildSlice1 (xs := [.tmp 15, .tmp 17, .tmp 19]) rfl Tryd.underlying83 z_size3 z_zero3 rfl rfl rfl rfl rfl rfl rfl rfl rfl H54 ?_
        clear H54; intro b55 a55 wx55 H55
        refine hfin (H55.sep.sub (by first | exact S0 | exact S1 | repeat (first | exact S1 | exact S0 | apply S2 | apply S3))) ?_
        refine hgo 7 rfl (by kernel_rfl) ?_
        refine st_call rfl z_call36 rfl rfl rfl rfl H55 (nlay [r.index, r.kind, r.time] _ _ _ rfl (by simp) (by intro x hx; simp only [List.mem_cons, List.not_mem_nil, or_false] at hx; rcases hx with rfl | rfl | rfl <;> first | exact wf.index.2 | exact wf.kind.2 | exact wf.time.2) (Rd.ofSep (rd_blkA (by repeat (first | exact Mh | apply Mt))) H55.sep)) ?_
        clear H55; intro v56 l56 a56 wx56 hf56 H56
        obtain rfl := hf56
        simp only [List.cons_append, List.nil_append] at H56
        obtain ⟨Ar56, cr56, hvr56, hRr56, hmr56⟩ := row_shape (v := v56) H56.sep (by repeat (first | exact Mh | apply Mt))
        subst hvr56
        refine hfin (H56.sep.sub (by first | exact S0 | exact S1 | repeat (first | exact S1 | exact S0 | apply S2 | apply S3))) ?_
        refine hgo 17 rfl (by kernel_rfl) ?_
        refine st_append rfl z_slice49 z_notint49 rfl rfl (fun _ => (by repeat (first | exact Uh | apply Ut))) (fun w hs => Src.slice ((rd_blkA (by repeat (first | exact Mh | apply Mt))) w hs) rfl (by simp [Value.oneCell'])) (by unfold maxLen at *; first | omega | (simp only [List.length_cons, List.length_nil, List.length_append, List.length_map]; omega)) (by first | omega | (simp only [List.length_cons, List.length_nil, List.length_append, List.length_map]; omega)) rfl rfl rfl H56 ?_
        clear H56; intro v57 a57 wx57 hnil57 H57
        obtain ⟨Ar57, cr57, hvr57, hRr57, hmr57⟩ := row_shape (v := v57) H57.sep (by repeat (first | exact Mh | apply Mt))
        subst hvr57
        refine hfin (H57.sep.sub (by first | exact S0 | exact S1 | repeat (first | exact S1 | exact S0 | apply S2 | apply S3))) ?_
        refine hgo 18 rfl (by kernel_rfl) ?_
        refine st_callg rfl z_call35 rfl rfl rfl rfl H57 (nwrite [Note.num r.index, Note.num r.kind, Note.num r.time, r.body, r.prev, r.hash] _ _ _ rfl (Rd.ofSep (rd_row (by repeat (first | exact Mh | apply Mt))) H57.sep) (by simp)) ?_
        clear H57; intro a58 wx58 H58
        refine hfin (H58.sep.sub (by first | exact S0 | exact S1 | repeat (first | exact S1 | exact S0 | apply S2 | apply S3))) ?_
        refine htake 19 rfl (by kernel_rfl) (y_extract rfl rfl rfl) rfl rfl rfl (fun _ h => (h.sub (by first | exact S0 | exact S1 | repeat (first | exact S1 | exact S0 | apply S2 | apply S3)))) H58 ?_
        clear H58; intro a59 H59
        refine htake 20 rfl (by kernel_rfl) (y_extract rfl rfl rfl) rfl rfl rfl (fun _ h => (h.sub (by first | exact S0 | exact S1 | repeat (first | exact S1 | exact S0 | apply S2 | apply S3)))) H59 ?_
        clear H59; intro a60 H60
        refine htake 21 rfl (by kernel_rfl) (y_assign rfl rfl) rfl rfl rfl (fun _ h => (h.sub (by first | exact S0 | exact S1 | repeat (first | exact S1 | exact S0 | apply S2 | apply S3)))) H60 ?_
        clear H60; intro a61 H61
        refine htake 22 rfl (by kernel_rfl) (y_assign rfl rfl) rfl rfl rfl (fun _ h => (h.sub (by first | exact S0 | exact S1 | repeat (first | exact S1 | exact S0 | apply S2 | apply S3)))) H61 ?_
        clear H61; intro a62 H62
        refine hdone (by kernel_rfl) ?_
        refine then_n ?_
        refine wp_ret ?_
        -- return 5
        refine ret2 rfl H62 rfl rfl ?_
        exact ⟨_, [], rfl, ⟨by rw [Note.writeReceipt, if_pos hk, if_pos hh], rfl⟩, H62.sep.sub (List.nil_sublist _)⟩

end Go.Proofs.YtnnhnnhdoipbaaaDoor.N_Rec

set_option linter.unusedVariables false
set_option linter.unusedSimpArgs false
namespace Go.Proofs.YtnnhnnhdoipbaaaDoor.N_Fields
open Go.Sx Go.RowKit Go.Proofs.YtnnhnnhdoipbaaaDoor.N_Num Go.Proofs.YtnnhnnhdoipbaaaDoor.N_Read

theorem z_call63 : callB Tryd.prog 63 = true := by kernel_rfl
theorem z_size80 : sizeB Tryd.prog 80 = some 1 := by kernel_rfl
theorem z_agg80 : aggB Tryd.prog 80 = some false := by kernel_rfl
theorem z_size9 : sizeB Tryd.prog 9 = some 1 := by kernel_rfl
theorem z_agg9 : aggB Tryd.prog 9 = some false := by kernel_rfl
theorem z_call64 : callB Tryd.prog 64 = true := by kernel_rfl
theorem z_size3 : sizeB Tryd.prog 3 = some 1 := by kernel_rfl

set_option maxRecDepth 100000 in
set_option maxHeartbeats 2000000 in
theorem nfields (s : List UInt8) (hs : s.length ≤ 1000000000000000000) (b : Nat) (E : Nat) (cs : List Value) (k : Nat) (hk : k ≤ cs.length) (hk5 : k ≤ 5) (A : Option Addr) (c : Nat) {w : World} (hb : (It.blk b E cs).P w) (hR : Rd w A (ptrs b k)) (hA : ∀ ad, A = some ad → ad.block ≠ b) : Calls Tryd.prog 51 #[str s, .slice A k c] w (Post [b] w fun u l2 => ∃ i' R, l2 = i' :: R ∧ (fun u i' R => ∃ cs', i' = It.blk b E cs' ∧ ((∃ (ns : List Int) (A' : Option Addr) (c' : Nat) (L : List (List UInt8)), Note.fields s k = some (ns, L.drop k) ∧ cs' = ns.map i64 ++ cs.drop k ∧ ns.length = k ∧ R = [It.row 9 1 (.slice A' L.length c') L.length (L.map str)] ∧ k ≤ L.length ∧ L.length ≤ 1024 ∧ L.length ≤ c' ∧ u = .tuple #[.slice (if c' = k then A' else A'.map (·.add (k * 1))) (L.length - k) (c' - k), .bool true] ∧ (∀ x ∈ ns, 0 ≤ x ∧ x ≤ 9223372036854775807) ∧ (∀ x ∈ L, x.length ≤ 65536)) ∨ (Note.fields s k = none ∧ R = [] ∧ u = .tuple #[.slice none 0 0, .bool false]))) u i' R) := by
  have lz32 : (List.replicate 32 (0 : UInt8)).length = 32 := List.length_replicate
  refine enterL (args := [str s, .slice A k c]) Tryd.func51 rfl rfl (l := [It.blk b E cs]) (Sep.one (i := It.blk b E cs) hb) ?_
  intro a0 H0
  refine wp_seq ?_
  refine reg ?_
  refine plain (y_assign rfl rfl) rfl rfl rfl H0 ?_
  clear H0; intro a1 H1
  refine plain (y_assign rfl rfl) rfl rfl rfl H1 ?_
  clear H1; intro a2 H2
  refine fin ?_
  refine then_n ?_
  refine wp_seq ?_
  refine reg ?_
  refine plain (y_move rfl rfl) rfl rfl rfl H2 ?_
  clear H2; intro a3 H3
  refine st_call rfl z_call63 rfl rfl rfl rfl H3 (rlst s 0 hs (by omega) _) ?_
  clear H3; intro v4 l4 a4 wx4 hf4 H4
  obtain ⟨vt4, rfl, rfl⟩ := hf4
  simp only [List.cons_append, List.nil_append] at H4
  obtain ⟨ArL, crL, hvrL, hRrL, hmrL⟩ := row_shape (v := vt4) H4.sep (by repeat (first | exact Mh | apply Mt))
  subst hvrL
  have hcap := row_cap H4.sep (List.Mem.head _)
  have hrlen := Oct.rdl_len (s := s) (p := 0)
  refine plain (y_move rfl rfl) rfl rfl rfl H4 ?_
  clear H4; intro a5 H5
  refine plain (y_extract rfl rfl rfl) rfl rfl rfl H5 ?_
  clear H5; intro a6 H6
  refine plain (y_extract rfl rfl rfl) rfl rfl rfl H6 ?_
  clear H6; intro a7 H7
  refine plain (y_extract rfl rfl rfl) rfl rfl rfl H7 ?_
  clear H7; intro a8 H8
  refine plain (y_assign rfl rfl) rfl rfl rfl H8 ?_
  clear H8; intro a9 H9
  refine plain (y_assign rfl rfl) rfl rfl rfl H9 ?_
  clear H9; intro a10 H10
  refine plain (y_assign rfl rfl) rfl rfl rfl H10 ?_
  clear H10; intro a11 H11
  refine fin ?_
  refine then_n ?_
  refine wp_seq ?_
  refine wp_seq ?_
  refine reg ?_
  refine plain (y_move rfl rfl) rfl rfl rfl H11 ?_
  clear H11; intro a12 H12
  refine plain (y_neq rfl rfl rfl) rfl rfl rfl H12 ?_
  clear H12; intro a13 H13
  refine plain (y_move rfl rfl) rfl rfl rfl H13 ?_
  clear H13; intro a14 H14
  refine Sx.part (d := 22) H14 rfl (fun hg15 => ?_) (fun hg15 => ?_)
  · first
    | fail
    | skip
      clear H14; intro H16
      try simp only [decide_eq_true_eq, decide_eq_false_iff_not, Bool.not_eq_true', Bool.not_eq_false', Bool.and_eq_true, Bool.not_eq_true, Bool.not_eq_false] at hg15
      refine skip rfl rfl rfl H16 ?_
      clear H16; intro a17 H17
      refine skip rfl rfl rfl H17 ?_
      clear H17; intro a18 H18
      refine skip rfl rfl rfl H18 ?_
      clear H18; intro a19 H19
      refine skip rfl rfl rfl H19 ?_
      clear H19; intro a20 H20
      refine plain (y_pick_t rfl rfl rfl) rfl rfl rfl H20 ?_
      clear H20; intro a21 H21
      refine plain (y_move rfl rfl) rfl rfl rfl H21 ?_
      clear H21; intro a22 H22
      refine skip rfl rfl rfl H22 ?_
      clear H22; intro a23 H23
      refine skip rfl rfl rfl H23 ?_
      clear H23; intro a24 H24
      refine skip rfl rfl rfl H24 ?_
      clear H24; intro a25 H25
      refine skip rfl rfl rfl H25 ?_
      clear H25; intro a26 H26
      refine skip rfl rfl rfl H26 ?_
      clear H26; intro a27 H27
      refine plain (y_pick_t rfl rfl rfl) rfl rfl rfl H27 ?_
      clear H27; intro a28 H28
      refine fin ?_
      refine then_n ?_
      refine cnd_t H28 rfl ?_
      refine wp_seq ?_
      refine reg ?_
      refine plain (y_assign rfl rfl) rfl rfl rfl H28 ?_
      clear H28; intro a30 H30
      refine plain (y_assign rfl rfl) rfl rfl rfl H30 ?_
      clear H30; intro a31 H31
      refine fin ?_
      refine then_n ?_
      refine wp_ret ?_
      refine then_r ?_
      -- return 1
      refine ret2 rfl H31 rfl rfl ?_
      refine ⟨_, _, rfl, ⟨_, [], rfl, _, rfl, .inr ⟨?_, rfl, rfl⟩⟩, H31.sep.sub (by first | exact S0 | exact S1 | repeat (first | exact S1 | exact S0 | apply S2 | apply S3))⟩
      exact Note.fields_bad (.inl (by assumption))
  · first
    | fail
    | skip
      clear H14; intro H32
      try simp only [decide_eq_true_eq, decide_eq_false_iff_not, Bool.not_eq_true', Bool.not_eq_false', Bool.and_eq_true, Bool.not_eq_true, Bool.not_eq_false] at hg15
      refine plain (y_move rfl rfl) rfl rfl rfl H32 ?_
      clear H32; intro a33 H33
      refine plain (y_move rfl rfl) rfl rfl rfl H33 ?_
      clear H33; intro a34 H34
      refine plain (y_slen rfl Tryd.underlying9 rfl) rfl rfl rfl H34 ?_
      clear H34; intro a35 H35
      refine plain (y_neq rfl rfl rfl) rfl rfl rfl H35 ?_
      clear H35; intro a36 H36
      refine plain (y_pick_f rfl rfl rfl) rfl rfl rfl H36 ?_
      clear H36; intro a37 H37
      refine plain (y_move rfl rfl) rfl rfl rfl H37 ?_
      clear H37; intro a38 H38
      refine Sx.part (d := 28) H38 rfl (fun hg39 => ?_) (fun hg39 => ?_)
      · first
        | fail
        | skip
          clear H38; intro H40
          try simp only [decide_eq_true_eq, decide_eq_false_iff_not, Bool.not_eq_true', Bool.not_eq_false', Bool.and_eq_true, Bool.not_eq_true, Bool.not_eq_false] at hg39
          refine skip rfl rfl rfl H40 ?_
          clear H40; intro a41 H41
          refine skip rfl rfl rfl H41 ?_
          clear H41; intro a42 H42
          refine skip rfl rfl rfl H42 ?_
          clear H42; intro a43 H43
          refine skip rfl rfl rfl H43 ?_
          clear H43; intro a44 H44
          refine skip rfl rfl rfl H44 ?_
          clear H44; intro a45 H45
          refine plain (y_pick_t rfl rfl rfl) rfl rfl rfl H45 ?_
          clear H45; intro a46 H46
          refine fin ?_
          refine then_n ?_
          refine cnd_t H46 rfl ?_
          refine wp_seq ?_
          refine reg ?_
          refine plain (y_assign rfl rfl) rfl rfl rfl H46 ?_
          clear H46; intro a48 H48
          refine plain (y_assign rfl rfl) rfl rfl rfl H48 ?_
          clear H48; intro a49 H49
          refine fin ?_
          refine then_n ?_
          refine wp_ret ?_
          refine then_r ?_
          -- return 2
          refine ret2 rfl H49 rfl rfl ?_
          refine ⟨_, _, rfl, ⟨_, [], rfl, _, rfl, .inr ⟨?_, rfl, rfl⟩⟩, H49.sep.sub (by first | exact S0 | exact S1 | repeat (first | exact S1 | exact S0 | apply S2 | apply S3))⟩
          exact Note.fields_bad (.inr (by assumption))
      · first
        | fail
        | skip
          clear H38; intro H50
          try simp only [decide_eq_true_eq, decide_eq_false_iff_not, Bool.not_eq_true', Bool.not_eq_false', Bool.and_eq_true, Bool.not_eq_true, Bool.not_eq_false] at hg39
          refine plain (y_move rfl rfl) rfl rfl rfl H50 ?_
          clear H50; intro a51 H51
          refine plain (y_len rfl Tryd.underlying49 rfl) rfl rfl rfl H51 ?_
          clear H51; intro a52 H52
          refine plain (y_move rfl rfl) rfl rfl rfl H52 ?_
          clear H52; intro a53 H53
          refine plain (y_len rfl Tryd.underlying90 rfl) rfl rfl rfl H53 ?_
          clear H53; intro a54 H54
          refine plain (y_lss rfl rfl rfl) rfl rfl rfl H54 ?_
          clear H54; intro a55 H55
          refine plain (y_pick_f rfl rfl rfl) rfl rfl rfl H55 ?_
          clear H55; intro a56 H56
          refine fin ?_
          refine then_n ?_
          refine cnd H56 rfl (fun hc57 => ?_) (fun hc57 => ?_) -- cond 3
          · skip
            try simp only [decide_eq_true_eq, decide_eq_false_iff_not, Bool.not_eq_true', Bool.not_eq_false', Bool.and_eq_true, Bool.not_eq_true, Bool.not_eq_false] at hc57
            refine wp_seq ?_
            refine reg ?_
            refine plain (y_assign rfl rfl) rfl rfl rfl H56 ?_
            clear H56; intro a58 H58
            refine plain (y_assign rfl rfl) rfl rfl rfl H58 ?_
            clear H58; intro a59 H59
            refine fin ?_
            refine then_n ?_
            refine wp_ret ?_
            refine then_r ?_
            -- return 3
            refine ret2 rfl H59 rfl rfl ?_
            refine ⟨_, _, rfl, ⟨_, [], rfl, _, rfl, .inr ⟨?_, rfl, rfl⟩⟩, H59.sep.sub (by first | exact S0 | exact S1 | repeat (first | exact S1 | exact S0 | apply S2 | apply S3))⟩
            exact Note.fields_short (Note.whole_ok (by omega) (by omega)) (by omega)
          · skip
            try simp only [decide_eq_true_eq, decide_eq_false_iff_not, Bool.not_eq_true', Bool.not_eq_false', Bool.and_eq_true, Bool.not_eq_true, Bool.not_eq_false] at hc57
            refine wp_skip ?_
            refine then_n ?_
            refine wp_seq ?_
            refine wp_seq ?_
            refine reg ?_
            refine plain (y_move rfl rfl) rfl rfl rfl H56 ?_
            clear H56; intro a60 H60
            refine plain (y_len rfl Tryd.underlying90 rfl) rfl rfl rfl H60 ?_
            clear H60; intro a61 H61
            refine plain (y_move rfl rfl) rfl rfl rfl H61 ?_
            clear H61; intro a62 H62
            refine fin ?_
            refine then_n ?_
            refine wp_block ?_
            have he : (Oct.rdl s 0).2.2 = 0 := by omega
            have hbl := Note.elem_le he
            have hwh := Note.whole_ok he (by omega)
            refine loop (ι := Nat) (fun i => [(0, str s), (1, .slice A k c), (6, .slice ArL (Oct.rdl s 0).1.length crL), (35, .slice A k c), (36, .int .i64 (k : Int)), (37, .int .i64 (i : Int))]) (fun i => [It.row 9 1 (.slice ArL (Oct.rdl s 0).1.length crL) (Oct.rdl s 0).1.length ((Oct.rdl s 0).1.map str), It.blk b E ((((Oct.rdl s 0).1.take i).map fun t => (Note.wn t).1).map i64 ++ cs.drop i)]) (fun i => i ≤ k ∧ (((Oct.rdl s 0).1.take i)).all Note.okn = true) (fun i => k - i) (0) ⟨Nat.zero_le _, rfl⟩ (H62.weak ⟨rfl, rfl, rfl, rfl, rfl, rfl, trivial⟩ rfl) ?_
            clear H62; intro i a63 wx63 hok63 H63
            have hok := hok63
            refine wp_seq ?_
            refine reg ?_
            refine plain (y_lss rfl rfl rfl) rfl rfl rfl H63 ?_
            clear H63; intro a64 H64
            refine fin ?_
            refine then_n ?_
            refine wp_seq ?_
            refine cnd H64 rfl (fun hc65 => ?_) (fun hc65 => ?_) -- cond 4
            · skip
              try simp only [decide_eq_true_eq, decide_eq_false_iff_not, Bool.not_eq_true', Bool.not_eq_false', Bool.and_eq_true, Bool.not_eq_true, Bool.not_eq_false] at hc65
              refine wp_skip ?_
              refine then_n ?_
              refine wp_seq ?_
              refine wp_block ?_
              refine wp_seq ?_
              refine reg ?_
              refine plain (y_move rfl rfl) rfl rfl rfl H64 ?_
              clear H64; intro a66 H66
              refine plain (y_ixR rfl Tryd.underlying90 z_size80 rfl rfl (by omega) (by omega) (rd_old hR (fun ad e h => hA ad e (List.mem_singleton.1 h))) (by rw [ptrs_len]; omega)) rfl rfl rfl H66 ?_
              clear H66; intro a67 H67
              refine plain (y_loadR rfl z_agg80 rfl (rd_old hR (fun ad e h => hA ad e (List.mem_singleton.1 h))) (show _ = some (.pointer (some ⟨b, i, none⟩)) by rw [show (i : Int).toNat * 1 = i by omega]; exact ptrs_get (by omega))) rfl rfl rfl H67 ?_
              clear H67; intro a68 H68
              refine plain (y_assign rfl rfl) rfl rfl rfl H68 ?_
              clear H68; intro a69 H69
              refine plain (y_assign rfl rfl) rfl rfl rfl H69 ?_
              clear H69; intro a70 H70
              refine fin ?_
              refine then_n ?_
              refine wp_seq ?_
              refine reg ?_
              refine plain (y_move rfl rfl) rfl rfl rfl H70 ?_
              clear H70; intro a71 H71
              refine plain (y_move rfl rfl) rfl rfl rfl H71 ?_
              clear H71; intro a72 H72
              refine plain (y_ixR rfl Tryd.underlying49 z_size9 rfl rfl (by omega) (by omega) (rd_row (by repeat (first | exact Mh | apply Mt))) (by rw [List.length_map]; omega)) rfl rfl rfl H72 ?_
              clear H72; intro a73 H73
              refine plain (y_loadR rfl z_agg9 rfl (rd_row (by repeat (first | exact Mh | apply Mt))) (by simp only [Int.toNat_natCast, Nat.mul_one, Nat.add_zero]; exact map_get _ _ _ [] (by omega))) rfl rfl rfl H73 ?_
              clear H73; intro a74 H74
              refine st_callg rfl z_call64 rfl rfl rfl rfl H74 (rnum _ 0 (by have := hbl ((((Oct.rdl s 0).1).getD i [])) (by rw [Oct.getD_eq [] (by omega)]; exact List.getElem_mem _); omega) (by omega) _) ?_
              clear H74; intro a75 wx75 H75
              refine plain (y_move rfl rfl) rfl rfl rfl H75 ?_
              clear H75; intro a76 H76
              refine plain (y_extract rfl rfl rfl) rfl rfl rfl H76 ?_
              clear H76; intro a77 H77
              refine plain (y_extract rfl rfl rfl) rfl rfl rfl H77 ?_
              clear H77; intro a78 H78
              refine plain (y_extract rfl rfl rfl) rfl rfl rfl H78 ?_
              clear H78; intro a79 H79
              refine plain (y_assign rfl rfl) rfl rfl rfl H79 ?_
              clear H79; intro a80 H80
              refine plain (y_assign rfl rfl) rfl rfl rfl H80 ?_
              clear H80; intro a81 H81
              refine plain (y_assign rfl rfl) rfl rfl rfl H81 ?_
              clear H81; intro a82 H82
              refine fin ?_
              refine then_n ?_
              refine wp_seq ?_
              refine wp_seq ?_
              refine reg ?_
              refine plain (y_move rfl rfl) rfl rfl rfl H82 ?_
              clear H82; intro a83 H83
              refine plain (y_neq rfl rfl rfl) rfl rfl rfl H83 ?_
              clear H83; intro a84 H84
              refine plain (y_move rfl rfl) rfl rfl rfl H84 ?_
              clear H84; intro a85 H85
              refine Sx.part (d := 53) H85 rfl (fun hg86 => ?_) (fun hg86 => ?_)
              · first
                | fail
                | skip
                  clear H85; intro H87
                  try simp only [decide_eq_true_eq, decide_eq_false_iff_not, Bool.not_eq_true', Bool.not_eq_false', Bool.and_eq_true, Bool.not_eq_true, Bool.not_eq_false] at hg86
                  refine skip rfl rfl rfl H87 ?_
                  clear H87; intro a88 H88
                  refine skip rfl rfl rfl H88 ?_
                  clear H88; intro a89 H89
                  refine skip rfl rfl rfl H89 ?_
                  clear H89; intro a90 H90
                  refine skip rfl rfl rfl H90 ?_
                  clear H90; intro a91 H91
                  refine skip rfl rfl rfl H91 ?_
                  clear H91; intro a92 H92
                  refine skip rfl rfl rfl H92 ?_
                  clear H92; intro a93 H93
                  refine skip rfl rfl rfl H93 ?_
                  clear H93; intro a94 H94
                  refine plain (y_pick_t rfl rfl rfl) rfl rfl rfl H94 ?_
                  clear H94; intro a95 H95
                  refine fin ?_
                  refine then_n ?_
                  refine cnd_t H95 rfl ?_
                  refine wp_seq ?_
                  refine reg ?_
                  refine plain (y_assign rfl rfl) rfl rfl rfl H95 ?_
                  clear H95; intro a97 H97
                  refine plain (y_assign rfl rfl) rfl rfl rfl H97 ?_
                  clear H97; intro a98 H98
                  refine fin ?_
                  refine then_n ?_
                  refine wp_ret ?_
                  refine then_r ?_
                  refine inb_r ?_
                  refine then_r ?_
                  refine then_r ?_
                  refine inb_r ?_
                  refine then_r ?_
                  -- return 4
                  refine ret2 rfl H98 rfl rfl ?_
                  refine ⟨_, _, rfl, ⟨_, [], rfl, _, rfl, .inr ⟨?_, rfl, rfl⟩⟩, H98.sep.sub (by first | exact S0 | exact S1 | repeat (first | exact S1 | exact S0 | apply S2 | apply S3))⟩
                  exact Note.fields_at hwh (by omega) (i := i) (by omega) (Note.okn_bad (.inl (by assumption)))
              · first
                | fail
                | skip
                  clear H85; intro H99
                  try simp only [decide_eq_true_eq, decide_eq_false_iff_not, Bool.not_eq_true', Bool.not_eq_false', Bool.and_eq_true, Bool.not_eq_true, Bool.not_eq_false] at hg86
                  refine plain (y_move rfl rfl) rfl rfl rfl H99 ?_
                  clear H99; intro a100 H100
                  refine plain (y_move rfl rfl) rfl rfl rfl H100 ?_
                  clear H100; intro a101 H101
                  refine plain (y_move rfl rfl) rfl rfl rfl H101 ?_
                  clear H101; intro a102 H102
                  refine plain (y_ixR rfl Tryd.underlying49 z_size9 rfl rfl (by omega) (by omega) (rd_row (by repeat (first | exact Mh | apply Mt))) (by rw [List.length_map]; omega)) rfl rfl rfl H102 ?_
                  clear H102; intro a103 H103
                  refine plain (y_loadR rfl z_agg9 rfl (rd_row (by repeat (first | exact Mh | apply Mt))) (by simp only [Int.toNat_natCast, Nat.mul_one, Nat.add_zero]; exact map_get _ _ _ [] (by omega))) rfl rfl rfl H103 ?_
                  clear H103; intro a104 H104
                  refine plain (y_slen rfl Tryd.underlying9 rfl) rfl rfl rfl H104 ?_
                  clear H104; intro a105 H105
                  refine plain (y_neq rfl rfl rfl) rfl rfl rfl H105 ?_
                  clear H105; intro a106 H106
                  refine plain (y_pick_f rfl rfl rfl) rfl rfl rfl H106 ?_
                  clear H106; intro a107 H107
                  refine fin ?_
                  refine then_n ?_
                  refine cnd H107 rfl (fun hc108 => ?_) (fun hc108 => ?_) -- cond 6
                  · skip
                    try simp only [decide_eq_true_eq, decide_eq_false_iff_not, Bool.not_eq_true', Bool.not_eq_false', Bool.and_eq_true, Bool.not_eq_true, Bool.not_eq_false] at hc108
                    refine wp_seq ?_
                    refine reg ?_
                    refine plain (y_assign rfl rfl) rfl rfl rfl H107 ?_
                    clear H107; intro a109 H109
                    refine plain (y_assign rfl rfl) rfl rfl rfl H109 ?_
                    clear H109; intro a110 H110
                    refine fin ?_
                    refine then_n ?_
                    refine wp_ret ?_
                    refine then_r ?_
                    refine inb_r ?_
                    refine then_r ?_
                    refine then_r ?_
                    refine inb_r ?_
                    refine then_r ?_
                    -- return 5
                    refine ret2 rfl H110 rfl rfl ?_
                    refine ⟨_, _, rfl, ⟨_, [], rfl, _, rfl, .inr ⟨?_, rfl, rfl⟩⟩, H110.sep.sub (by first | exact S0 | exact S1 | repeat (first | exact S1 | exact S0 | apply S2 | apply S3))⟩
                    exact Note.fields_at hwh (by omega) (i := i) (by omega) (Note.okn_bad (.inr (by assumption)))
                  · skip
                    try simp only [decide_eq_true_eq, decide_eq_false_iff_not, Bool.not_eq_true', Bool.not_eq_false', Bool.and_eq_true, Bool.not_eq_true, Bool.not_eq_false] at hc108
                    refine wp_skip ?_
                    refine then_n ?_
                    refine reg ?_
                    refine plain (y_move rfl rfl) rfl rfl rfl H107 ?_
                    clear H107; intro a111 H111
                    refine plain (y_move rfl rfl) rfl rfl rfl H111 ?_
                    clear H111; intro a112 H112
                    refine plain (y_nilCheck rfl rfl) rfl rfl rfl H112 ?_
                    clear H112; intro a113 H113
                    refine st_store1 rfl z_size3 rfl rfl rfl (by repeat (first | exact Uh | apply Ut)) (by first | decide | (simp; omega)) rfl rfl H113 ?_
                    clear H113; intro wx114 H114
                    refine fin ?_
                    refine inb_n ?_
                    refine then_n ?_
                    refine reg ?_
                    refine plain (y_add rfl rfl rfl (by first | exact w64 (by omega) (by omega) | rfl)) rfl rfl rfl H114 ?_
                    clear H114; intro a115 H115
                    refine plain (y_move rfl rfl) rfl rfl rfl H115 ?_
                    clear H115; intro a116 H116
                    refine fin ?_
                    refine then_n ?_
                    have hlt : i < (Oct.rdl s 0).1.length := by omega
                    refine ⟨i + 1, by omega, ⟨by omega, Note.take_all [] hlt hok.2 (Note.okn_good ?_ ?_)⟩, H116.weak ⟨rfl, rfl, rfl, rfl, rfl, fi rfl (by omega), trivial⟩ (ir2 rfl rfl (ib2 (Note.set_take _ _ _ _ hlt (by omega) ?_) rfl))⟩
                    · omega
                    · omega
                    · rw [Note.wn_good (by omega) (by omega)]
            · skip
              try simp only [decide_eq_true_eq, decide_eq_false_iff_not, Bool.not_eq_true', Bool.not_eq_false', Bool.and_eq_true, Bool.not_eq_true, Bool.not_eq_false] at hc65
              refine wp_exit ?_
              refine then_x ?_
              refine then_x ?_
              refine inb_hit ?_
              refine then_n ?_
              refine wp_seq ?_
              refine reg ?_
              refine plain (y_move rfl rfl) rfl rfl rfl H64 ?_
              clear H64; intro a117 H117
              refine plain (y_move rfl rfl) rfl rfl rfl H117 ?_
              clear H117; intro a118 H118
              refine plain (y_len rfl Tryd.underlying90 rfl) rfl rfl rfl H118 ?_
              clear H118; intro a119 H119
              refine plain (y_slS_lo rfl Tryd.underlying49 z_size9 rfl rfl (by omega) (by omega)) rfl rfl rfl H119 ?_
              clear H119; intro a120 H120
              refine plain (y_assign rfl rfl) rfl rfl rfl H120 ?_
              clear H120; intro a121 H121
              refine plain (y_assign rfl rfl) rfl rfl rfl H121 ?_
              clear H121; intro a122 H122
              refine fin ?_
              refine then_n ?_
              refine wp_ret ?_
              -- return 6
              refine ret2 rfl H122 rfl rfl ?_
              have hik : i = k := by omega
              subst hik
              refine ⟨_, _, rfl, ⟨_, _, rfl, _, rfl, .inl ⟨_, _, _, _, Note.fields_ok hwh (by omega) hok.2, rfl, by simp; omega, rfl, by omega, hrlen, hcap, rfl, ?_, hbl⟩⟩, H122.sep.perm (List.Perm.swap _ _ _)⟩
              intro x hx
              obtain ⟨t, _, rfl⟩ := List.mem_map.1 hx
              exact Note.wn_ge t

end Go.Proofs.YtnnhnnhdoipbaaaDoor.N_Fields

set_option linter.unusedVariables false
set_option linter.unusedSimpArgs false
namespace Go.Proofs.YtnnhnnhdoipbaaaDoor.N_RRec
open Go.Sx Go.RowKit Go.Proofs.YtnnhnnhdoipbaaaDoor.N_Block Go.Proofs.YtnnhnnhdoipbaaaDoor.N_Sum Go.Proofs.YtnnhnnhdoipbaaaDoor.N_Ref Go.Proofs.YtnnhnnhdoipbaaaDoor.N_RSum Go.Proofs.YtnnhnnhdoipbaaaDoor.N_Leaf Go.Proofs.YtnnhnnhdoipbaaaDoor.N_Num Go.Proofs.YtnnhnnhdoipbaaaDoor.N_Key Go.Proofs.YtnnhnnhdoipbaaaDoor.N_Lay Go.Proofs.YtnnhnnhdoipbaaaDoor.N_Read Go.Proofs.YtnnhnnhdoipbaaaDoor.N_Fields Go.Proofs.YtnnhnnhdoipbaaaDoor.N_Rec

theorem z_zeroN35 : zeroL Tryd.prog 35 = some ((.int .i64 0 :: (.int .i64 0 :: (.int .i64 0 :: (.string ⟨#[]⟩ :: ((List.replicate 32 (0 : UInt8)).map u8 ++ (List.replicate 32 (0 : UInt8)).map u8)))))) := by kernel_rfl
theorem z_field35_0 : fieldB Tryd.prog 35 0 = some 0 := by kernel_rfl
theorem z_field35_1 : fieldB Tryd.prog 35 1 = some 1 := by kernel_rfl
theorem z_field35_2 : fieldB Tryd.prog 35 2 = some 2 := by kernel_rfl
theorem z_size80 : sizeB Tryd.prog 80 = some 1 := by kernel_rfl
theorem z_zero80 : zeroL Tryd.prog 80 = some ([.pointer none]) := by kernel_rfl
theorem z_call51 : callB Tryd.prog 51 = true := by kernel_rfl
theorem z_places35 : placesB Tryd.prog 35 = some [(0, 1), (1, 1), (2, 1), (3, 1), (4, 32), (36, 32)] := by kernel_rfl
theorem z_size35 : sizeB Tryd.prog 35 = some 68 := by kernel_rfl
theorem q_one_c4b32b32 {a0 a1 a2 a3 : Value} {t4 t5 : List UInt8} (o0 : a0.oneCell' = true) (o1 : a1.oneCell' = true) (o2 : a2.oneCell' = true) (o3 : a3.oneCell' = true) : (a0 :: a1 :: a2 :: a3 :: (t4.map u8 ++ (t5.map u8))).all (·.oneCell') = true := (one_c o0 (one_c o1 (one_c o2 (one_c o3 (one_b (one_u8 _))))))
theorem q_len_c4b32b32 {a0 a1 a2 a3 : Value} {t4 t5 : List UInt8} (h4 : t4.length = 32) (h5 : t5.length = 32) : (a0 :: a1 :: a2 :: a3 :: (t4.map u8 ++ (t5.map u8))).length = 68 := (len_c (n := 67) (len_c (n := 66) (len_c (n := 65) (len_c (n := 64) (len_b (k := 32) (n := 32) h4 (len_e (k := 32) h5))))))
theorem q_spl_c4b32b32_0_c4b32b32 {a0 a1 a2 a3 : Value} {t4 t5 : List UInt8} {b0 b1 b2 b3 : Value} {s4 s5 : List UInt8} (h4 : t4.length = 32) (h5 : t5.length = 32) (g4 : s4.length = 32) (g5 : s5.length = 32) : spl (a0 :: a1 :: a2 :: a3 :: (t4.map u8 ++ (t5.map u8))) 0 (b0 :: b1 :: b2 :: b3 :: (s4.map u8 ++ (s5.map u8))) = b0 :: b1 :: b2 :: b3 :: (s4.map u8 ++ (s5.map u8)) := (spl_a (z := 68) (len_c (n := 67) (len_c (n := 66) (len_c (n := 65) (len_c (n := 64) (len_b (k := 32) (n := 32) h4 (len_e (k := 32) h5)))))) (len_c (n := 67) (len_c (n := 66) (len_c (n := 65) (len_c (n := 64) (len_b (k := 32) (n := 32) g4 (len_e (k := 32) g5)))))))
theorem z_agg35 : aggB Tryd.prog 35 = some true := by kernel_rfl
theorem z_size9 : sizeB Tryd.prog 9 = some 1 := by kernel_rfl
theorem z_agg9 : aggB Tryd.prog 9 = some false := by kernel_rfl
theorem z_agg23 : aggB Tryd.prog 23 = some true := by kernel_rfl
theorem z_size23 : sizeB Tryd.prog 23 = some 32 := by kernel_rfl
theorem z_field35_3 : fieldB Tryd.prog 35 3 = some 3 := by kernel_rfl
theorem q_set_c4b32b32_3 {a0 a1 a2 a3 : Value} {t4 t5 : List UInt8} {v : Value} : (a0 :: a1 :: a2 :: a3 :: (t4.map u8 ++ (t5.map u8))).set 3 v = a0 :: a1 :: a2 :: v :: (t4.map u8 ++ (t5.map u8)) := (set_c (o := 2) (set_c (o := 1) (set_c (o := 0) set_0)))
theorem z_field35_4 : fieldB Tryd.prog 35 4 = some 4 := by kernel_rfl
theorem q_one_b32 {t0 : List UInt8} : (t0.map u8).all (·.oneCell') = true := (one_u8 _)
theorem q_len_b32 {t0 : List UInt8} (h0 : t0.length = 32) : (t0.map u8).length = 32 := (len_e (k := 32) h0)
theorem q_spl_c4b32b32_4_b32 {a0 a1 a2 a3 : Value} {t4 t5 : List UInt8} {s0 : List UInt8} (h4 : t4.length = 32) (g0 : s0.length = 32) : spl (a0 :: a1 :: a2 :: a3 :: (t4.map u8 ++ (t5.map u8))) 4 (s0.map u8) = a0 :: a1 :: a2 :: a3 :: (s0.map u8 ++ (t5.map u8)) := (spl_c (o := 3) (spl_c (o := 2) (spl_c (o := 1) (spl_c (o := 0) (spl_h (z := 32) (len_e h4) (len_e g0))))))
theorem z_field35_5 : fieldB Tryd.prog 35 5 = some 36 := by kernel_rfl
theorem q_spl_c4b32b32_36_b32 {a0 a1 a2 a3 : Value} {t4 t5 : List UInt8} {s0 : List UInt8} (h4 : t4.length = 32) (h5 : t5.length = 32) (g0 : s0.length = 32) : spl (a0 :: a1 :: a2 :: a3 :: (t4.map u8 ++ (t5.map u8))) 36 (s0.map u8) = a0 :: a1 :: a2 :: a3 :: (t4.map u8 ++ (s0.map u8)) := (spl_c (o := 35) (spl_c (o := 34) (spl_c (o := 33) (spl_c (o := 32) (spl_b (k := 32) (o := 0) h4 rfl (spl_a (z := 32) (len_e (k := 32) h5) (len_e (k := 32) g0)))))))
theorem q_ld_c4b32b32_0_68 {a0 a1 a2 a3 : Value} {t4 t5 : List UInt8} (h4 : t4.length = 32) (h5 : t5.length = 32) : ((a0 :: a1 :: a2 :: a3 :: (t4.map u8 ++ (t5.map u8))).drop 0).take 68 = a0 :: a1 :: a2 :: a3 :: (t4.map u8 ++ (t5.map u8)) := (ld_a (len_c (n := 67) (len_c (n := 66) (len_c (n := 65) (len_c (n := 64) (len_b (k := 32) (n := 32) h4 (len_e (k := 32) h5)))))))
theorem z_call43 : callB Tryd.prog 43 = true := by kernel_rfl
theorem z_call44 : callB Tryd.prog 44 = true := by kernel_rfl
theorem q_ld_c4b32b32_36_32 {a0 a1 a2 a3 : Value} {t4 t5 : List UInt8} (h4 : t4.length = 32) (h5 : t5.length = 32) : ((a0 :: a1 :: a2 :: a3 :: (t4.map u8 ++ (t5.map u8))).drop 36).take 32 = t5.map u8 := (ld_c (o := 35) (ld_c (o := 34) (ld_c (o := 33) (ld_c (o := 32) (ld_b (k := 32) (o := 0) h4 rfl (ld_a (len_e (k := 32) h5)))))))
theorem z_size5 : sizeB Tryd.prog 5 = some 1 := by kernel_rfl

set_option maxRecDepth 100000 in
set_option maxHeartbeats 2000000 in
theorem nreadrec (s : List UInt8) (hs : s.length ≤ 140737488351232) {w : World} (hG : Glob 0 Sha.K w) : Calls Tryd.prog 25 #[str s] w (Gives (.tuple #[.agg (Note.Receipt.cells (Note.readReceipt s).1).toArray, .int .i64 (Note.readReceipt s).2]) [] w) := by
  have lz32 : (List.replicate 32 (0 : UInt8)).length = 32 := List.length_replicate
  refine enterL (args := [str s]) Tryd.func25 rfl rfl (l := []) (Sep.refl _) ?_
  intro a0 H0
  refine wp_seq ?_
  refine reg ?_
  refine st_alloc rfl z_zeroN35 rfl rfl rfl H0 ?_
  clear H0; intro b1 a1 wx1 H1
  refine plain (y_assign rfl rfl) rfl rfl rfl H1 ?_
  clear H1; intro a2 H2
  refine fin ?_
  refine then_n ?_
  refine wp_seq ?_
  refine reg ?_
  refine st_alloc rfl z_zeroN35 rfl rfl rfl H2 ?_
  clear H2; intro b3 a3 wx3 H3
  refine fin ?_
  refine then_n ?_
  refine wp_seq ?_
  refine reg ?_
  refine plain (y_move rfl rfl) rfl rfl rfl H3 ?_
  clear H3; intro a4 H4
  refine plain (y_fieldB rfl z_field35_0 rfl (by first | (simp only [Nat.zero_add, Nat.add_zero, Nat.reduceAdd]; rfl) | rfl)) rfl rfl rfl H4 ?_
  clear H4; intro a5 H5
  refine plain (y_fieldB rfl z_field35_1 rfl (by first | (simp only [Nat.zero_add, Nat.add_zero, Nat.reduceAdd]; rfl) | rfl)) rfl rfl rfl H5 ?_
  clear H5; intro a6 H6
  refine plain (y_fieldB rfl z_field35_2 rfl (by first | (simp only [Nat.zero_add, Nat.add_zero, Nat.reduceAdd]; rfl) | rfl)) rfl rfl rfl H6 ?_
  clear H6; intro a7 H7
  refine st_buildSlice1 (xs := [.tmp 9, .tmp 10, .tmp 11]) rfl Tryd.underlying90 z_size80 z_zero80 rfl rfl rfl rfl rfl rfl rfl rfl rfl H7 ?_
  clear H7; intro b8 a8 wx8 H8
  refine st_callw (i := It.blk b3 35 _) rfl z_call51 rfl rfl rfl rfl H8 (fun _ => (by repeat (first | exact Uh | apply Ut))) (nfields s (by omega) b3 35 (Note.Receipt.cells Note.Receipt.zero) 3 (by decide) (by decide) _ _ (H8.sep.all _ (by repeat (first | exact Mh | apply Mt))) (Rd.ofSep (rd_blkA (by repeat (first | exact Mh | apply Mt))) H8.sep) (by intro ad e; injection e with e; subst e; exact fun h => (blk_row_ne H8.sep (by first | exact S0 | exact S1 | repeat (first | exact S1 | exact S0 | apply S2 | apply S3))) h)) ?_
  clear H8; intro v9 i9 R9 a9 wx9 hf9 H9
  obtain ⟨cs', rfl, hf9⟩ := hf9
  rcases hf9 with ⟨ns, A', c', L, hfs, rfl, hnl, rfl, hkL, hLx, hLc, rfl, hnr, hLb⟩ | ⟨hfs, rfl, rfl⟩
  · skip
    obtain ⟨n0, n1, n2, rfl⟩ := Note.three hnl
    simp only [List.cons_append, List.nil_append] at H9
    refine plain (y_move rfl rfl) rfl rfl rfl H9 ?_
    clear H9; intro a10 H10
    refine plain (y_extract rfl rfl rfl) rfl rfl rfl H10 ?_
    clear H10; intro a11 H11
    refine plain (y_extract rfl rfl rfl) rfl rfl rfl H11 ?_
    clear H11; intro a12 H12
    refine plain (y_assign rfl rfl) rfl rfl rfl H12 ?_
    clear H12; intro a13 H13
    refine plain (y_assign rfl rfl) rfl rfl rfl H13 ?_
    clear H13; intro a14 H14
    refine fin ?_
    refine then_n ?_
    refine wp_seq ?_
    refine wp_seq ?_
    refine reg ?_
    refine plain (y_move rfl rfl) rfl rfl rfl H14 ?_
    clear H14; intro a15 H15
    refine plain (y_not rfl rfl) rfl rfl rfl H15 ?_
    clear H15; intro a16 H16
    refine plain (y_move rfl rfl) rfl rfl rfl H16 ?_
    clear H16; intro a17 H17
    refine plain (y_move rfl rfl) rfl rfl rfl H17 ?_
    clear H17; intro a18 H18
    refine plain (y_len rfl Tryd.underlying49 rfl) rfl rfl rfl H18 ?_
    clear H18; intro a19 H19
    refine plain (y_neq rfl rfl rfl) rfl rfl rfl H19 ?_
    clear H19; intro a20 H20
    refine plain (y_pick_f rfl rfl rfl) rfl rfl rfl H20 ?_
    clear H20; intro a21 H21
    refine plain (y_move rfl rfl) rfl rfl rfl H21 ?_
    clear H21; intro a22 H22
    refine Sx.part (d := 23) H22 rfl (fun hg23 => ?_) (fun hg23 => ?_)
    · first
      | fail
      | skip
        clear H22; intro H24
        try simp only [decide_eq_true_eq, decide_eq_false_iff_not, Bool.not_eq_true', Bool.not_eq_false', Bool.and_eq_true, Bool.not_eq_true, Bool.not_eq_false] at hg23
        refine skip rfl rfl rfl H24 ?_
        clear H24; intro a25 H25
        refine skip rfl rfl rfl H25 ?_
        clear H25; intro a26 H26
        refine skip rfl rfl rfl H26 ?_
        clear H26; intro a27 H27
        refine skip rfl rfl rfl H27 ?_
        clear H27; intro a28 H28
        refine skip rfl rfl rfl H28 ?_
        clear H28; intro a29 H29
        refine plain (y_pick_t rfl rfl rfl) rfl rfl rfl H29 ?_
        clear H29; intro a30 H30
        refine plain (y_move rfl rfl) rfl rfl rfl H30 ?_
        clear H30; intro a31 H31
        refine skip rfl rfl rfl H31 ?_
        clear H31; intro a32 H32
        refine skip rfl rfl rfl H32 ?_
        clear H32; intro a33 H33
        refine skip rfl rfl rfl H33 ?_
        clear H33; intro a34 H34
        refine skip rfl rfl rfl H34 ?_
        clear H34; intro a35 H35
        refine skip rfl rfl rfl H35 ?_
        clear H35; intro a36 H36
        refine plain (y_pick_t rfl rfl rfl) rfl rfl rfl H36 ?_
        clear H36; intro a37 H37
        refine fin ?_
        refine then_n ?_
        refine cnd_t H37 rfl ?_
        refine wp_seq ?_
        refine reg ?_
        refine plain (y_build rfl z_zeroN35 z_places35 rfl lay_n) rfl rfl rfl H37 ?_
        clear H37; intro a39 H39
        refine st_storeN rfl z_size35 rfl rfl (agg_cells _) (by repeat (first | exact Uh | apply Ut)) (q_one_c4b32b32 rfl rfl rfl rfl) (q_len_c4b32b32 (by first | assumption | exact Note.link_len _) (by first | assumption | exact Note.link_len _)) (q_len_c4b32b32 (by first | assumption | exact Note.link_len _) (by first | assumption | exact Note.link_len _)) (q_spl_c4b32b32_0_c4b32b32 (by first | assumption | exact Note.link_len _) (by first | assumption | exact Note.link_len _) (by first | assumption | exact Note.link_len _) (by first | assumption | exact Note.link_len _)) (by decide) rfl rfl H39 ?_
        clear H39; intro wx40 H40
        refine plain (y_assign rfl rfl) rfl rfl rfl H40 ?_
        clear H40; intro a41 H41
        refine fin ?_
        refine then_n ?_
        refine wp_ret ?_
        refine then_r ?_
        -- return 1
        refine retct rfl H41 rfl z_agg35 z_size35 (by repeat (first | exact Mh | apply Mt)) (q_len_c4b32b32 (by first | assumption | exact Note.link_len _) (by first | assumption | exact Note.link_len _)) rfl ?_
        refine ⟨_, [], rfl, ⟨?_, rfl⟩, H41.sep.sub (List.nil_sublist _)⟩
        first | (rw [Note.readReceipt_none hfs]; rfl) | (rw [Note.readReceipt_bad hfs (by rintro ⟨h1, h2, h3, h4, h5⟩; simp only [List.length_drop] at h1; first | omega | exact absurd h5 (by assumption) | exact Bool.noConfusion (h4.symm.trans (show (Note.receiptOf [n0, n1, n2] (L.drop 3)).ok = false by assumption)))]; rfl) | (rw [Note.readReceipt_good hfs ⟨by simp only [List.length_drop]; omega, by omega, by omega, by assumption, Decidable.not_not.1 (by assumption)⟩]; rfl)
    · first
      | fail
      | skip
        clear H22; intro H42
        try simp only [decide_eq_true_eq, decide_eq_false_iff_not, Bool.not_eq_true', Bool.not_eq_false', Bool.and_eq_true, Bool.not_eq_true, Bool.not_eq_false] at hg23
        refine plain (y_move rfl rfl) rfl rfl rfl H42 ?_
        clear H42; intro a43 H43
        refine plain (y_ixR rfl Tryd.underlying49 z_size9 rfl rfl (by omega) (by omega) (fun w hs => (rd_row (by repeat (first | exact Mh | apply Mt)) w hs).drop 3 (c' = 3) (fun h => by rw [List.length_map]; omega)) (by rw [List.length_drop, List.length_map]; omega)) rfl rfl rfl H43 ?_
        clear H43; intro a44 H44
        refine plain (y_loadR rfl z_agg9 rfl (fun w hs => (rd_row (by repeat (first | exact Mh | apply Mt)) w hs).drop 3 (c' = 3) (fun h => by rw [List.length_map]; omega)) (Note.rest_get 3 1 (by omega))) rfl rfl rfl H44 ?_
        clear H44; intro a45 H45
        refine plain (y_slen rfl Tryd.underlying9 rfl) rfl rfl rfl H45 ?_
        clear H45; intro a46 H46
        refine plain (y_neq rfl rfl rfl) rfl rfl rfl H46 ?_
        clear H46; intro a47 H47
        refine plain (y_pick_f rfl rfl rfl) rfl rfl rfl H47 ?_
        clear H47; intro a48 H48
        refine plain (y_move rfl rfl) rfl rfl rfl H48 ?_
        clear H48; intro a49 H49
        refine Sx.part (d := 30) H49 rfl (fun hg50 => ?_) (fun hg50 => ?_)
        · first
          | fail
          | skip
            clear H49; intro H51
            try simp only [decide_eq_true_eq, decide_eq_false_iff_not, Bool.not_eq_true', Bool.not_eq_false', Bool.and_eq_true, Bool.not_eq_true, Bool.not_eq_false] at hg50
            refine skip rfl rfl rfl H51 ?_
            clear H51; intro a52 H52
            refine skip rfl rfl rfl H52 ?_
            clear H52; intro a53 H53
            refine skip rfl rfl rfl H53 ?_
            clear H53; intro a54 H54
            refine skip rfl rfl rfl H54 ?_
            clear H54; intro a55 H55
            refine skip rfl rfl rfl H55 ?_
            clear H55; intro a56 H56
            refine plain (y_pick_t rfl rfl rfl) rfl rfl rfl H56 ?_
            clear H56; intro a57 H57
            refine fin ?_
            refine then_n ?_
            refine cnd_t H57 rfl ?_
            refine wp_seq ?_
            refine reg ?_
            refine plain (y_build rfl z_zeroN35 z_places35 rfl lay_n) rfl rfl rfl H57 ?_
            clear H57; intro a59 H59
            refine st_storeN rfl z_size35 rfl rfl (agg_cells _) (by repeat (first | exact Uh | apply Ut)) (q_one_c4b32b32 rfl rfl rfl rfl) (q_len_c4b32b32 (by first | assumption | exact Note.link_len _) (by first | assumption | exact Note.link_len _)) (q_len_c4b32b32 (by first | assumption | exact Note.link_len _) (by first | assumption | exact Note.link_len _)) (q_spl_c4b32b32_0_c4b32b32 (by first | assumption | exact Note.link_len _) (by first | assumption | exact Note.link_len _) (by first | assumption | exact Note.link_len _) (by first | assumption | exact Note.link_len _)) (by decide) rfl rfl H59 ?_
            clear H59; intro wx60 H60
            refine plain (y_assign rfl rfl) rfl rfl rfl H60 ?_
            clear H60; intro a61 H61
            refine fin ?_
            refine then_n ?_
            refine wp_ret ?_
            refine then_r ?_
            -- return 2
            refine retct rfl H61 rfl z_agg35 z_size35 (by repeat (first | exact Mh | apply Mt)) (q_len_c4b32b32 (by first | assumption | exact Note.link_len _) (by first | assumption | exact Note.link_len _)) rfl ?_
            refine ⟨_, [], rfl, ⟨?_, rfl⟩, H61.sep.sub (List.nil_sublist _)⟩
            first | (rw [Note.readReceipt_none hfs]; rfl) | (rw [Note.readReceipt_bad hfs (by rintro ⟨h1, h2, h3, h4, h5⟩; simp only [List.length_drop] at h1; first | omega | exact absurd h5 (by assumption) | exact Bool.noConfusion (h4.symm.trans (show (Note.receiptOf [n0, n1, n2] (L.drop 3)).ok = false by assumption)))]; rfl) | (rw [Note.readReceipt_good hfs ⟨by simp only [List.length_drop]; omega, by omega, by omega, by assumption, Decidable.not_not.1 (by assumption)⟩]; rfl)
        · first
          | fail
          | skip
            clear H49; intro H62
            try simp only [decide_eq_true_eq, decide_eq_false_iff_not, Bool.not_eq_true', Bool.not_eq_false', Bool.and_eq_true, Bool.not_eq_true, Bool.not_eq_false] at hg50
            refine plain (y_move rfl rfl) rfl rfl rfl H62 ?_
            clear H62; intro a63 H63
            refine plain (y_ixR rfl Tryd.underlying49 z_size9 rfl rfl (by omega) (by omega) (fun w hs => (rd_row (by repeat (first | exact Mh | apply Mt)) w hs).drop 3 (c' = 3) (fun h => by rw [List.length_map]; omega)) (by rw [List.length_drop, List.length_map]; omega)) rfl rfl rfl H63 ?_
            clear H63; intro a64 H64
            refine plain (y_loadR rfl z_agg9 rfl (fun w hs => (rd_row (by repeat (first | exact Mh | apply Mt)) w hs).drop 3 (c' = 3) (fun h => by rw [List.length_map]; omega)) (Note.rest_get 3 2 (by omega))) rfl rfl rfl H64 ?_
            clear H64; intro a65 H65
            refine plain (y_slen rfl Tryd.underlying9 rfl) rfl rfl rfl H65 ?_
            clear H65; intro a66 H66
            refine plain (y_neq rfl rfl rfl) rfl rfl rfl H66 ?_
            clear H66; intro a67 H67
            refine plain (y_pick_f rfl rfl rfl) rfl rfl rfl H67 ?_
            clear H67; intro a68 H68
            refine fin ?_
            refine then_n ?_
            refine cnd H68 rfl (fun hc69 => ?_) (fun hc69 => ?_) -- cond 3
            · skip
              try simp only [decide_eq_true_eq, decide_eq_false_iff_not, Bool.not_eq_true', Bool.not_eq_false', Bool.and_eq_true, Bool.not_eq_true, Bool.not_eq_false] at hc69
              refine wp_seq ?_
              refine reg ?_
              refine plain (y_build rfl z_zeroN35 z_places35 rfl lay_n) rfl rfl rfl H68 ?_
              clear H68; intro a70 H70
              refine st_storeN rfl z_size35 rfl rfl (agg_cells _) (by repeat (first | exact Uh | apply Ut)) (q_one_c4b32b32 rfl rfl rfl rfl) (q_len_c4b32b32 (by first | assumption | exact Note.link_len _) (by first | assumption | exact Note.link_len _)) (q_len_c4b32b32 (by first | assumption | exact Note.link_len _) (by first | assumption | exact Note.link_len _)) (q_spl_c4b32b32_0_c4b32b32 (by first | assumption | exact Note.link_len _) (by first | assumption | exact Note.link_len _) (by first | assumption | exact Note.link_len _) (by first | assumption | exact Note.link_len _)) (by decide) rfl rfl H70 ?_
              clear H70; intro wx71 H71
              refine plain (y_assign rfl rfl) rfl rfl rfl H71 ?_
              clear H71; intro a72 H72
              refine fin ?_
              refine then_n ?_
              refine wp_ret ?_
              refine then_r ?_
              -- return 3
              refine retct rfl H72 rfl z_agg35 z_size35 (by repeat (first | exact Mh | apply Mt)) (q_len_c4b32b32 (by first | assumption | exact Note.link_len _) (by first | assumption | exact Note.link_len _)) rfl ?_
              refine ⟨_, [], rfl, ⟨?_, rfl⟩, H72.sep.sub (List.nil_sublist _)⟩
              first | (rw [Note.readReceipt_none hfs]; rfl) | (rw [Note.readReceipt_bad hfs (by rintro ⟨h1, h2, h3, h4, h5⟩; simp only [List.length_drop] at h1; first | omega | exact absurd h5 (by assumption) | exact Bool.noConfusion (h4.symm.trans (show (Note.receiptOf [n0, n1, n2] (L.drop 3)).ok = false by assumption)))]; rfl) | (rw [Note.readReceipt_good hfs ⟨by simp only [List.length_drop]; omega, by omega, by omega, by assumption, Decidable.not_not.1 (by assumption)⟩]; rfl)
            · skip
              try simp only [decide_eq_true_eq, decide_eq_false_iff_not, Bool.not_eq_true', Bool.not_eq_false', Bool.and_eq_true, Bool.not_eq_true, Bool.not_eq_false] at hc69
              refine wp_skip ?_
              refine then_n ?_
              refine wp_seq ?_
              have hl1 : ((L.drop 3).getD 1 []).length = 32 := by omega
              have hl2 : ((L.drop 3).getD 2 []).length = 32 := by omega
              refine wp_cut (fun aC wC => St Tryd.f25.ntmps [] w ([(2, .pointer (some ⟨b1, 0, none⟩)), (4, .pointer (some ⟨b3, 0, none⟩))]) ([It.blk b3 35 (Note.Receipt.cells (Note.receiptOf [n0, n1, n2] (L.drop 3))), It.blk b1 35 (Note.Receipt.cells Note.Receipt.zero)]) aC wC) ?_ ?_
              · skip
                refine hreg [It.row 9 1 (.slice A' L.length c') L.length (L.map str)] (fun _ h => (h.sub (by first | exact S0 | exact S1 | repeat (first | exact S1 | exact S0 | apply S2 | apply S3)))) (by kernel_rfl) H68 ?_
                clear H68; intro wx73 H73
                refine htake 0 rfl (by kernel_rfl) (y_move rfl rfl) rfl rfl rfl (fun _ h => (h.sub (by first | exact S0 | exact S1 | repeat (first | exact S1 | exact S0 | apply S2 | apply S3)))) H73 ?_
                clear H73; intro a74 H74
                refine htake 1 rfl (by kernel_rfl) (y_ixR rfl Tryd.underlying49 z_size9 rfl rfl (by omega) (by omega) (fun w hs => (rd_row (by repeat (first | exact Mh | apply Mt)) w hs).drop 3 (c' = 3) (fun h => by rw [List.length_map]; omega)) (by rw [List.length_drop, List.length_map]; omega)) rfl rfl rfl (fun _ h => (h.sub (by first | exact S0 | exact S1 | repeat (first | exact S1 | exact S0 | apply S2 | apply S3)))) H74 ?_
                clear H74; intro a75 H75
                refine htake 2 rfl (by kernel_rfl) (y_loadR rfl z_agg9 rfl (fun w hs => (rd_row (by repeat (first | exact Mh | apply Mt)) w hs).drop 3 (c' = 3) (fun h => by rw [List.length_map]; omega)) (Note.rest_get 3 0 (by omega))) rfl rfl rfl (fun _ h => (h.sub (by first | exact S0 | exact S1 | repeat (first | exact S1 | exact S0 | apply S2 | apply S3)))) H75 ?_
                clear H75; intro a76 H76
                refine htake 3 rfl (by kernel_rfl) (y_move rfl rfl) rfl rfl rfl (fun _ h => (h.sub (by first | exact S0 | exact S1 | repeat (first | exact S1 | exact S0 | apply S2 | apply S3)))) H76 ?_
                clear H76; intro a77 H77
                refine htake 4 rfl (by kernel_rfl) (y_ixR rfl Tryd.underlying49 z_size9 rfl rfl (by omega) (by omega) (fun w hs => (rd_row (by repeat (first | exact Mh | apply Mt)) w hs).drop 3 (c' = 3) (fun h => by rw [List.length_map]; omega)) (by rw [List.length_drop, List.length_map]; omega)) rfl rfl rfl (fun _ h => (h.sub (by first | exact S0 | exact S1 | repeat (first | exact S1 | exact S0 | apply S2 | apply S3)))) H77 ?_
                clear H77; intro a78 H78
                refine htake 5 rfl (by kernel_rfl) (y_loadR rfl z_agg9 rfl (fun w hs => (rd_row (by repeat (first | exact Mh | apply Mt)) w hs).drop 3 (c' = 3) (fun h => by rw [List.length_map]; omega)) (Note.rest_get 3 1 (by omega))) rfl rfl rfl (fun _ h => (h.sub (by first | exact S0 | exact S1 | repeat (first | exact S1 | exact S0 | apply S2 | apply S3)))) H78 ?_
                clear H78; intro a79 H79
                refine htake 9 rfl (by kernel_rfl) (y_move rfl rfl) rfl rfl rfl (fun _ h => (h.sub (by first | exact S0 | exact S1 | repeat (first | exact S1 | exact S0 | apply S2 | apply S3)))) H79 ?_
                clear H79; intro a80 H80
                refine htake 10 rfl (by kernel_rfl) (y_ixR rfl Tryd.underlying49 z_size9 rfl rfl (by omega) (by omega) (fun w hs => (rd_row (by repeat (first | exact Mh | apply Mt)) w hs).drop 3 (c' = 3) (fun h => by rw [List.length_map]; omega)) (by rw [List.length_drop, List.length_map]; omega)) rfl rfl rfl (fun _ h => (h.sub (by first | exact S0 | exact S1 | repeat (first | exact S1 | exact S0 | apply S2 | apply S3)))) H80 ?_
                clear H80; intro a81 H81
                refine htake 11 rfl (by kernel_rfl) (y_loadR rfl z_agg9 rfl (fun w hs => (rd_row (by repeat (first | exact Mh | apply Mt)) w hs).drop 3 (c' = 3) (fun h => by rw [List.length_map]; omega)) (Note.rest_get 3 2 (by omega))) rfl rfl rfl (fun _ h => (h.sub (by first | exact S0 | exact S1 | repeat (first | exact S1 | exact S0 | apply S2 | apply S3)))) H81 ?_
                clear H81; intro a82 H82
                refine hgo2 6 12 rfl rfl (by kernel_rfl) ?_ ?_
                · skip
                  refine st_strb rfl Tryd.underlying9 Tryd.underlying64 Tryd.underlying5 rfl (by unfold maxLen; omega) rfl rfl rfl H82 ?_
                  clear H82; intro v83 a83 wx83 H83
                  obtain ⟨Ar83, cr83, hvr83, hRr83, hmr83⟩ := row_shape (v := v83) H83.sep (by repeat (first | exact Mh | apply Mt))
                  subst hvr83
                  refine hfin (H83.sep.sub (by first | exact S0 | exact S1 | repeat (first | exact S1 | exact S0 | apply S2 | apply S3))) ?_
                  refine htake 7 rfl (by kernel_rfl) (y_s2a rfl Tryd.underlying23 rfl (by omega)) rfl rfl rfl (fun _ h => (h.sub (by first | exact S0 | exact S1 | repeat (first | exact S1 | exact S0 | apply S2 | apply S3)))) H83 ?_
                  clear H83; intro a84 H84
                  refine hgo2 8 12 rfl rfl (by kernel_rfl) ?_ ?_
                  · skip
                    refine plain (y_loadAP rfl z_agg23 z_size23 rfl (rd_row (by repeat (first | exact Mh | apply Mt))) (List.take_of_length_le (by rw [List.length_map]; omega)) (len_e (by first | assumption | exact Note.link_len _)) (by decide)) rfl rfl rfl H84 ?_
                    clear H84; intro a85 H85
                    refine hfin (H85.sep.sub (by first | exact S0 | exact S1 | repeat (first | exact S1 | exact S0 | apply S2 | apply S3))) ?_
                    refine hgo 12 rfl (by kernel_rfl) ?_
                    refine st_strb rfl Tryd.underlying9 Tryd.underlying64 Tryd.underlying5 rfl (by unfold maxLen; omega) rfl rfl rfl H85 ?_
                    clear H85; intro v86 a86 wx86 H86
                    obtain ⟨Ar86, cr86, hvr86, hRr86, hmr86⟩ := row_shape (v := v86) H86.sep (by repeat (first | exact Mh | apply Mt))
                    subst hvr86
                    refine hfin (H86.sep.sub (by first | exact S0 | exact S1 | repeat (first | exact S1 | exact S0 | apply S2 | apply S3))) ?_
                    refine htake 13 rfl (by kernel_rfl) (y_s2a rfl Tryd.underlying23 rfl (by omega)) rfl rfl rfl (fun _ h => (h.sub (by first | exact S0 | exact S1 | repeat (first | exact S1 | exact S0 | apply S2 | apply S3)))) H86 ?_
                    clear H86; intro a87 H87
                    refine hgo 14 rfl (by kernel_rfl) ?_
                    refine plain (y_loadAP rfl z_agg23 z_size23 rfl (rd_row (by repeat (first | exact Mh | apply Mt))) (List.take_of_length_le (by rw [List.length_map]; omega)) (len_e (by first | assumption | exact Note.link_len _)) (by decide)) rfl rfl rfl H87 ?_
                    clear H87; intro a88 H88
                    refine hfin (H88.sep.sub (by first | exact S0 | exact S1 | repeat (first | exact S1 | exact S0 | apply S2 | apply S3))) ?_
                    refine htake 15 rfl (by kernel_rfl) (y_fieldB rfl z_field35_3 rfl (by first | (simp only [Nat.zero_add, Nat.add_zero, Nat.reduceAdd]; rfl) | rfl)) rfl rfl rfl (fun _ h => (h.sub (by first | exact S0 | exact S1 | repeat (first | exact S1 | exact S0 | apply S2 | apply S3)))) H88 ?_
                    clear H88; intro a89 H89
                    refine hgo 16 rfl (by kernel_rfl) ?_
                    refine st_store1N rfl z_size9 rfl rfl rfl (by repeat (first | exact Uh | apply Ut)) (q_len_c4b32b32 (by first | assumption | exact Note.link_len _) (by first | assumption | exact Note.link_len _)) q_set_c4b32b32_3 (by decide) rfl rfl H89 ?_
                    clear H89; intro wx90 H90
                    refine hfin (H90.sep.sub (by first | exact S0 | exact S1 | repeat (first | exact S1 | exact S0 | apply S2 | apply S3))) ?_
                    refine htake 17 rfl (by kernel_rfl) (y_fieldB rfl z_field35_4 rfl (by first | (simp only [Nat.zero_add, Nat.add_zero, Nat.reduceAdd]; rfl) | rfl)) rfl rfl rfl (fun _ h => (h.sub (by first | exact S0 | exact S1 | repeat (first | exact S1 | exact S0 | apply S2 | apply S3)))) H90 ?_
                    clear H90; intro a91 H91
                    refine hgo 18 rfl (by kernel_rfl) ?_
                    refine st_storeN rfl z_size23 rfl rfl (agg_cells _) (by repeat (first | exact Uh | apply Ut)) q_one_b32 (q_len_b32 (by first | assumption | exact Note.link_len _)) (q_len_c4b32b32 (by first | assumption | exact Note.link_len _) (by first | assumption | exact Note.link_len _)) (q_spl_c4b32b32_4_b32 (by first | assumption | exact Note.link_len _) (by first | assumption | exact Note.link_len _)) (by decide) rfl rfl H91 ?_
                    clear H91; intro wx92 H92
                    refine hfin (H92.sep.sub (by first | exact S0 | exact S1 | repeat (first | exact S1 | exact S0 | apply S2 | apply S3))) ?_
                    refine htake 19 rfl (by kernel_rfl) (y_fieldB rfl z_field35_5 rfl (by first | (simp only [Nat.zero_add, Nat.add_zero, Nat.reduceAdd]; rfl) | rfl)) rfl rfl rfl (fun _ h => (h.sub (by first | exact S0 | exact S1 | repeat (first | exact S1 | exact S0 | apply S2 | apply S3)))) H92 ?_
                    clear H92; intro a93 H93
                    refine hgo 20 rfl (by kernel_rfl) ?_
                    refine st_storeN rfl z_size23 rfl rfl (agg_cells _) (by repeat (first | exact Uh | apply Ut)) q_one_b32 (q_len_b32 (by first | assumption | exact Note.link_len _)) (q_len_c4b32b32 (by first | assumption | exact Note.link_len _) (by first | assumption | exact Note.link_len _)) (q_spl_c4b32b32_36_b32 (by first | assumption | exact Note.link_len _) (by first | assumption | exact Note.link_len _) (by first | assumption | exact Note.link_len _)) (by decide) rfl rfl H93 ?_
                    clear H93; intro wx94 H94
                    refine hfin (H94.sep.sub (by first | exact S0 | exact S1 | repeat (first | exact S1 | exact S0 | apply S2 | apply S3))) ?_
                    refine hdone (by kernel_rfl) ?_
                    refine cut_n ?_
                    exact (H94.drop (by first | exact S0 | exact S1 | repeat (first | exact S1 | exact S0 | apply S2 | apply S3))).weak ⟨rfl, rfl, trivial⟩ rfl
                  · skip
                    refine st_strb rfl Tryd.underlying9 Tryd.underlying64 Tryd.underlying5 rfl (by unfold maxLen; omega) rfl rfl rfl H84 ?_
                    clear H84; intro v95 a95 wx95 H95
                    obtain ⟨Ar95, cr95, hvr95, hRr95, hmr95⟩ := row_shape (v := v95) H95.sep (by repeat (first | exact Mh | apply Mt))
                    subst hvr95
                    refine hfin (H95.sep.sub (by first | exact S0 | exact S1 | repeat (first | exact S1 | exact S0 | apply S2 | apply S3))) ?_
                    refine htake 13 rfl (by kernel_rfl) (y_s2a rfl Tryd.underlying23 rfl (by omega)) rfl rfl rfl (fun _ h => (h.sub (by first | exact S0 | exact S1 | repeat (first | exact S1 | exact S0 | apply S2 | apply S3)))) H95 ?_
                    clear H95; intro a96 H96
                    refine hgo2 8 14 rfl rfl (by kernel_rfl) ?_ ?_
                    · skip
                      refine plain (y_loadAP rfl z_agg23 z_size23 rfl (rd_row (by repeat (first | exact Mh | apply Mt))) (List.take_of_length_le (by rw [List.length_map]; omega)) (len_e (by first | assumption | exact Note.link_len _)) (by decide)) rfl rfl rfl H96 ?_
                      clear H96; intro a97 H97
                      refine hfin (H97.sep.sub (by first | exact S0 | exact S1 | repeat (first | exact S1 | exact S0 | apply S2 | apply S3))) ?_
                      refine hgo 14 rfl (by kernel_rfl) ?_
                      refine plain (y_loadAP rfl z_agg23 z_size23 rfl (rd_row (by repeat (first | exact Mh | apply Mt))) (List.take_of_length_le (by rw [List.length_map]; omega)) (len_e (by first | assumption | exact Note.link_len _)) (by decide)) rfl rfl rfl H97 ?_
                      clear H97; intro a98 H98
                      refine hfin (H98.sep.sub (by first | exact S0 | exact S1 | repeat (first | exact S1 | exact S0 | apply S2 | apply S3))) ?_
                      refine htake 15 rfl (by kernel_rfl) (y_fieldB rfl z_field35_3 rfl (by first | (simp only [Nat.zero_add, Nat.add_zero, Nat.reduceAdd]; rfl) | rfl)) rfl rfl rfl (fun _ h => (h.sub (by first | exact S0 | exact S1 | repeat (first | exact S1 | exact S0 | apply S2 | apply S3)))) H98 ?_
                      clear H98; intro a99 H99
                      refine hgo 16 rfl (by kernel_rfl) ?_
                      refine st_store1N rfl z_size9 rfl rfl rfl (by repeat (first | exact Uh | apply Ut)) (q_len_c4b32b32 (by first | assumption | exact Note.link_len _) (by first | assumption | exact Note.link_len _)) q_set_c4b32b32_3 (by decide) rfl rfl H99 ?_
                      clear H99; intro wx100 H100
                      refine hfin (H100.sep.sub (by first | exact S0 | exact S1 | repeat (first | exact S1 | exact S0 | apply S2 | apply S3))) ?_
                      refine htake 17 rfl (by kernel_rfl) (y_fieldB rfl z_field35_4 rfl (by first | (simp only [Nat.zero_add, Nat.add_zero, Nat.reduceAdd]; rfl) | rfl)) rfl rfl rfl (fun _ h => (h.sub (by first | exact S0 | exact S1 | repeat (first | exact S1 | exact S0 | apply S2 | apply S3)))) H100 ?_
                      clear H100; intro a101 H101
                      refine hgo 18 rfl (by kernel_rfl) ?_
                      refine st_storeN rfl z_size23 rfl rfl (agg_cells _) (by repeat (first | exact Uh | apply Ut)) q_one_b32 (q_len_b32 (by first | assumption | exact Note.link_len _)) (q_len_c4b32b32 (by first | assumption | exact Note.link_len _) (by first | assumption | exact Note.link_len _)) (q_spl_c4b32b32_4_b32 (by first | assumption | exact Note.link_len _) (by first | assumption | exact Note.link_len _)) (by decide) rfl rfl H101 ?_
                      clear H101; intro wx102 H102
                      refine hfin (H102.sep.sub (by first | exact S0 | exact S1 | repeat (first | exact S1 | exact S0 | apply S2 | apply S3))) ?_
                      refine htake 19 rfl (by kernel_rfl) (y_fieldB rfl z_field35_5 rfl (by first | (simp only [Nat.zero_add, Nat.add_zero, Nat.reduceAdd]; rfl) | rfl)) rfl rfl rfl (fun _ h => (h.sub (by first | exact S0 | exact S1 | repeat (first | exact S1 | exact S0 | apply S2 | apply S3)))) H102 ?_
                      clear H102; intro a103 H103
                      refine hgo 20 rfl (by kernel_rfl) ?_
                      refine st_storeN rfl z_size23 rfl rfl (agg_cells _) (by repeat (first | exact Uh | apply Ut)) q_one_b32 (q_len_b32 (by first | assumption | exact Note.link_len _)) (q_len_c4b32b32 (by first | assumption | exact Note.link_len _) (by first | assumption | exact Note.link_len _)) (q_spl_c4b32b32_36_b32 (by first | assumption | exact Note.link_len _) (by first | assumption | exact Note.link_len _) (by first | assumption | exact Note.link_len _)) (by decide) rfl rfl H103 ?_
                      clear H103; intro wx104 H104
                      refine hfin (H104.sep.sub (by first | exact S0 | exact S1 | repeat (first | exact S1 | exact S0 | apply S2 | apply S3))) ?_
                      refine hdone (by kernel_rfl) ?_
                      refine cut_n ?_
                      exact (H104.drop (by first | exact S0 | exact S1 | repeat (first | exact S1 | exact S0 | apply S2 | apply S3))).weak ⟨rfl, rfl, trivial⟩ rfl
                    · skip
                      refine plain (y_loadAP rfl z_agg23 z_size23 rfl (rd_row (by repeat (first | exact Mh | apply Mt))) (List.take_of_length_le (by rw [List.length_map]; omega)) (len_e (by first | assumption | exact Note.link_len _)) (by decide)) rfl rfl rfl H96 ?_
                      clear H96; intro a105 H105
                      refine hfin (H105.sep.sub (by first | exact S0 | exact S1 | repeat (first | exact S1 | exact S0 | apply S2 | apply S3))) ?_
                      refine hgo 8 rfl (by kernel_rfl) ?_
                      refine plain (y_loadAP rfl z_agg23 z_size23 rfl (rd_row (by repeat (first | exact Mh | apply Mt))) (List.take_of_length_le (by rw [List.length_map]; omega)) (len_e (by first | assumption | exact Note.link_len _)) (by decide)) rfl rfl rfl H105 ?_
                      clear H105; intro a106 H106
                      refine hfin (H106.sep.sub (by first | exact S0 | exact S1 | repeat (first | exact S1 | exact S0 | apply S2 | apply S3))) ?_
                      refine htake 15 rfl (by kernel_rfl) (y_fieldB rfl z_field35_3 rfl (by first | (simp only [Nat.zero_add, Nat.add_zero, Nat.reduceAdd]; rfl) | rfl)) rfl rfl rfl (fun _ h => (h.sub (by first | exact S0 | exact S1 | repeat (first | exact S1 | exact S0 | apply S2 | apply S3)))) H106 ?_
                      clear H106; intro a107 H107
                      refine hgo 16 rfl (by kernel_rfl) ?_
                      refine st_store1N rfl z_size9 rfl rfl rfl (by repeat (first | exact Uh | apply Ut)) (q_len_c4b32b32 (by first | assumption | exact Note.link_len _) (by first | assumption | exact Note.link_len _)) q_set_c4b32b32_3 (by decide) rfl rfl H107 ?_
                      clear H107; intro wx108 H108
                      refine hfin (H108.sep.sub (by first | exact S0 | exact S1 | repeat (first | exact S1 | exact S0 | apply S2 | apply S3))) ?_
                      refine htake 17 rfl (by kernel_rfl) (y_fieldB rfl z_field35_4 rfl (by first | (simp only [Nat.zero_add, Nat.add_zero, Nat.reduceAdd]; rfl) | rfl)) rfl rfl rfl (fun _ h => (h.sub (by first | exact S0 | exact S1 | repeat (first | exact S1 | exact S0 | apply S2 | apply S3)))) H108 ?_
                      clear H108; intro a109 H109
                      refine hgo 18 rfl (by kernel_rfl) ?_
                      refine st_storeN rfl z_size23 rfl rfl (agg_cells _) (by repeat (first | exact Uh | apply Ut)) q_one_b32 (q_len_b32 (by first | assumption | exact Note.link_len _)) (q_len_c4b32b32 (by first | assumption | exact Note.link_len _) (by first | assumption | exact Note.link_len _)) (q_spl_c4b32b32_4_b32 (by first | assumption | exact Note.link_len _) (by first | assumption | exact Note.link_len _)) (by decide) rfl rfl H109 ?_
                      clear H109; intro wx110 H110
                      refine hfin (H110.sep.sub (by first | exact S0 | exact S1 | repeat (first | exact S1 | exact S0 | apply S2 | apply S3))) ?_
                      refine htake 19 rfl (by kernel_rfl) (y_fieldB rfl z_field35_5 rfl (by first | (simp only [Nat.zero_add, Nat.add_zero, Nat.reduceAdd]; rfl) | rfl)) rfl rfl rfl (fun _ h => (h.sub (by first | exact S0 | exact S1 | repeat (first | exact S1 | exact S0 | apply S2 | apply S3)))) H110 ?_
                      clear H110; intro a111 H111
                      refine hgo 20 rfl (by kernel_rfl) ?_
                      refine st_storeN rfl z_size23 rfl rfl (agg_cells _) (by repeat (first | exact Uh | apply Ut)) q_one_b32 (q_len_b32 (by first | assumption | exact Note.link_len _)) (q_len_c4b32b32 (by first | assumption | exact Note.link_len _) (by first | assumption | exact Note.link_len _)) (q_spl_c4b32b32_36_b32 (by first | assumption | exact Note.link_len _) (by first | assumption | exact Note.link_len _) (by first | assumption | exact Note.link_len _)) (by decide) rfl rfl H111 ?_
                      clear H111; intro wx112 H112
                      refine hfin (H112.sep.sub (by first | exact S0 | exact S1 | repeat (first | exact S1 | exact S0 | apply S2 | apply S3))) ?_
                      refine hdone (by kernel_rfl) ?_
                      refine cut_n ?_
                      exact (H112.drop (by first | exact S0 | exact S1 | repeat (first | exact S1 | exact S0 | apply S2 | apply S3))).weak ⟨rfl, rfl, trivial⟩ rfl
                · skip
                  refine st_strb rfl Tryd.underlying9 Tryd.underlying64 Tryd.underlying5 rfl (by unfold maxLen; omega) rfl rfl rfl H82 ?_
                  clear H82; intro v113 a113 wx113 H113
                  obtain ⟨Ar113, cr113, hvr113, hRr113, hmr113⟩ := row_shape (v := v113) H113.sep (by repeat (first | exact Mh | apply Mt))
                  subst hvr113
                  refine hfin (H113.sep.sub (by first | exact S0 | exact S1 | repeat (first | exact S1 | exact S0 | apply S2 | apply S3))) ?_
                  refine htake 13 rfl (by kernel_rfl) (y_s2a rfl Tryd.underlying23 rfl (by omega)) rfl rfl rfl (fun _ h => (h.sub (by first | exact S0 | exact S1 | repeat (first | exact S1 | exact S0 | apply S2 | apply S3)))) H113 ?_
                  clear H113; intro a114 H114
                  refine hgo2 6 14 rfl rfl (by kernel_rfl) ?_ ?_
                  · skip
                    refine st_strb rfl Tryd.underlying9 Tryd.underlying64 Tryd.underlying5 rfl (by unfold maxLen; omega) rfl rfl rfl H114 ?_
                    clear H114; intro v115 a115 wx115 H115
                    obtain ⟨Ar115, cr115, hvr115, hRr115, hmr115⟩ := row_shape (v := v115) H115.sep (by repeat (first | exact Mh | apply Mt))
                    subst hvr115
                    refine hfin (H115.sep.sub (by first | exact S0 | exact S1 | repeat (first | exact S1 | exact S0 | apply S2 | apply S3))) ?_
                    refine htake 7 rfl (by kernel_rfl) (y_s2a rfl Tryd.underlying23 rfl (by omega)) rfl rfl rfl (fun _ h => (h.sub (by first | exact S0 | exact S1 | repeat (first | exact S1 | exact S0 | apply S2 | apply S3)))) H115 ?_
                    clear H115; intro a116 H116
                    refine hgo2 8 14 rfl rfl (by kernel_rfl) ?_ ?_
                    · skip
                      refine plain (y_loadAP rfl z_agg23 z_size23 rfl (rd_row (by repeat (first | exact Mh | apply Mt))) (List.take_of_length_le (by rw [List.length_map]; omega)) (len_e (by first | assumption | exact Note.link_len _)) (by decide)) rfl rfl rfl H116 ?_
                      clear H116; intro a117 H117
                      refine hfin (H117.sep.sub (by first | exact S0 | exact S1 | repeat (first | exact S1 | exact S0 | apply S2 | apply S3))) ?_
                      refine hgo 14 rfl (by kernel_rfl) ?_
                      refine plain (y_loadAP rfl z_agg23 z_size23 rfl (rd_row (by repeat (first | exact Mh | apply Mt))) (List.take_of_length_le (by rw [List.length_map]; omega)) (len_e (by first | assumption | exact Note.link_len _)) (by decide)) rfl rfl rfl H117 ?_
                      clear H117; intro a118 H118
                      refine hfin (H118.sep.sub (by first | exact S0 | exact S1 | repeat (first | exact S1 | exact S0 | apply S2 | apply S3))) ?_
                      refine htake 15 rfl (by kernel_rfl) (y_fieldB rfl z_field35_3 rfl (by first | (simp only [Nat.zero_add, Nat.add_zero, Nat.reduceAdd]; rfl) | rfl)) rfl rfl rfl (fun _ h => (h.sub (by first | exact S0 | exact S1 | repeat (first | exact S1 | exact S0 | apply S2 | apply S3)))) H118 ?_
                      clear H118; intro a119 H119
                      refine hgo 16 rfl (by kernel_rfl) ?_
                      refine st_store1N rfl z_size9 rfl rfl rfl (by repeat (first | exact Uh | apply Ut)) (q_len_c4b32b32 (by first | assumption | exact Note.link_len _) (by first | assumption | exact Note.link_len _)) q_set_c4b32b32_3 (by decide) rfl rfl H119 ?_
                      clear H119; intro wx120 H120
                      refine hfin (H120.sep.sub (by first | exact S0 | exact S1 | repeat (first | exact S1 | exact S0 | apply S2 | apply S3))) ?_
                      refine htake 17 rfl (by kernel_rfl) (y_fieldB rfl z_field35_4 rfl (by first | (simp only [Nat.zero_add, Nat.add_zero, Nat.reduceAdd]; rfl) | rfl)) rfl rfl rfl (fun _ h => (h.sub (by first | exact S0 | exact S1 | repeat (first | exact S1 | exact S0 | apply S2 | apply S3)))) H120 ?_
                      clear H120; intro a121 H121
                      refine hgo 18 rfl (by kernel_rfl) ?_
                      refine st_storeN rfl z_size23 rfl rfl (agg_cells _) (by repeat (first | exact Uh | apply Ut)) q_one_b32 (q_len_b32 (by first | assumption | exact Note.link_len _)) (q_len_c4b32b32 (by first | assumption | exact Note.link_len _) (by first | assumption | exact Note.link_len _)) (q_spl_c4b32b32_4_b32 (by first | assumption | exact Note.link_len _) (by first | assumption | exact Note.link_len _)) (by decide) rfl rfl H121 ?_
                      clear H121; intro wx122 H122
                      refine hfin (H122.sep.sub (by first | exact S0 | exact S1 | repeat (first | exact S1 | exact S0 | apply S2 | apply S3))) ?_
                      refine htake 19 rfl (by kernel_rfl) (y_fieldB rfl z_field35_5 rfl (by first | (simp only [Nat.zero_add, Nat.add_zero, Nat.reduceAdd]; rfl) | rfl)) rfl rfl rfl (fun _ h => (h.sub (by first | exact S0 | exact S1 | repeat (first | exact S1 | exact S0 | apply S2 | apply S3)))) H122 ?_
                      clear H122; intro a123 H123
                      refine hgo 20 rfl (by kernel_rfl) ?_
                      refine st_storeN rfl z_size23 rfl rfl (agg_cells _) (by repeat (first | exact Uh | apply Ut)) q_one_b32 (q_len_b32 (by first | assumption | exact Note.link_len _)) (q_len_c4b32b32 (by first | assumption | exact Note.link_len _) (by first | assumption | exact Note.link_len _)) (q_spl_c4b32b32_36_b32 (by first | assumption | exact Note.link_len _) (by first | assumption | exact Note.link_len _) (by first | assumption | exact Note.link_len _)) (by decide) rfl rfl H123 ?_
                      clear H123; intro wx124 H124
                      refine hfin (H124.sep.sub (by first | exact S0 | exact S1 | repeat (first | exact S1 | exact S0 | apply S2 | apply S3))) ?_
                      refine hdone (by kernel_rfl) ?_
                      refine cut_n ?_
                      exact (H124.drop (by first | exact S0 | exact S1 | repeat (first | exact S1 | exact S0 | apply S2 | apply S3))).weak ⟨rfl, rfl, trivial⟩ rfl
                    · skip
                      refine plain (y_loadAP rfl z_agg23 z_size23 rfl (rd_row (by repeat (first | exact Mh | apply Mt))) (List.take_of_length_le (by rw [List.length_map]; omega)) (len_e (by first | assumption | exact Note.link_len _)) (by decide)) rfl rfl rfl H116 ?_
                      clear H116; intro a125 H125
                      refine hfin (H125.sep.sub (by first | exact S0 | exact S1 | repeat (first | exact S1 | exact S0 | apply S2 | apply S3))) ?_
                      refine hgo 8 rfl (by kernel_rfl) ?_
                      refine plain (y_loadAP rfl z_agg23 z_size23 rfl (rd_row (by repeat (first | exact Mh | apply Mt))) (List.take_of_length_le (by rw [List.length_map]; omega)) (len_e (by first | assumption | exact Note.link_len _)) (by decide)) rfl rfl rfl H125 ?_
                      clear H125; intro a126 H126
                      refine hfin (H126.sep.sub (by first | exact S0 | exact S1 | repeat (first | exact S1 | exact S0 | apply S2 | apply S3))) ?_
                      refine htake 15 rfl (by kernel_rfl) (y_fieldB rfl z_field35_3 rfl (by first | (simp only [Nat.zero_add, Nat.add_zero, Nat.reduceAdd]; rfl) | rfl)) rfl rfl rfl (fun _ h => (h.sub (by first | exact S0 | exact S1 | repeat (first | exact S1 | exact S0 | apply S2 | apply S3)))) H126 ?_
                      clear H126; intro a127 H127
                      refine hgo 16 rfl (by kernel_rfl) ?_
                      refine st_store1N rfl z_size9 rfl rfl rfl (by repeat (first | exact Uh | apply Ut)) (q_len_c4b32b32 (by first | assumption | exact Note.link_len _) (by first | assumption | exact Note.link_len _)) q_set_c4b32b32_3 (by decide) rfl rfl H127 ?_
                      clear H127; intro wx128 H128
                      refine hfin (H128.sep.sub (by first | exact S0 | exact S1 | repeat (first | exact S1 | exact S0 | apply S2 | apply S3))) ?_
                      refine htake 17 rfl (by kernel_rfl) (y_fieldB rfl z_field35_4 rfl (by first | (simp only [Nat.zero_add, Nat.add_zero, Nat.reduceAdd]; rfl) | rfl)) rfl rfl rfl (fun _ h => (h.sub (by first | exact S0 | exact S1 | repeat (first | exact S1 | exact S0 | apply S2 | apply S3)))) H128 ?_
                      clear H128; intro a129 H129
                      refine hgo 18 rfl (by kernel_rfl) ?_
                      refine st_storeN rfl z_size23 rfl rfl (agg_cells _) (by repeat (first | exact Uh | apply Ut)) q_one_b32 (q_len_b32 (by first | assumption | exact Note.link_len _)) (q_len_c4b32b32 (by first | assumption | exact Note.link_len _) (by first | assumption | exact Note.link_len _)) (q_spl_c4b32b32_4_b32 (by first | assumption | exact Note.link_len _) (by first | assumption | exact Note.link_len _)) (by decide) rfl rfl H129 ?_
                      clear H129; intro wx130 H130
                      refine hfin (H130.sep.sub (by first | exact S0 | exact S1 | repeat (first | exact S1 | exact S0 | apply S2 | apply S3))) ?_
                      refine htake 19 rfl (by kernel_rfl) (y_fieldB rfl z_field35_5 rfl (by first | (simp only [Nat.zero_add, Nat.add_zero, Nat.reduceAdd]; rfl) | rfl)) rfl rfl rfl (fun _ h => (h.sub (by first | exact S0 | exact S1 | repeat (first | exact S1 | exact S0 | apply S2 | apply S3)))) H130 ?_
                      clear H130; intro a131 H131
                      refine hgo 20 rfl (by kernel_rfl) ?_
                      refine st_storeN rfl z_size23 rfl rfl (agg_cells _) (by repeat (first | exact Uh | apply Ut)) q_one_b32 (q_len_b32 (by first | assumption | exact Note.link_len _)) (q_len_c4b32b32 (by first | assumption | exact Note.link_len _) (by first | assumption | exact Note.link_len _)) (q_spl_c4b32b32_36_b32 (by first | assumption | exact Note.link_len _) (by first | assumption | exact Note.link_len _) (by first | assumption | exact Note.link_len _)) (by decide) rfl rfl H131 ?_
                      clear H131; intro wx132 H132
                      refine hfin (H132.sep.sub (by first | exact S0 | exact S1 | repeat (first | exact S1 | exact S0 | apply S2 | apply S3))) ?_
                      refine hdone (by kernel_rfl) ?_
                      refine cut_n ?_
                      exact (H132.drop (by first | exact S0 | exact S1 | repeat (first | exact S1 | exact S0 | apply S2 | apply S3))).weak ⟨rfl, rfl, trivial⟩ rfl
                  · skip
                    refine plain (y_loadAP rfl z_agg23 z_size23 rfl (rd_row (by repeat (first | exact Mh | apply Mt))) (List.take_of_length_le (by rw [List.length_map]; omega)) (len_e (by first | assumption | exact Note.link_len _)) (by decide)) rfl rfl rfl H114 ?_
                    clear H114; intro a133 H133
                    refine hfin (H133.sep.sub (by first | exact S0 | exact S1 | repeat (first | exact S1 | exact S0 | apply S2 | apply S3))) ?_
                    refine hgo 6 rfl (by kernel_rfl) ?_
                    refine st_strb rfl Tryd.underlying9 Tryd.underlying64 Tryd.underlying5 rfl (by unfold maxLen; omega) rfl rfl rfl H133 ?_
                    clear H133; intro v134 a134 wx134 H134
                    obtain ⟨Ar134, cr134, hvr134, hRr134, hmr134⟩ := row_shape (v := v134) H134.sep (by repeat (first | exact Mh | apply Mt))
                    subst hvr134
                    refine hfin (H134.sep.sub (by first | exact S0 | exact S1 | repeat (first | exact S1 | exact S0 | apply S2 | apply S3))) ?_
                    refine htake 7 rfl (by kernel_rfl) (y_s2a rfl Tryd.underlying23 rfl (by omega)) rfl rfl rfl (fun _ h => (h.sub (by first | exact S0 | exact S1 | repeat (first | exact S1 | exact S0 | apply S2 | apply S3)))) H134 ?_
                    clear H134; intro a135 H135
                    refine hgo 8 rfl (by kernel_rfl) ?_
                    refine plain (y_loadAP rfl z_agg23 z_size23 rfl (rd_row (by repeat (first | exact Mh | apply Mt))) (List.take_of_length_le (by rw [List.length_map]; omega)) (len_e (by first | assumption | exact Note.link_len _)) (by decide)) rfl rfl rfl H135 ?_
                    clear H135; intro a136 H136
                    refine hfin (H136.sep.sub (by first | exact S0 | exact S1 | repeat (first | exact S1 | exact S0 | apply S2 | apply S3))) ?_
                    refine htake 15 rfl (by kernel_rfl) (y_fieldB rfl z_field35_3 rfl (by first | (simp only [Nat.zero_add, Nat.add_zero, Nat.reduceAdd]; rfl) | rfl)) rfl rfl rfl (fun _ h => (h.sub (by first | exact S0 | exact S1 | repeat (first | exact S1 | exact S0 | apply S2 | apply S3)))) H136 ?_
                    clear H136; intro a137 H137
                    refine hgo 16 rfl (by kernel_rfl) ?_
                    refine st_store1N rfl z_size9 rfl rfl rfl (by repeat (first | exact Uh | apply Ut)) (q_len_c4b32b32 (by first | assumption | exact Note.link_len _) (by first | assumption | exact Note.link_len _)) q_set_c4b32b32_3 (by decide) rfl rfl H137 ?_
                    clear H137; intro wx138 H138
                    refine hfin (H138.sep.sub (by first | exact S0 | exact S1 | repeat (first | exact S1 | exact S0 | apply S2 | apply S3))) ?_
                    refine htake 17 rfl (by kernel_rfl) (y_fieldB rfl z_field35_4 rfl (by first | (simp only [Nat.zero_add, Nat.add_zero, Nat.reduceAdd]; rfl) | rfl)) rfl rfl rfl (fun _ h => (h.sub (by first | exact S0 | exact S1 | repeat (first | exact S1 | exact S0 | apply S2 | apply S3)))) H138 ?_
                    clear H138; intro a139 H139
                    refine hgo 18 rfl (by kernel_rfl) ?_
                    refine st_storeN rfl z_size23 rfl rfl (agg_cells _) (by repeat (first | exact Uh | apply Ut)) q_one_b32 (q_len_b32 (by first | assumption | exact Note.link_len _)) (q_len_c4b32b32 (by first | assumption | exact Note.link_len _) (by first | assumption | exact Note.link_len _)) (q_spl_c4b32b32_4_b32 (by first | assumption | exact Note.link_len _) (by first | assumption | exact Note.link_len _)) (by decide) rfl rfl H139 ?_
                    clear H139; intro wx140 H140
                    refine hfin (H140.sep.sub (by first | exact S0 | exact S1 | repeat (first | exact S1 | exact S0 | apply S2 | apply S3))) ?_
                    refine htake 19 rfl (by kernel_rfl) (y_fieldB rfl z_field35_5 rfl (by first | (simp only [Nat.zero_add, Nat.add_zero, Nat.reduceAdd]; rfl) | rfl)) rfl rfl rfl (fun _ h => (h.sub (by first | exact S0 | exact S1 | repeat (first | exact S1 | exact S0 | apply S2 | apply S3)))) H140 ?_
                    clear H140; intro a141 H141
                    refine hgo 20 rfl (by kernel_rfl) ?_
                    refine st_storeN rfl z_size23 rfl rfl (agg_cells _) (by repeat (first | exact Uh | apply Ut)) q_one_b32 (q_len_b32 (by first | assumption | exact Note.link_len _)) (q_len_c4b32b32 (by first | assumption | exact Note.link_len _) (by first | assumption | exact Note.link_len _)) (q_spl_c4b32b32_36_b32 (by first | assumption | exact Note.link_len _) (by first | assumption | exact Note.link_len _) (by first | assumption | exact Note.link_len _)) (by decide) rfl rfl H141 ?_
                    clear H141; intro wx142 H142
                    refine hfin (H142.sep.sub (by first | exact S0 | exact S1 | repeat (first | exact S1 | exact S0 | apply S2 | apply S3))) ?_
                    refine hdone (by kernel_rfl) ?_
                    refine cut_n ?_
                    exact (H142.drop (by first | exact S0 | exact S1 | repeat (first | exact S1 | exact S0 | apply S2 | apply S3))).weak ⟨rfl, rfl, trivial⟩ rfl
              · clear H68; intro a143 wx143 hI143
                have H143 := hI143
                refine then_n ?_
                refine wp_seq ?_
                refine wp_seq ?_
                have wfr : Note.Receipt.Wf (Note.receiptOf [n0, n1, n2] (L.drop 3)) := Note.wf3r hnr hLb (by simp only [List.length_drop]; omega) hl1 hl2
                have lzp := wfr.prev
                have lzh := wfr.hash
                refine qreg (by kernel_rfl) (by kernel_rfl) H143 ?_
                have F144 := H143.fr
                clear H143
                refine qplain (y_loadAB rfl z_agg35 z_size35 rfl (by repeat (first | exact Mh | apply Mt)) (q_ld_c4b32b32_0_68 (by first | assumption | exact Note.link_len _) (by first | assumption | exact Note.link_len _)) (q_len_c4b32b32 (by first | assumption | exact Note.link_len _) (by first | assumption | exact Note.link_len _))) rfl rfl rfl F144 ?_
                clear F144; intro a145 H145
                refine qcallg rfl z_call43 rfl rfl rfl rfl H145 (fun w hs => (nreceipt (Note.receiptOf [n0, n1, n2] (L.drop 3)) wfr _)) ?_
                clear H145; intro a146 H146
                refine qplain ((by first | exact y_not_d rfl rfl | exact y_not rfl rfl)) rfl rfl rfl H146 ?_
                clear H146; intro a147 H147
                refine qplain (y_move rfl rfl) rfl rfl rfl H147 ?_
                clear H147; intro a148 H148
                refine qpart (d := 59) H148 rfl (fun hg149 => ?_) (fun hg149 => ?_)
                · first
                  | fail
                  | skip
                    clear H148; intro H150
                    try simp only [decide_eq_true_eq, decide_eq_false_iff_not, Bool.not_eq_true', Bool.not_eq_false', Bool.and_eq_true, Bool.not_eq_true, Bool.not_eq_false] at hg149
                    refine qskip rfl rfl rfl H150 ?_
                    clear H150; intro a151 H151
                    refine qskip rfl rfl rfl H151 ?_
                    clear H151; intro a152 H152
                    refine qskip rfl rfl rfl H152 ?_
                    clear H152; intro a153 H153
                    refine qskip rfl rfl rfl H153 ?_
                    clear H153; intro a154 H154
                    refine qskip rfl rfl rfl H154 ?_
                    clear H154; intro a155 H155
                    refine qplain (y_pick_t rfl rfl rfl) rfl rfl rfl H155 ?_
                    clear H155; intro a156 H156
                    refine qfin H156 ?_
                    clear H156; intro wx157 H157
                    refine then_n ?_
                    refine cnd_t H157 rfl ?_
                    refine wp_seq ?_
                    refine reg ?_
                    refine plain (y_build rfl z_zeroN35 z_places35 rfl lay_n) rfl rfl rfl H157 ?_
                    clear H157; intro a159 H159
                    refine st_storeN rfl z_size35 rfl rfl (agg_cells _) (by repeat (first | exact Uh | apply Ut)) (q_one_c4b32b32 rfl rfl rfl rfl) (q_len_c4b32b32 (by first | assumption | exact Note.link_len _) (by first | assumption | exact Note.link_len _)) (q_len_c4b32b32 (by first | assumption | exact Note.link_len _) (by first | assumption | exact Note.link_len _)) (q_spl_c4b32b32_0_c4b32b32 (by first | assumption | exact Note.link_len _) (by first | assumption | exact Note.link_len _) (by first | assumption | exact Note.link_len _) (by first | assumption | exact Note.link_len _)) (by decide) rfl rfl H159 ?_
                    clear H159; intro wx160 H160
                    refine plain (y_assign rfl rfl) rfl rfl rfl H160 ?_
                    clear H160; intro a161 H161
                    refine fin ?_
                    refine then_n ?_
                    refine wp_ret ?_
                    refine then_r ?_
                    -- return 4
                    refine retct rfl H161 rfl z_agg35 z_size35 (by repeat (first | exact Mh | apply Mt)) (q_len_c4b32b32 (by first | assumption | exact Note.link_len _) (by first | assumption | exact Note.link_len _)) rfl ?_
                    refine ⟨_, [], rfl, ⟨?_, rfl⟩, H161.sep.sub (List.nil_sublist _)⟩
                    first | (rw [Note.readReceipt_none hfs]; rfl) | (rw [Note.readReceipt_bad hfs (by rintro ⟨h1, h2, h3, h4, h5⟩; simp only [List.length_drop] at h1; first | omega | exact absurd h5 (by assumption) | exact Bool.noConfusion (h4.symm.trans (show (Note.receiptOf [n0, n1, n2] (L.drop 3)).ok = false by assumption)))]; rfl) | (rw [Note.readReceipt_good hfs ⟨by simp only [List.length_drop]; omega, by omega, by omega, by assumption, Decidable.not_not.1 (by assumption)⟩]; rfl)
                · first
                  | fail
                  | skip
                    clear H148; intro H162
                    try simp only [decide_eq_true_eq, decide_eq_false_iff_not, Bool.not_eq_true', Bool.not_eq_false', Bool.and_eq_true, Bool.not_eq_true, Bool.not_eq_false] at hg149
                    refine qplain (y_loadAB rfl z_agg35 z_size35 rfl (by repeat (first | exact Mh | apply Mt)) (q_ld_c4b32b32_0_68 (by first | assumption | exact Note.link_len _) (by first | assumption | exact Note.link_len _)) (q_len_c4b32b32 (by first | assumption | exact Note.link_len _) (by first | assumption | exact Note.link_len _))) rfl rfl rfl H162 ?_
                    clear H162; intro a163 H163
                    refine qcallg rfl z_call44 rfl rfl rfl rfl H163 (fun w hs => (nlink (Note.receiptOf [n0, n1, n2] (L.drop 3)) wfr (hG.frm hs.frm (by simp)))) ?_
                    clear H163; intro a164 H164
                    refine qplain (y_fieldB rfl z_field35_5 rfl (by first | (simp only [Nat.zero_add, Nat.add_zero, Nat.reduceAdd]; rfl) | rfl)) rfl rfl rfl H164 ?_
                    clear H164; intro a165 H165
                    refine qplain (y_loadAB rfl z_agg23 z_size23 rfl (by repeat (first | exact Mh | apply Mt)) (q_ld_c4b32b32_36_32 (by first | assumption | exact Note.link_len _) (by first | assumption | exact Note.link_len _)) (q_len_b32 (by first | assumption | exact Note.link_len _))) rfl rfl rfl H165 ?_
                    clear H165; intro a166 H166
                    refine qplain (y_hneq rfl Tryd.eqGuardType23 Tryd.underlying23 Tryd.underlying5 z_size5 rfl rfl (by first | assumption | exact Note.link_len _) (by first | assumption | exact Note.link_len _)) rfl rfl rfl H166 ?_
                    clear H166; intro a167 H167
                    refine qplain (y_pick_f rfl rfl rfl) rfl rfl rfl H167 ?_
                    clear H167; intro a168 H168
                    refine qfin H168 ?_
                    clear H168; intro wx169 H169
                    refine then_n ?_
                    refine cnd H169 rfl (fun hc170 => ?_) (fun hc170 => ?_) -- cond 5
                    · skip
                      try simp only [decide_eq_true_eq, decide_eq_false_iff_not, Bool.not_eq_true', Bool.not_eq_false', Bool.and_eq_true, Bool.not_eq_true, Bool.not_eq_false] at hc170
                      refine wp_seq ?_
                      refine reg ?_
                      refine plain (y_build rfl z_zeroN35 z_places35 rfl lay_n) rfl rfl rfl H169 ?_
                      clear H169; intro a171 H171
                      refine st_storeN rfl z_size35 rfl rfl (agg_cells _) (by repeat (first | exact Uh | apply Ut)) (q_one_c4b32b32 rfl rfl rfl rfl) (q_len_c4b32b32 (by first | assumption | exact Note.link_len _) (by first | assumption | exact Note.link_len _)) (q_len_c4b32b32 (by first | assumption | exact Note.link_len _) (by first | assumption | exact Note.link_len _)) (q_spl_c4b32b32_0_c4b32b32 (by first | assumption | exact Note.link_len _) (by first | assumption | exact Note.link_len _) (by first | assumption | exact Note.link_len _) (by first | assumption | exact Note.link_len _)) (by decide) rfl rfl H171 ?_
                      clear H171; intro wx172 H172
                      refine plain (y_assign rfl rfl) rfl rfl rfl H172 ?_
                      clear H172; intro a173 H173
                      refine fin ?_
                      refine then_n ?_
                      refine wp_ret ?_
                      refine then_r ?_
                      -- return 5
                      refine retct rfl H173 rfl z_agg35 z_size35 (by repeat (first | exact Mh | apply Mt)) (q_len_c4b32b32 (by first | assumption | exact Note.link_len _) (by first | assumption | exact Note.link_len _)) rfl ?_
                      refine ⟨_, [], rfl, ⟨?_, rfl⟩, H173.sep.sub (List.nil_sublist _)⟩
                      first | (rw [Note.readReceipt_none hfs]; rfl) | (rw [Note.readReceipt_bad hfs (by rintro ⟨h1, h2, h3, h4, h5⟩; simp only [List.length_drop] at h1; first | omega | exact absurd h5 (by assumption) | exact Bool.noConfusion (h4.symm.trans (show (Note.receiptOf [n0, n1, n2] (L.drop 3)).ok = false by assumption)))]; rfl) | (rw [Note.readReceipt_good hfs ⟨by simp only [List.length_drop]; omega, by omega, by omega, by assumption, Decidable.not_not.1 (by assumption)⟩]; rfl)
                    · skip
                      try simp only [decide_eq_true_eq, decide_eq_false_iff_not, Bool.not_eq_true', Bool.not_eq_false', Bool.and_eq_true, Bool.not_eq_true, Bool.not_eq_false] at hc170
                      refine wp_skip ?_
                      refine then_n ?_
                      refine wp_seq ?_
                      refine reg ?_
                      refine plain (y_loadAB rfl z_agg35 z_size35 rfl (by repeat (first | exact Mh | apply Mt)) (q_ld_c4b32b32_0_68 (by first | assumption | exact Note.link_len _) (by first | assumption | exact Note.link_len _)) (q_len_c4b32b32 (by first | assumption | exact Note.link_len _) (by first | assumption | exact Note.link_len _))) rfl rfl rfl H169 ?_
                      clear H169; intro a174 H174
                      refine st_storeN rfl z_size35 rfl rfl (agg_cells _) (by repeat (first | exact Uh | apply Ut)) (q_one_c4b32b32 rfl rfl rfl rfl) (q_len_c4b32b32 (by first | assumption | exact Note.link_len _) (by first | assumption | exact Note.link_len _)) (q_len_c4b32b32 (by first | assumption | exact Note.link_len _) (by first | assumption | exact Note.link_len _)) (q_spl_c4b32b32_0_c4b32b32 (by first | assumption | exact Note.link_len _) (by first | assumption | exact Note.link_len _) (by first | assumption | exact Note.link_len _) (by first | assumption | exact Note.link_len _)) (by decide) rfl rfl H174 ?_
                      clear H174; intro wx175 H175
                      refine plain (y_assign rfl rfl) rfl rfl rfl H175 ?_
                      clear H175; intro a176 H176
                      refine fin ?_
                      refine then_n ?_
                      refine wp_ret ?_
                      -- return 6
                      refine retct rfl H176 rfl z_agg35 z_size35 (by repeat (first | exact Mh | apply Mt)) (q_len_c4b32b32 (by first | assumption | exact Note.link_len _) (by first | assumption | exact Note.link_len _)) rfl ?_
                      refine ⟨_, [], rfl, ⟨?_, rfl⟩, H176.sep.sub (List.nil_sublist _)⟩
                      first | (rw [Note.readReceipt_none hfs]; rfl) | (rw [Note.readReceipt_bad hfs (by rintro ⟨h1, h2, h3, h4, h5⟩; simp only [List.length_drop] at h1; first | omega | exact absurd h5 (by assumption) | exact Bool.noConfusion (h4.symm.trans (show (Note.receiptOf [n0, n1, n2] (L.drop 3)).ok = false by assumption)))]; rfl) | (rw [Note.readReceipt_good hfs ⟨by simp only [List.length_drop]; omega, by omega, by omega, by assumption, Decidable.not_not.1 (by assumption)⟩]; rfl)
  · skip
    simp only [List.nil_append] at H9
    refine plain (y_move rfl rfl) rfl rfl rfl H9 ?_
    clear H9; intro a177 H177
    refine plain (y_extract rfl rfl rfl) rfl rfl rfl H177 ?_
    clear H177; intro a178 H178
    refine plain (y_extract rfl rfl rfl) rfl rfl rfl H178 ?_
    clear H178; intro a179 H179
    refine plain (y_assign rfl rfl) rfl rfl rfl H179 ?_
    clear H179; intro a180 H180
    refine plain (y_assign rfl rfl) rfl rfl rfl H180 ?_
    clear H180; intro a181 H181
    refine fin ?_
    refine then_n ?_
    refine wp_seq ?_
    refine wp_seq ?_
    refine reg ?_
    refine plain (y_move rfl rfl) rfl rfl rfl H181 ?_
    clear H181; intro a182 H182
    refine plain (y_not rfl rfl) rfl rfl rfl H182 ?_
    clear H182; intro a183 H183
    refine plain (y_move rfl rfl) rfl rfl rfl H183 ?_
    clear H183; intro a184 H184
    refine skip rfl rfl rfl H184 ?_
    clear H184; intro a185 H185
    refine skip rfl rfl rfl H185 ?_
    clear H185; intro a186 H186
    refine skip rfl rfl rfl H186 ?_
    clear H186; intro a187 H187
    refine plain (y_pick_t rfl rfl rfl) rfl rfl rfl H187 ?_
    clear H187; intro a188 H188
    refine plain (y_move rfl rfl) rfl rfl rfl H188 ?_
    clear H188; intro a189 H189
    refine skip rfl rfl rfl H189 ?_
    clear H189; intro a190 H190
    refine skip rfl rfl rfl H190 ?_
    clear H190; intro a191 H191
    refine skip rfl rfl rfl H191 ?_
    clear H191; intro a192 H192
    refine skip rfl rfl rfl H192 ?_
    clear H192; intro a193 H193
    refine skip rfl rfl rfl H193 ?_
    clear H193; intro a194 H194
    refine plain (y_pick_t rfl rfl rfl) rfl rfl rfl H194 ?_
    clear H194; intro a195 H195
    refine plain (y_move rfl rfl) rfl rfl rfl H195 ?_
    clear H195; intro a196 H196
    refine skip rfl rfl rfl H196 ?_
    clear H196; intro a197 H197
    refine skip rfl rfl rfl H197 ?_
    clear H197; intro a198 H198
    refine skip rfl rfl rfl H198 ?_
    clear H198; intro a199 H199
    refine skip rfl rfl rfl H199 ?_
    clear H199; intro a200 H200
    refine skip rfl rfl rfl H200 ?_
    clear H200; intro a201 H201
    refine plain (y_pick_t rfl rfl rfl) rfl rfl rfl H201 ?_
    clear H201; intro a202 H202
    refine fin ?_
    refine then_n ?_
    refine cnd_t H202 rfl ?_
    refine wp_seq ?_
    refine reg ?_
    refine plain (y_build rfl z_zeroN35 z_places35 rfl lay_n) rfl rfl rfl H202 ?_
    clear H202; intro a204 H204
    refine st_storeN rfl z_size35 rfl rfl (agg_cells _) (by repeat (first | exact Uh | apply Ut)) (q_one_c4b32b32 rfl rfl rfl rfl) (q_len_c4b32b32 (by first | assumption | exact Note.link_len _) (by first | assumption | exact Note.link_len _)) (q_len_c4b32b32 (by first | assumption | exact Note.link_len _) (by first | assumption | exact Note.link_len _)) (q_spl_c4b32b32_0_c4b32b32 (by first | assumption | exact Note.link_len _) (by first | assumption | exact Note.link_len _) (by first | assumption | exact Note.link_len _) (by first | assumption | exact Note.link_len _)) (by decide) rfl rfl H204 ?_
    clear H204; intro wx205 H205
    refine plain (y_assign rfl rfl) rfl rfl rfl H205 ?_
    clear H205; intro a206 H206
    refine fin ?_
    refine then_n ?_
    refine wp_ret ?_
    refine then_r ?_
    -- return 7
    refine retct rfl H206 rfl z_agg35 z_size35 (by repeat (first | exact Mh | apply Mt)) (q_len_c4b32b32 (by first | assumption | exact Note.link_len _) (by first | assumption | exact Note.link_len _)) rfl ?_
    refine ⟨_, [], rfl, ⟨?_, rfl⟩, H206.sep.sub (List.nil_sublist _)⟩
    first | (rw [Note.readReceipt_none hfs]; rfl) | (rw [Note.readReceipt_bad hfs (by rintro ⟨h1, h2, h3, h4, h5⟩; simp only [List.length_drop] at h1; first | omega | exact absurd h5 (by assumption) | exact Bool.noConfusion (h4.symm.trans (show (Note.receiptOf [n0, n1, n2] (L.drop 3)).ok = false by assumption)))]; rfl) | (rw [Note.readReceipt_good hfs ⟨by simp only [List.length_drop]; omega, by omega, by omega, by assumption, Decidable.not_not.1 (by assumption)⟩]; rfl)

end Go.Proofs.YtnnhnnhdoipbaaaDoor.N_RRec
