/- Part of a proof about given Go functions: contracts of functions, or plain laws. -/
import Derived.Test.YtlaojmcpiggfeaaSxT
import Derived.Test.YtlaojmcpiggfeaaBankV
import Derived.Test.YtlaojmcpiggfeaaBank2
import Derived.Test.YtlaojmcpiggfeaaProg
import Derived.Test.YtlaojmcpiggfeaaTBank
import Derived.Test.YtlaojmcpiggfeaaTBank2
import Derived.Test.YtlaojmcpiggfeaaTBank3
set_option linter.unusedVariables false
set_option linter.unusedSimpArgs false
namespace Go.Proofs.Ytlaojmcpiggfeaa.TBankA
open Go.Sx Go.RowKit Go.Proofs.Ytlaojmcpiggfeaa.TBank Go.Proofs.Ytlaojmcpiggfeaa.TBank2 Go.Proofs.Ytlaojmcpiggfeaa.TBank3

theorem z_call19 : callB Try.prog 19 = true := by kernel_rfl
theorem z_call21 : callB Try.prog 21 = true := by kernel_rfl
theorem z_size34 : sizeB Try.prog 34 = some 4 := by kernel_rfl
theorem z_agg34 : aggB Try.prog 34 = some true := by kernel_rfl
theorem z_call25 : callB Try.prog 25 = true := by kernel_rfl
theorem z_call27 : callB Try.prog 27 = true := by kernel_rfl
theorem z_field34_1 : fieldB Try.prog 34 1 = some 1 := by kernel_rfl
theorem z_agg3 : aggB Try.prog 3 = some false := by kernel_rfl
theorem z_size3 : sizeB Try.prog 3 = some 1 := by kernel_rfl
theorem z_field34_2 : fieldB Try.prog 34 2 = some 2 := by kernel_rfl
theorem z_field34_0 : fieldB Try.prog 34 0 = some 0 := by kernel_rfl

set_option maxRecDepth 100000 in
set_option maxHeartbeats 4000000 in
theorem bankApart (l : List Bank.Act) (A : Option Addr) (m c : Nat) (hm : m = l.length) (x : Bank.Act) (w : World) (hR : Rd w A (l.map Bank.cells).flatten) (hl : l.length ≤ 9223372036854775807) : Calls Try.prog 6 #[.slice A m c, .agg (Bank.cells x).toArray] w (Gives (.bool true) [] w) := by
  subst hm
  refine enterL (args := [.slice A l.length c, .agg (Bank.cells x).toArray]) Try.func6 rfl rfl (l := []) (Sep.refl _) ?_
  intro a0 H0
  refine wp_seq ?_
  refine reg ?_
  refine st_box rfl rfl rfl rfl rfl rfl H0 ?_
  clear H0; intro b1 a1 w1 H1
  refine plain (y_assign rfl rfl) rfl rfl rfl H1 ?_
  clear H1; intro a2 H2
  refine fin ?_
  refine then_n ?_
  refine wp_seq ?_
  refine reg ?_
  refine st_call rfl z_call19 rfl rfl rfl rfl H2 (bnew _) ?_
  clear H2; intro v3 l3 a3 w3 hf3 H3
  obtain ⟨bk, rfl, rfl⟩ := hf3
  simp only [List.cons_append, List.nil_append] at H3
  refine plain (y_assign rfl rfl) rfl rfl rfl H3 ?_
  clear H3; intro a4 H4
  refine fin ?_
  refine then_n ?_
  refine wp_seq ?_
  refine wp_seq ?_
  refine reg ?_
  refine plain (y_move rfl rfl) rfl rfl rfl H4 ?_
  clear H4; intro a5 H5
  refine plain (y_peql rfl Try.underlying29 rfl rfl) rfl rfl rfl H5 ?_
  clear H5; intro a6 H6
  refine plain (y_move rfl rfl) rfl rfl rfl H6 ?_
  clear H6; intro a7 H7
  have H9 := H7.know (d := 15) (v := .bool false) rfl (rfl)
  clear H7
  refine st_callg rfl z_call21 rfl rfl rfl rfl H9 (awake _) ?_
  clear H9; intro a10 w10 H10
  refine plain (y_not rfl rfl) rfl rfl rfl H10 ?_
  clear H10; intro a11 H11
  refine plain (y_pick_f rfl rfl rfl) rfl rfl rfl H11 ?_
  clear H11; intro a12 H12
  refine fin ?_
  refine then_n ?_
  refine cnd_f H12 rfl ?_
  refine wp_skip ?_
  refine then_n ?_
  refine wp_seq ?_
  refine wp_seq ?_
  refine reg ?_
  refine plain (y_assign rfl rfl) rfl rfl rfl H12 ?_
  clear H12; intro a14 H14
  refine fin ?_
  refine then_n ?_
  refine wp_cut (fun aC wC => ∃ k : Nat, St Try.f6.ntmps [] w ([(3, .pointer (some ⟨b1, 0, none⟩)), (5, .pointer (some ⟨bk, 0, none⟩))]) ([It.blk bk 69 ((Bank.run l k).map i64), It.blk b1 34 (Bank.cells x)]) aC wC) ?_ ?_
  · skip
    refine wp_block ?_
    refine loop (ι := Nat) (fun k => [(0, .slice A l.length c), (5, .pointer (some ⟨bk, 0, none⟩)), (6, .int .i64 (k : Int)), (3, .pointer (some ⟨b1, 0, none⟩))]) (fun k => [It.blk bk 69 ((Bank.run l k).map i64), It.blk b1 34 (Bank.cells x)]) (fun k => k ≤ l.length ∧ k ≤ 100) (fun k => l.length - k) (0) (by omega) (H14.weak ⟨rfl, rfl, rfl, rfl, trivial⟩ rfl) ?_
    clear H14; intro k a15 w15 hok15 H15
    have hok := hok15
    refine wp_seq ?_
    refine wp_seq ?_
    refine reg ?_
    refine plain (y_move rfl rfl) rfl rfl rfl H15 ?_
    clear H15; intro a16 H16
    refine plain (y_move rfl rfl) rfl rfl rfl H16 ?_
    clear H16; intro a17 H17
    refine plain (y_len rfl Try.underlying28 rfl) rfl rfl rfl H17 ?_
    clear H17; intro a18 H18
    refine plain (y_lss rfl rfl rfl) rfl rfl rfl H18 ?_
    clear H18; intro a19 H19
    refine plain (y_move rfl rfl) rfl rfl rfl H19 ?_
    clear H19; intro a20 H20
    refine part_d (d := 23) H20 rfl (fun hg21 => ?_) (fun hg21 => ?_)
    · first
      | fail
      | skip
        clear H20; intro H22
        refine plain (y_move rfl rfl) rfl rfl rfl H22 ?_
        clear H22; intro a23 H23
        refine plain (y_lss rfl rfl rfl) rfl rfl rfl H23 ?_
        clear H23; intro a24 H24
        refine plain (y_pick_t rfl rfl rfl) rfl rfl rfl H24 ?_
        clear H24; intro a25 H25
        refine fin ?_
        refine then_n ?_
        refine cnd_d H25 rfl (fun hc26 => ?_) (fun hc26 => ?_)
        · skip
          refine wp_skip ?_
          refine then_n ?_
          refine wp_seq ?_
          refine wp_block ?_
          refine reg ?_
          refine plain (y_move rfl rfl) rfl rfl rfl H25 ?_
          clear H25; intro a27 H27
          refine plain (y_move rfl rfl) rfl rfl rfl H27 ?_
          clear H27; intro a28 H28
          refine plain (y_move rfl rfl) rfl rfl rfl H28 ?_
          clear H28; intro a29 H29
          refine plain (y_ixR rfl Try.underlying28 z_size34 rfl rfl (by omega) (by omega) (rd_old (by assumption) (by simp)) (by first | (rw [flat_len Bank.cells_len]; omega) | (simp; omega))) rfl rfl rfl H29 ?_
          clear H29; intro a30 H30
          refine plain (y_loadAS rfl z_agg34 z_size34 rfl (rd_old (by assumption) (by simp)) (flat_takeI Bank.cells_len Bank.A0 l k (by omega)) rfl (by decide)) rfl rfl rfl H30 ?_
          clear H30; intro a31 H31
          refine st_callu rfl z_call25 rfl rfl rfl rfl H31 (bdo bk _ (Bank.run_ok l k) (l.getD k Bank.A0) (H31.sep.all _ (by repeat (first | exact List.Mem.head _ | apply List.Mem.tail)))) (by repeat (first | exact Upd.head _ _ _ | apply Upd.tail)) ?_
          clear H31; intro a32 w32 H32
          refine fin ?_
          refine inb_n ?_
          refine then_n ?_
          refine reg ?_
          refine plain (y_move rfl rfl) rfl rfl rfl H32 ?_
          clear H32; intro a33 H33
          refine plain (y_add rfl rfl rfl (by first | exact w64 (by omega) (by omega) | rfl)) rfl rfl rfl H33 ?_
          clear H33; intro a34 H34
          refine plain (y_assign rfl rfl) rfl rfl rfl H34 ?_
          clear H34; intro a35 H35
          refine fin ?_
          refine then_n ?_
          refine ⟨k + 1, by omega, by omega, H35.weak ⟨rfl, rfl, fi rfl (by omega), rfl, trivial⟩ (ib2 (by rw [Bank.run_succ (by omega)]) rfl)⟩
        · skip
          refine wp_exit ?_
          refine then_x ?_
          refine then_x ?_
          refine inb_hit ?_
          refine cut_n ?_
          exact ⟨k, H25.weak ⟨rfl, rfl, trivial⟩ rfl⟩
    · first
      | fail
      | skip
        clear H20; intro H36
        refine skip rfl rfl rfl H36 ?_
        clear H36; intro a37 H37
        refine skip rfl rfl rfl H37 ?_
        clear H37; intro a38 H38
        refine plain (y_pick_f rfl rfl rfl) rfl rfl rfl H38 ?_
        clear H38; intro a39 H39
        refine fin ?_
        refine then_n ?_
        refine cnd_f H39 rfl ?_
        refine wp_exit ?_
        refine then_x ?_
        refine then_x ?_
        refine inb_hit ?_
        refine cut_n ?_
        exact ⟨k, H39.weak ⟨rfl, rfl, trivial⟩ rfl⟩
  · clear H14; intro a41 w41 hI41
    obtain ⟨k, H41⟩ := hI41
    refine then_n ?_
    refine wp_seq ?_
    refine reg ?_
    refine plain (y_move rfl rfl) rfl rfl rfl H41 ?_
    clear H41; intro a42 H42
    refine st_call rfl z_call27 rfl rfl rfl rfl H42 (ball bk _ (Bank.run_ok l k) (H42.sep.all _ (by repeat (first | exact List.Mem.head _ | apply List.Mem.tail)))) ?_
    clear H42; intro v43 l43 a43 w43 hf43 H43
    obtain rfl := hf43
    simp only [List.cons_append, List.nil_append] at H43
    obtain ⟨Ap, cp, hv43, hRp, hmp⟩ := row_shape (v := v43) H43.sep (List.Mem.head _)
    subst hv43
    refine plain (y_assign rfl rfl) rfl rfl rfl H43 ?_
    clear H43; intro a44 H44
    refine fin ?_
    refine then_n ?_
    refine wp_seq ?_
    refine reg ?_
    refine plain (y_move rfl rfl) rfl rfl rfl H44 ?_
    clear H44; intro a45 H45
    refine plain (y_loadAB rfl z_agg34 z_size34 rfl (by repeat (first | exact List.Mem.head _ | apply List.Mem.tail)) rfl rfl) rfl rfl rfl H45 ?_
    clear H45; intro a46 H46
    refine st_callu rfl z_call25 rfl rfl rfl rfl H46 (bdo bk _ (Bank.run_ok l k) x (H46.sep.all _ (by repeat (first | exact List.Mem.head _ | apply List.Mem.tail)))) (by repeat (first | exact Upd.head _ _ _ | apply Upd.tail)) ?_
    clear H46; intro a47 w47 H47
    refine plain (y_assign rfl rfl) rfl rfl rfl H47 ?_
    clear H47; intro a48 H48
    refine fin ?_
    refine then_n ?_
    refine wp_seq ?_
    refine reg ?_
    refine plain (y_move rfl rfl) rfl rfl rfl H48 ?_
    clear H48; intro a49 H49
    refine st_call rfl z_call27 rfl rfl rfl rfl H49 (ball bk _ (Bank.doo_keep (Bank.run_ok l k) x) (H49.sep.all _ (by repeat (first | exact List.Mem.head _ | apply List.Mem.tail)))) ?_
    clear H49; intro v50 l50 a50 w50 hf50 H50
    obtain rfl := hf50
    simp only [List.cons_append, List.nil_append] at H50
    obtain ⟨Aq, cq, hv50, hRq, hmq⟩ := row_shape (v := v50) H50.sep (List.Mem.head _)
    subst hv50
    refine plain (y_assign rfl rfl) rfl rfl rfl H50 ?_
    clear H50; intro a51 H51
    refine fin ?_
    refine then_n ?_
    refine wp_seq ?_
    refine wp_seq ?_
    refine reg ?_
    refine plain (y_assign rfl rfl) rfl rfl rfl H51 ?_
    clear H51; intro a52 H52
    refine fin ?_
    refine then_n ?_
    refine wp_block ?_
    refine loop (ι := Nat) (fun i => [(3, .pointer (some ⟨b1, 0, none⟩)), (7, .slice Ap 64 cp), (8, .int .i64 (Bank.doo (Bank.run l k) x).1), (9, .slice Aq 64 cq), (10, .int .i64 (i : Int))]) (fun i => [It.row 3 1 (.slice Aq 64 cq) 64 ((Bank.doo (Bank.run l k) x).2.map i64), It.row 3 1 (.slice Ap 64 cp) 64 ((Bank.run l k).map i64), It.blk bk 69 ((Bank.doo (Bank.run l k) x).2.map i64), It.blk b1 34 (Bank.cells x)]) (fun i => i ≤ 64) (fun i => 64 - i) (0) (Nat.zero_le _) (H52.weak ⟨rfl, rfl, rfl, rfl, rfl, trivial⟩ rfl) ?_
    clear H52; intro i a53 w53 hok53 H53
    have hok := hok53
    have hap := fun h : i < 64 => Bank.doo_apart (Bank.run l k) x i h
    have hl1 := (Bank.run_ok l k).len
    have hl2 := (Bank.doo_keep (Bank.run_ok l k) x).len
    refine wp_seq ?_
    refine wp_seq ?_
    refine reg ?_
    refine plain (y_move rfl rfl) rfl rfl rfl H53 ?_
    clear H53; intro a54 H54
    refine plain (y_move rfl rfl) rfl rfl rfl H54 ?_
    clear H54; intro a55 H55
    refine plain (y_len rfl Try.underlying39 rfl) rfl rfl rfl H55 ?_
    clear H55; intro a56 H56
    refine plain (y_lss rfl rfl rfl) rfl rfl rfl H56 ?_
    clear H56; intro a57 H57
    refine plain (y_move rfl rfl) rfl rfl rfl H57 ?_
    clear H57; intro a58 H58
    refine part_d (d := 46) H58 rfl (fun hg59 => ?_) (fun hg59 => ?_)
    · first
      | fail
      | skip
        clear H58; intro H60
        refine plain (y_move rfl rfl) rfl rfl rfl H60 ?_
        clear H60; intro a61 H61
        refine plain (y_move rfl rfl) rfl rfl rfl H61 ?_
        clear H61; intro a62 H62
        refine plain (y_len rfl Try.underlying39 rfl) rfl rfl rfl H62 ?_
        clear H62; intro a63 H63
        refine plain (y_lss rfl rfl rfl) rfl rfl rfl H63 ?_
        clear H63; intro a64 H64
        refine plain (y_pick_t rfl rfl rfl) rfl rfl rfl H64 ?_
        clear H64; intro a65 H65
        refine fin ?_
        refine then_n ?_
        refine cnd_d H65 rfl (fun hc66 => ?_) (fun hc66 => ?_)
        · skip
          refine wp_skip ?_
          refine then_n ?_
          refine wp_seq ?_
          refine wp_block ?_
          refine wp_seq ?_
          refine reg ?_
          refine plain (y_move rfl rfl) rfl rfl rfl H65 ?_
          clear H65; intro a67 H67
          refine plain (y_fieldB rfl z_field34_1 rfl (by first | (simp only [Nat.zero_add, Nat.add_zero, Nat.reduceAdd]; rfl) | rfl)) rfl rfl rfl H67 ?_
          clear H67; intro a68 H68
          refine plain (y_loadB rfl z_agg3 rfl (by repeat (first | exact List.Mem.head _ | apply List.Mem.tail)) rfl) rfl rfl rfl H68 ?_
          clear H68; intro a69 H69
          refine plain (y_eql rfl rfl rfl) rfl rfl rfl H69 ?_
          clear H69; intro a70 H70
          refine plain (y_move rfl rfl) rfl rfl rfl H70 ?_
          clear H70; intro a71 H71
          refine part_d (d := 58) H71 rfl (fun hg72 => ?_) (fun hg72 => ?_)
          · first
            | fail
            | skip
              clear H71; intro H73
              refine skip rfl rfl rfl H73 ?_
              clear H73; intro a74 H74
              refine skip rfl rfl rfl H74 ?_
              clear H74; intro a75 H75
              refine skip rfl rfl rfl H75 ?_
              clear H75; intro a76 H76
              refine skip rfl rfl rfl H76 ?_
              clear H76; intro a77 H77
              refine skip rfl rfl rfl H77 ?_
              clear H77; intro a78 H78
              refine skip rfl rfl rfl H78 ?_
              clear H78; intro a79 H79
              refine skip rfl rfl rfl H79 ?_
              clear H79; intro a80 H80
              refine skip rfl rfl rfl H80 ?_
              clear H80; intro a81 H81
              refine skip rfl rfl rfl H81 ?_
              clear H81; intro a82 H82
              refine skip rfl rfl rfl H82 ?_
              clear H82; intro a83 H83
              refine skip rfl rfl rfl H83 ?_
              clear H83; intro a84 H84
              refine skip rfl rfl rfl H84 ?_
              clear H84; intro a85 H85
              refine skip rfl rfl rfl H85 ?_
              clear H85; intro a86 H86
              refine skip rfl rfl rfl H86 ?_
              clear H86; intro a87 H87
              refine plain (y_pick_t rfl rfl rfl) rfl rfl rfl H87 ?_
              clear H87; intro a88 H88
              refine plain (y_assign rfl rfl) rfl rfl rfl H88 ?_
              clear H88; intro a89 H89
              refine fin ?_
              refine then_n ?_
              refine wp_seq ?_
              refine qreg (by kernel_rfl) (by kernel_rfl) H89 ?_
              have F90 := H89.fr
              clear H89
              refine qplain (y_move rfl rfl) rfl rfl rfl F90 ?_
              clear F90; intro a91 H91
              refine qplain (y_move rfl rfl) rfl rfl rfl H91 ?_
              clear H91; intro a92 H92
              refine qplain (y_ixR rfl Try.underlying39 z_size3 rfl rfl (by omega) (by omega) (rd_row (by repeat (first | exact List.Mem.head _ | apply List.Mem.tail))) (by first | (rw [flat_len Bank.cells_len]; omega) | (simp; omega))) rfl rfl rfl H92 ?_
              clear H92; intro a93 H93
              refine qplain (y_loadR rfl z_agg3 rfl (rd_row (by repeat (first | exact List.Mem.head _ | apply List.Mem.tail))) (by simp only [Int.toNat_natCast, Nat.mul_one, Nat.add_zero]; exact i64_get _ _ (by rw [hl1]; omega))) rfl rfl rfl H93 ?_
              clear H93; intro a94 H94
              refine qplain (y_move rfl rfl) rfl rfl rfl H94 ?_
              clear H94; intro a95 H95
              refine qplain (y_move rfl rfl) rfl rfl rfl H95 ?_
              clear H95; intro a96 H96
              refine qplain (y_ixR rfl Try.underlying39 z_size3 rfl rfl (by omega) (by omega) (rd_row (by repeat (first | exact List.Mem.head _ | apply List.Mem.tail))) (by first | (rw [flat_len Bank.cells_len]; omega) | (simp; omega))) rfl rfl rfl H96 ?_
              clear H96; intro a97 H97
              refine qplain (y_loadR rfl z_agg3 rfl (rd_row (by repeat (first | exact List.Mem.head _ | apply List.Mem.tail))) (by simp only [Int.toNat_natCast, Nat.mul_one, Nat.add_zero]; exact i64_get _ _ (by rw [hl2]; omega))) rfl rfl rfl H97 ?_
              clear H97; intro a98 H98
              refine qplain (y_neq rfl rfl rfl) rfl rfl rfl H98 ?_
              clear H98; intro a99 H99
              refine qplain (y_move rfl rfl) rfl rfl rfl H99 ?_
              clear H99; intro a100 H100
              refine qpart_d (d := 83) H100 rfl (fun hg101 => ?_) (fun hg101 => ?_)
              · first
                | fail
                | skip
                  clear H100; intro H102
                  refine qplain (y_move rfl rfl) rfl rfl rfl H102 ?_
                  clear H102; intro a103 H103
                  refine qplain (y_neq rfl rfl rfl) rfl rfl rfl H103 ?_
                  clear H103; intro a104 H104
                  refine qplain (y_move rfl rfl) rfl rfl rfl H104 ?_
                  clear H104; intro a105 H105
                  refine qpart_d (d := 86) H105 rfl (fun hg106 => ?_) (fun hg106 => ?_)
                  · first
                    | fail
                    | skip
                      clear H105; intro H107
                      refine qskip rfl rfl rfl H107 ?_
                      clear H107; intro a108 H108
                      refine qskip rfl rfl rfl H108 ?_
                      clear H108; intro a109 H109
                      refine qplain (y_pick_t rfl rfl rfl) rfl rfl rfl H109 ?_
                      clear H109; intro a110 H110
                      refine qplain (y_pick_t rfl rfl rfl) rfl rfl rfl H110 ?_
                      clear H110; intro a111 H111
                      refine qfin H111 ?_
                      clear H111; intro w112 H112
                      refine then_n ?_
                      refine cnd_t H112 rfl ?_
                      refine wp_seq ?_
                      refine reg ?_
                      refine plain (y_assign rfl rfl) rfl rfl rfl H112 ?_
                      clear H112; intro a114 H114
                      refine fin ?_
                      refine then_n ?_
                      refine wp_ret ?_
                      refine inb_r ?_
                      refine then_r ?_
                      refine then_r ?_
                      refine inb_r ?_
                      refine then_r ?_
                      -- return 1
                      refine ret1 rfl H114 rfl ?_
                      first | (exact ⟨_, [], rfl, ⟨congrArg Value.bool (decide_eq_true rfl), rfl⟩, H114.sep.sub (List.nil_sublist _)⟩) | (exfalso; rcases hap (by omega) with hz | hz <;> omega)
                  · first
                    | fail
                    | skip
                      clear H105; intro H115
                      refine qplain (y_move rfl rfl) rfl rfl rfl H115 ?_
                      clear H115; intro a116 H116
                      refine qplain (y_not rfl rfl) rfl rfl rfl H116 ?_
                      clear H116; intro a117 H117
                      refine qplain (y_pick_f rfl rfl rfl) rfl rfl rfl H117 ?_
                      clear H117; intro a118 H118
                      refine qplain (y_pick_t rfl rfl rfl) rfl rfl rfl H118 ?_
                      clear H118; intro a119 H119
                      refine qfin H119 ?_
                      clear H119; intro w120 H120
                      refine then_n ?_
                      refine cnd_f H120 rfl ?_
                      refine wp_skip ?_
                      refine inb_n ?_
                      refine then_n ?_
                      refine reg ?_
                      refine plain (y_move rfl rfl) rfl rfl rfl H120 ?_
                      clear H120; intro a122 H122
                      refine plain (y_add rfl rfl rfl (by first | exact w64 (by omega) (by omega) | rfl)) rfl rfl rfl H122 ?_
                      clear H122; intro a123 H123
                      refine plain (y_assign rfl rfl) rfl rfl rfl H123 ?_
                      clear H123; intro a124 H124
                      refine fin ?_
                      refine then_n ?_
                      refine ⟨i + 1, by omega, by omega, H124.weak ⟨rfl, rfl, rfl, rfl, fi rfl (by omega), trivial⟩ rfl⟩
              · first
                | fail
                | skip
                  clear H100; intro H125
                  refine qskip rfl rfl rfl H125 ?_
                  clear H125; intro a126 H126
                  refine qskip rfl rfl rfl H126 ?_
                  clear H126; intro a127 H127
                  refine qskip rfl rfl rfl H127 ?_
                  clear H127; intro a128 H128
                  refine qskip rfl rfl rfl H128 ?_
                  clear H128; intro a129 H129
                  refine qskip rfl rfl rfl H129 ?_
                  clear H129; intro a130 H130
                  refine qskip rfl rfl rfl H130 ?_
                  clear H130; intro a131 H131
                  refine qplain (y_pick_f rfl rfl rfl) rfl rfl rfl H131 ?_
                  clear H131; intro a132 H132
                  refine qfin H132 ?_
                  clear H132; intro w133 H133
                  refine then_n ?_
                  refine cnd_f H133 rfl ?_
                  refine wp_skip ?_
                  refine inb_n ?_
                  refine then_n ?_
                  refine reg ?_
                  refine plain (y_move rfl rfl) rfl rfl rfl H133 ?_
                  clear H133; intro a135 H135
                  refine plain (y_add rfl rfl rfl (by first | exact w64 (by omega) (by omega) | rfl)) rfl rfl rfl H135 ?_
                  clear H135; intro a136 H136
                  refine plain (y_assign rfl rfl) rfl rfl rfl H136 ?_
                  clear H136; intro a137 H137
                  refine fin ?_
                  refine then_n ?_
                  refine ⟨i + 1, by omega, by omega, H137.weak ⟨rfl, rfl, rfl, rfl, fi rfl (by omega), trivial⟩ rfl⟩
          · first
            | fail
            | skip
              clear H71; intro H138
              refine plain (y_move rfl rfl) rfl rfl rfl H138 ?_
              clear H138; intro a139 H139
              refine plain (y_fieldB rfl z_field34_2 rfl (by first | (simp only [Nat.zero_add, Nat.add_zero, Nat.reduceAdd]; rfl) | rfl)) rfl rfl rfl H139 ?_
              clear H139; intro a140 H140
              refine plain (y_loadB rfl z_agg3 rfl (by repeat (first | exact List.Mem.head _ | apply List.Mem.tail)) rfl) rfl rfl rfl H140 ?_
              clear H140; intro a141 H141
              refine plain (y_eql rfl rfl rfl) rfl rfl rfl H141 ?_
              clear H141; intro a142 H142
              refine plain (y_move rfl rfl) rfl rfl rfl H142 ?_
              clear H142; intro a143 H143
              refine part_d (d := 63) H143 rfl (fun hg144 => ?_) (fun hg144 => ?_)
              · first
                | fail
                | skip
                  clear H143; intro H145
                  refine plain (y_fieldB rfl z_field34_0 rfl (by first | (simp only [Nat.zero_add, Nat.add_zero, Nat.reduceAdd]; rfl) | rfl)) rfl rfl rfl H145 ?_
                  clear H145; intro a146 H146
                  refine plain (y_loadB rfl z_agg3 rfl (by repeat (first | exact List.Mem.head _ | apply List.Mem.tail)) rfl) rfl rfl rfl H146 ?_
                  clear H146; intro a147 H147
                  refine plain (y_gtr rfl rfl rfl) rfl rfl rfl H147 ?_
                  clear H147; intro a148 H148
                  refine plain (y_move rfl rfl) rfl rfl rfl H148 ?_
                  clear H148; intro a149 H149
                  refine part_d (d := 67) H149 rfl (fun hg150 => ?_) (fun hg150 => ?_)
                  · first
                    | fail
                    | skip
                      clear H149; intro H151
                      refine skip rfl rfl rfl H151 ?_
                      clear H151; intro a152 H152
                      refine skip rfl rfl rfl H152 ?_
                      clear H152; intro a153 H153
                      refine skip rfl rfl rfl H153 ?_
                      clear H153; intro a154 H154
                      refine plain (y_pick_t rfl rfl rfl) rfl rfl rfl H154 ?_
                      clear H154; intro a155 H155
                      refine plain (y_pick_t rfl rfl rfl) rfl rfl rfl H155 ?_
                      clear H155; intro a156 H156
                      refine plain (y_pick_f rfl rfl rfl) rfl rfl rfl H156 ?_
                      clear H156; intro a157 H157
                      refine plain (y_assign rfl rfl) rfl rfl rfl H157 ?_
                      clear H157; intro a158 H158
                      refine fin ?_
                      refine then_n ?_
                      refine wp_seq ?_
                      refine qreg (by kernel_rfl) (by kernel_rfl) H158 ?_
                      have F159 := H158.fr
                      clear H158
                      refine qplain (y_move rfl rfl) rfl rfl rfl F159 ?_
                      clear F159; intro a160 H160
                      refine qplain (y_move rfl rfl) rfl rfl rfl H160 ?_
                      clear H160; intro a161 H161
                      refine qplain (y_ixR rfl Try.underlying39 z_size3 rfl rfl (by omega) (by omega) (rd_row (by repeat (first | exact List.Mem.head _ | apply List.Mem.tail))) (by first | (rw [flat_len Bank.cells_len]; omega) | (simp; omega))) rfl rfl rfl H161 ?_
                      clear H161; intro a162 H162
                      refine qplain (y_loadR rfl z_agg3 rfl (rd_row (by repeat (first | exact List.Mem.head _ | apply List.Mem.tail))) (by simp only [Int.toNat_natCast, Nat.mul_one, Nat.add_zero]; exact i64_get _ _ (by rw [hl1]; omega))) rfl rfl rfl H162 ?_
                      clear H162; intro a163 H163
                      refine qplain (y_move rfl rfl) rfl rfl rfl H163 ?_
                      clear H163; intro a164 H164
                      refine qplain (y_move rfl rfl) rfl rfl rfl H164 ?_
                      clear H164; intro a165 H165
                      refine qplain (y_ixR rfl Try.underlying39 z_size3 rfl rfl (by omega) (by omega) (rd_row (by repeat (first | exact List.Mem.head _ | apply List.Mem.tail))) (by first | (rw [flat_len Bank.cells_len]; omega) | (simp; omega))) rfl rfl rfl H165 ?_
                      clear H165; intro a166 H166
                      refine qplain (y_loadR rfl z_agg3 rfl (rd_row (by repeat (first | exact List.Mem.head _ | apply List.Mem.tail))) (by simp only [Int.toNat_natCast, Nat.mul_one, Nat.add_zero]; exact i64_get _ _ (by rw [hl2]; omega))) rfl rfl rfl H166 ?_
                      clear H166; intro a167 H167
                      refine qplain (y_neq rfl rfl rfl) rfl rfl rfl H167 ?_
                      clear H167; intro a168 H168
                      refine qplain (y_move rfl rfl) rfl rfl rfl H168 ?_
                      clear H168; intro a169 H169
                      refine qpart_d (d := 83) H169 rfl (fun hg170 => ?_) (fun hg170 => ?_)
                      · first
                        | fail
                        | skip
                          clear H169; intro H171
                          refine qplain (y_move rfl rfl) rfl rfl rfl H171 ?_
                          clear H171; intro a172 H172
                          refine qplain (y_neq rfl rfl rfl) rfl rfl rfl H172 ?_
                          clear H172; intro a173 H173
                          refine qplain (y_move rfl rfl) rfl rfl rfl H173 ?_
                          clear H173; intro a174 H174
                          refine qpart_d (d := 86) H174 rfl (fun hg175 => ?_) (fun hg175 => ?_)
                          · first
                            | fail
                            | skip
                              clear H174; intro H176
                              refine qskip rfl rfl rfl H176 ?_
                              clear H176; intro a177 H177
                              refine qskip rfl rfl rfl H177 ?_
                              clear H177; intro a178 H178
                              refine qplain (y_pick_t rfl rfl rfl) rfl rfl rfl H178 ?_
                              clear H178; intro a179 H179
                              refine qplain (y_pick_t rfl rfl rfl) rfl rfl rfl H179 ?_
                              clear H179; intro a180 H180
                              refine qfin H180 ?_
                              clear H180; intro w181 H181
                              refine then_n ?_
                              refine cnd_t H181 rfl ?_
                              refine wp_seq ?_
                              refine reg ?_
                              refine plain (y_assign rfl rfl) rfl rfl rfl H181 ?_
                              clear H181; intro a183 H183
                              refine fin ?_
                              refine then_n ?_
                              refine wp_ret ?_
                              refine inb_r ?_
                              refine then_r ?_
                              refine then_r ?_
                              refine inb_r ?_
                              refine then_r ?_
                              -- return 2
                              refine ret1 rfl H183 rfl ?_
                              first | (exact ⟨_, [], rfl, ⟨congrArg Value.bool (decide_eq_true rfl), rfl⟩, H183.sep.sub (List.nil_sublist _)⟩) | (exfalso; rcases hap (by omega) with hz | hz <;> omega)
                          · first
                            | fail
                            | skip
                              clear H174; intro H184
                              refine qplain (y_move rfl rfl) rfl rfl rfl H184 ?_
                              clear H184; intro a185 H185
                              refine qplain (y_not rfl rfl) rfl rfl rfl H185 ?_
                              clear H185; intro a186 H186
                              refine qplain (y_pick_f rfl rfl rfl) rfl rfl rfl H186 ?_
                              clear H186; intro a187 H187
                              refine qplain (y_pick_t rfl rfl rfl) rfl rfl rfl H187 ?_
                              clear H187; intro a188 H188
                              refine qfin H188 ?_
                              clear H188; intro w189 H189
                              refine then_n ?_
                              refine cnd_f H189 rfl ?_
                              refine wp_skip ?_
                              refine inb_n ?_
                              refine then_n ?_
                              refine reg ?_
                              refine plain (y_move rfl rfl) rfl rfl rfl H189 ?_
                              clear H189; intro a191 H191
                              refine plain (y_add rfl rfl rfl (by first | exact w64 (by omega) (by omega) | rfl)) rfl rfl rfl H191 ?_
                              clear H191; intro a192 H192
                              refine plain (y_assign rfl rfl) rfl rfl rfl H192 ?_
                              clear H192; intro a193 H193
                              refine fin ?_
                              refine then_n ?_
                              refine ⟨i + 1, by omega, by omega, H193.weak ⟨rfl, rfl, rfl, rfl, fi rfl (by omega), trivial⟩ rfl⟩
                      · first
                        | fail
                        | skip
                          clear H169; intro H194
                          refine qskip rfl rfl rfl H194 ?_
                          clear H194; intro a195 H195
                          refine qskip rfl rfl rfl H195 ?_
                          clear H195; intro a196 H196
                          refine qskip rfl rfl rfl H196 ?_
                          clear H196; intro a197 H197
                          refine qskip rfl rfl rfl H197 ?_
                          clear H197; intro a198 H198
                          refine qskip rfl rfl rfl H198 ?_
                          clear H198; intro a199 H199
                          refine qskip rfl rfl rfl H199 ?_
                          clear H199; intro a200 H200
                          refine qplain (y_pick_f rfl rfl rfl) rfl rfl rfl H200 ?_
                          clear H200; intro a201 H201
                          refine qfin H201 ?_
                          clear H201; intro w202 H202
                          refine then_n ?_
                          refine cnd_f H202 rfl ?_
                          refine wp_skip ?_
                          refine inb_n ?_
                          refine then_n ?_
                          refine reg ?_
                          refine plain (y_move rfl rfl) rfl rfl rfl H202 ?_
                          clear H202; intro a204 H204
                          refine plain (y_add rfl rfl rfl (by first | exact w64 (by omega) (by omega) | rfl)) rfl rfl rfl H204 ?_
                          clear H204; intro a205 H205
                          refine plain (y_assign rfl rfl) rfl rfl rfl H205 ?_
                          clear H205; intro a206 H206
                          refine fin ?_
                          refine then_n ?_
                          refine ⟨i + 1, by omega, by omega, H206.weak ⟨rfl, rfl, rfl, rfl, fi rfl (by omega), trivial⟩ rfl⟩
                  · first
                    | fail
                    | skip
                      clear H149; intro H207
                      refine plain (y_fieldB rfl z_field34_0 rfl (by first | (simp only [Nat.zero_add, Nat.add_zero, Nat.reduceAdd]; rfl) | rfl)) rfl rfl rfl H207 ?_
                      clear H207; intro a208 H208
                      refine plain (y_loadB rfl z_agg3 rfl (by repeat (first | exact List.Mem.head _ | apply List.Mem.tail)) rfl) rfl rfl rfl H208 ?_
                      clear H208; intro a209 H209
                      refine plain (y_lss rfl rfl rfl) rfl rfl rfl H209 ?_
                      clear H209; intro a210 H210
                      refine plain (y_pick_f rfl rfl rfl) rfl rfl rfl H210 ?_
                      clear H210; intro a211 H211
                      refine plain (y_pick_t rfl rfl rfl) rfl rfl rfl H211 ?_
                      clear H211; intro a212 H212
                      refine plain (y_pick_f rfl rfl rfl) rfl rfl rfl H212 ?_
                      clear H212; intro a213 H213
                      refine plain (y_assign rfl rfl) rfl rfl rfl H213 ?_
                      clear H213; intro a214 H214
                      refine fin ?_
                      refine then_n ?_
                      refine wp_seq ?_
                      refine qreg (by kernel_rfl) (by kernel_rfl) H214 ?_
                      have F215 := H214.fr
                      clear H214
                      refine qplain (y_move rfl rfl) rfl rfl rfl F215 ?_
                      clear F215; intro a216 H216
                      refine qplain (y_move rfl rfl) rfl rfl rfl H216 ?_
                      clear H216; intro a217 H217
                      refine qplain (y_ixR rfl Try.underlying39 z_size3 rfl rfl (by omega) (by omega) (rd_row (by repeat (first | exact List.Mem.head _ | apply List.Mem.tail))) (by first | (rw [flat_len Bank.cells_len]; omega) | (simp; omega))) rfl rfl rfl H217 ?_
                      clear H217; intro a218 H218
                      refine qplain (y_loadR rfl z_agg3 rfl (rd_row (by repeat (first | exact List.Mem.head _ | apply List.Mem.tail))) (by simp only [Int.toNat_natCast, Nat.mul_one, Nat.add_zero]; exact i64_get _ _ (by rw [hl1]; omega))) rfl rfl rfl H218 ?_
                      clear H218; intro a219 H219
                      refine qplain (y_move rfl rfl) rfl rfl rfl H219 ?_
                      clear H219; intro a220 H220
                      refine qplain (y_move rfl rfl) rfl rfl rfl H220 ?_
                      clear H220; intro a221 H221
                      refine qplain (y_ixR rfl Try.underlying39 z_size3 rfl rfl (by omega) (by omega) (rd_row (by repeat (first | exact List.Mem.head _ | apply List.Mem.tail))) (by first | (rw [flat_len Bank.cells_len]; omega) | (simp; omega))) rfl rfl rfl H221 ?_
                      clear H221; intro a222 H222
                      refine qplain (y_loadR rfl z_agg3 rfl (rd_row (by repeat (first | exact List.Mem.head _ | apply List.Mem.tail))) (by simp only [Int.toNat_natCast, Nat.mul_one, Nat.add_zero]; exact i64_get _ _ (by rw [hl2]; omega))) rfl rfl rfl H222 ?_
                      clear H222; intro a223 H223
                      refine qplain (y_neq rfl rfl rfl) rfl rfl rfl H223 ?_
                      clear H223; intro a224 H224
                      refine qplain (y_move rfl rfl) rfl rfl rfl H224 ?_
                      clear H224; intro a225 H225
                      refine qpart_d (d := 83) H225 rfl (fun hg226 => ?_) (fun hg226 => ?_)
                      · first
                        | fail
                        | skip
                          clear H225; intro H227
                          refine qplain (y_move rfl rfl) rfl rfl rfl H227 ?_
                          clear H227; intro a228 H228
                          refine qplain (y_neq rfl rfl rfl) rfl rfl rfl H228 ?_
                          clear H228; intro a229 H229
                          refine qplain (y_move rfl rfl) rfl rfl rfl H229 ?_
                          clear H229; intro a230 H230
                          refine qpart_d (d := 86) H230 rfl (fun hg231 => ?_) (fun hg231 => ?_)
                          · first
                            | fail
                            | skip
                              clear H230; intro H232
                              refine qskip rfl rfl rfl H232 ?_
                              clear H232; intro a233 H233
                              refine qskip rfl rfl rfl H233 ?_
                              clear H233; intro a234 H234
                              refine qplain (y_pick_t rfl rfl rfl) rfl rfl rfl H234 ?_
                              clear H234; intro a235 H235
                              refine qplain (y_pick_t rfl rfl rfl) rfl rfl rfl H235 ?_
                              clear H235; intro a236 H236
                              refine qfin H236 ?_
                              clear H236; intro w237 H237
                              refine then_n ?_
                              refine cnd_t H237 rfl ?_
                              refine wp_seq ?_
                              refine reg ?_
                              refine plain (y_assign rfl rfl) rfl rfl rfl H237 ?_
                              clear H237; intro a239 H239
                              refine fin ?_
                              refine then_n ?_
                              refine wp_ret ?_
                              refine inb_r ?_
                              refine then_r ?_
                              refine then_r ?_
                              refine inb_r ?_
                              refine then_r ?_
                              -- return 3
                              refine ret1 rfl H239 rfl ?_
                              first | (exact ⟨_, [], rfl, ⟨congrArg Value.bool (decide_eq_true rfl), rfl⟩, H239.sep.sub (List.nil_sublist _)⟩) | (exfalso; rcases hap (by omega) with hz | hz <;> omega)
                          · first
                            | fail
                            | skip
                              clear H230; intro H240
                              refine qplain (y_move rfl rfl) rfl rfl rfl H240 ?_
                              clear H240; intro a241 H241
                              refine qplain (y_not_d rfl rfl) rfl rfl rfl H241 ?_
                              clear H241; intro a242 H242
                              refine qplain (y_pick_f rfl rfl rfl) rfl rfl rfl H242 ?_
                              clear H242; intro a243 H243
                              refine qplain (y_pick_t rfl rfl rfl) rfl rfl rfl H243 ?_
                              clear H243; intro a244 H244
                              refine qfin H244 ?_
                              clear H244; intro w245 H245
                              refine then_n ?_
                              refine cnd_d H245 rfl (fun hc246 => ?_) (fun hc246 => ?_)
                              · first
                                | (exfalso; rcases hap (by omega) with hz | hz <;> omega)
                                | skip
                                  refine wp_seq ?_
                                  refine reg ?_
                                  refine plain (y_assign rfl rfl) rfl rfl rfl H245 ?_
                                  clear H245; intro a247 H247
                                  refine fin ?_
                                  refine then_n ?_
                                  refine wp_ret ?_
                                  refine inb_r ?_
                                  refine then_r ?_
                                  refine then_r ?_
                                  refine inb_r ?_
                                  refine then_r ?_
                                  -- return 4
                                  refine ret1 rfl H247 rfl ?_
                                  first | (exact ⟨_, [], rfl, ⟨congrArg Value.bool (decide_eq_true rfl), rfl⟩, H247.sep.sub (List.nil_sublist _)⟩) | (exfalso; rcases hap (by omega) with hz | hz <;> omega)
                              · skip
                                refine wp_skip ?_
                                refine inb_n ?_
                                refine then_n ?_
                                refine reg ?_
                                refine plain (y_move rfl rfl) rfl rfl rfl H245 ?_
                                clear H245; intro a248 H248
                                refine plain (y_add rfl rfl rfl (by first | exact w64 (by omega) (by omega) | rfl)) rfl rfl rfl H248 ?_
                                clear H248; intro a249 H249
                                refine plain (y_assign rfl rfl) rfl rfl rfl H249 ?_
                                clear H249; intro a250 H250
                                refine fin ?_
                                refine then_n ?_
                                refine ⟨i + 1, by omega, by omega, H250.weak ⟨rfl, rfl, rfl, rfl, fi rfl (by omega), trivial⟩ rfl⟩
                      · first
                        | fail
                        | skip
                          clear H225; intro H251
                          refine qskip rfl rfl rfl H251 ?_
                          clear H251; intro a252 H252
                          refine qskip rfl rfl rfl H252 ?_
                          clear H252; intro a253 H253
                          refine qskip rfl rfl rfl H253 ?_
                          clear H253; intro a254 H254
                          refine qskip rfl rfl rfl H254 ?_
                          clear H254; intro a255 H255
                          refine qskip rfl rfl rfl H255 ?_
                          clear H255; intro a256 H256
                          refine qskip rfl rfl rfl H256 ?_
                          clear H256; intro a257 H257
                          refine qplain (y_pick_f rfl rfl rfl) rfl rfl rfl H257 ?_
                          clear H257; intro a258 H258
                          refine qfin H258 ?_
                          clear H258; intro w259 H259
                          refine then_n ?_
                          refine cnd_f H259 rfl ?_
                          refine wp_skip ?_
                          refine inb_n ?_
                          refine then_n ?_
                          refine reg ?_
                          refine plain (y_move rfl rfl) rfl rfl rfl H259 ?_
                          clear H259; intro a261 H261
                          refine plain (y_add rfl rfl rfl (by first | exact w64 (by omega) (by omega) | rfl)) rfl rfl rfl H261 ?_
                          clear H261; intro a262 H262
                          refine plain (y_assign rfl rfl) rfl rfl rfl H262 ?_
                          clear H262; intro a263 H263
                          refine fin ?_
                          refine then_n ?_
                          refine ⟨i + 1, by omega, by omega, H263.weak ⟨rfl, rfl, rfl, rfl, fi rfl (by omega), trivial⟩ rfl⟩
              · first
                | fail
                | skip
                  clear H143; intro H264
                  refine skip rfl rfl rfl H264 ?_
                  clear H264; intro a265 H265
                  refine skip rfl rfl rfl H265 ?_
                  clear H265; intro a266 H266
                  refine skip rfl rfl rfl H266 ?_
                  clear H266; intro a267 H267
                  refine skip rfl rfl rfl H267 ?_
                  clear H267; intro a268 H268
                  refine skip rfl rfl rfl H268 ?_
                  clear H268; intro a269 H269
                  refine skip rfl rfl rfl H269 ?_
                  clear H269; intro a270 H270
                  refine skip rfl rfl rfl H270 ?_
                  clear H270; intro a271 H271
                  refine skip rfl rfl rfl H271 ?_
                  clear H271; intro a272 H272
                  refine plain (y_pick_f rfl rfl rfl) rfl rfl rfl H272 ?_
                  clear H272; intro a273 H273
                  refine plain (y_pick_f rfl rfl rfl) rfl rfl rfl H273 ?_
                  clear H273; intro a274 H274
                  refine plain (y_assign rfl rfl) rfl rfl rfl H274 ?_
                  clear H274; intro a275 H275
                  refine fin ?_
                  refine then_n ?_
                  refine wp_seq ?_
                  refine qreg (by kernel_rfl) (by kernel_rfl) H275 ?_
                  have F276 := H275.fr
                  clear H275
                  refine qplain (y_move rfl rfl) rfl rfl rfl F276 ?_
                  clear F276; intro a277 H277
                  refine qplain (y_move rfl rfl) rfl rfl rfl H277 ?_
                  clear H277; intro a278 H278
                  refine qplain (y_ixR rfl Try.underlying39 z_size3 rfl rfl (by omega) (by omega) (rd_row (by repeat (first | exact List.Mem.head _ | apply List.Mem.tail))) (by first | (rw [flat_len Bank.cells_len]; omega) | (simp; omega))) rfl rfl rfl H278 ?_
                  clear H278; intro a279 H279
                  refine qplain (y_loadR rfl z_agg3 rfl (rd_row (by repeat (first | exact List.Mem.head _ | apply List.Mem.tail))) (by simp only [Int.toNat_natCast, Nat.mul_one, Nat.add_zero]; exact i64_get _ _ (by rw [hl1]; omega))) rfl rfl rfl H279 ?_
                  clear H279; intro a280 H280
                  refine qplain (y_move rfl rfl) rfl rfl rfl H280 ?_
                  clear H280; intro a281 H281
                  refine qplain (y_move rfl rfl) rfl rfl rfl H281 ?_
                  clear H281; intro a282 H282
                  refine qplain (y_ixR rfl Try.underlying39 z_size3 rfl rfl (by omega) (by omega) (rd_row (by repeat (first | exact List.Mem.head _ | apply List.Mem.tail))) (by first | (rw [flat_len Bank.cells_len]; omega) | (simp; omega))) rfl rfl rfl H282 ?_
                  clear H282; intro a283 H283
                  refine qplain (y_loadR rfl z_agg3 rfl (rd_row (by repeat (first | exact List.Mem.head _ | apply List.Mem.tail))) (by simp only [Int.toNat_natCast, Nat.mul_one, Nat.add_zero]; exact i64_get _ _ (by rw [hl2]; omega))) rfl rfl rfl H283 ?_
                  clear H283; intro a284 H284
                  refine qplain (y_neq rfl rfl rfl) rfl rfl rfl H284 ?_
                  clear H284; intro a285 H285
                  refine qplain (y_move rfl rfl) rfl rfl rfl H285 ?_
                  clear H285; intro a286 H286
                  refine qpart_d (d := 83) H286 rfl (fun hg287 => ?_) (fun hg287 => ?_)
                  · first
                    | fail
                    | skip
                      clear H286; intro H288
                      refine qplain (y_move rfl rfl) rfl rfl rfl H288 ?_
                      clear H288; intro a289 H289
                      refine qplain (y_neq rfl rfl rfl) rfl rfl rfl H289 ?_
                      clear H289; intro a290 H290
                      refine qplain (y_move rfl rfl) rfl rfl rfl H290 ?_
                      clear H290; intro a291 H291
                      refine qpart_d (d := 86) H291 rfl (fun hg292 => ?_) (fun hg292 => ?_)
                      · first
                        | fail
                        | skip
                          clear H291; intro H293
                          refine qskip rfl rfl rfl H293 ?_
                          clear H293; intro a294 H294
                          refine qskip rfl rfl rfl H294 ?_
                          clear H294; intro a295 H295
                          refine qplain (y_pick_t rfl rfl rfl) rfl rfl rfl H295 ?_
                          clear H295; intro a296 H296
                          refine qplain (y_pick_t rfl rfl rfl) rfl rfl rfl H296 ?_
                          clear H296; intro a297 H297
                          refine qfin H297 ?_
                          clear H297; intro w298 H298
                          refine then_n ?_
                          refine cnd_t H298 rfl ?_
                          refine wp_seq ?_
                          refine reg ?_
                          refine plain (y_assign rfl rfl) rfl rfl rfl H298 ?_
                          clear H298; intro a300 H300
                          refine fin ?_
                          refine then_n ?_
                          refine wp_ret ?_
                          refine inb_r ?_
                          refine then_r ?_
                          refine then_r ?_
                          refine inb_r ?_
                          refine then_r ?_
                          -- return 5
                          refine ret1 rfl H300 rfl ?_
                          first | (exact ⟨_, [], rfl, ⟨congrArg Value.bool (decide_eq_true rfl), rfl⟩, H300.sep.sub (List.nil_sublist _)⟩) | (exfalso; rcases hap (by omega) with hz | hz <;> omega)
                      · first
                        | fail
                        | skip
                          clear H291; intro H301
                          refine qplain (y_move rfl rfl) rfl rfl rfl H301 ?_
                          clear H301; intro a302 H302
                          refine qplain (y_not rfl rfl) rfl rfl rfl H302 ?_
                          clear H302; intro a303 H303
                          refine qplain (y_pick_f rfl rfl rfl) rfl rfl rfl H303 ?_
                          clear H303; intro a304 H304
                          refine qplain (y_pick_t rfl rfl rfl) rfl rfl rfl H304 ?_
                          clear H304; intro a305 H305
                          refine qfin H305 ?_
                          clear H305; intro w306 H306
                          refine then_n ?_
                          refine cnd_t H306 rfl ?_
                          refine wp_seq ?_
                          refine reg ?_
                          refine plain (y_assign rfl rfl) rfl rfl rfl H306 ?_
                          clear H306; intro a308 H308
                          refine fin ?_
                          refine then_n ?_
                          refine wp_ret ?_
                          refine inb_r ?_
                          refine then_r ?_
                          refine then_r ?_
                          refine inb_r ?_
                          refine then_r ?_
                          -- return 6
                          refine ret1 rfl H308 rfl ?_
                          first | (exact ⟨_, [], rfl, ⟨congrArg Value.bool (decide_eq_true rfl), rfl⟩, H308.sep.sub (List.nil_sublist _)⟩) | (exfalso; rcases hap (by omega) with hz | hz <;> omega)
                  · first
                    | fail
                    | skip
                      clear H286; intro H309
                      refine qskip rfl rfl rfl H309 ?_
                      clear H309; intro a310 H310
                      refine qskip rfl rfl rfl H310 ?_
                      clear H310; intro a311 H311
                      refine qskip rfl rfl rfl H311 ?_
                      clear H311; intro a312 H312
                      refine qskip rfl rfl rfl H312 ?_
                      clear H312; intro a313 H313
                      refine qskip rfl rfl rfl H313 ?_
                      clear H313; intro a314 H314
                      refine qskip rfl rfl rfl H314 ?_
                      clear H314; intro a315 H315
                      refine qplain (y_pick_f rfl rfl rfl) rfl rfl rfl H315 ?_
                      clear H315; intro a316 H316
                      refine qfin H316 ?_
                      clear H316; intro w317 H317
                      refine then_n ?_
                      refine cnd_f H317 rfl ?_
                      refine wp_skip ?_
                      refine inb_n ?_
                      refine then_n ?_
                      refine reg ?_
                      refine plain (y_move rfl rfl) rfl rfl rfl H317 ?_
                      clear H317; intro a319 H319
                      refine plain (y_add rfl rfl rfl (by first | exact w64 (by omega) (by omega) | rfl)) rfl rfl rfl H319 ?_
                      clear H319; intro a320 H320
                      refine plain (y_assign rfl rfl) rfl rfl rfl H320 ?_
                      clear H320; intro a321 H321
                      refine fin ?_
                      refine then_n ?_
                      refine ⟨i + 1, by omega, by omega, H321.weak ⟨rfl, rfl, rfl, rfl, fi rfl (by omega), trivial⟩ rfl⟩
        · skip
          refine wp_exit ?_
          refine then_x ?_
          refine then_x ?_
          refine inb_hit ?_
          refine then_n ?_
          refine wp_seq ?_
          refine reg ?_
          refine plain (y_move rfl rfl) rfl rfl rfl H65 ?_
          clear H65; intro a322 H322
          refine plain (y_len rfl Try.underlying39 rfl) rfl rfl rfl H322 ?_
          clear H322; intro a323 H323
          refine plain (y_move rfl rfl) rfl rfl rfl H323 ?_
          clear H323; intro a324 H324
          refine plain (y_len rfl Try.underlying39 rfl) rfl rfl rfl H324 ?_
          clear H324; intro a325 H325
          refine plain (y_eql rfl rfl rfl) rfl rfl rfl H325 ?_
          clear H325; intro a326 H326
          refine plain (y_assign rfl rfl) rfl rfl rfl H326 ?_
          clear H326; intro a327 H327
          refine fin ?_
          refine then_n ?_
          refine wp_ret ?_
          -- return 7
          refine ret1 rfl H327 rfl ?_
          first | (exact ⟨_, [], rfl, ⟨congrArg Value.bool (decide_eq_true rfl), rfl⟩, H327.sep.sub (List.nil_sublist _)⟩) | (exfalso; rcases hap (by omega) with hz | hz <;> omega)
    · first
      | fail
      | skip
        clear H58; intro H328
        refine skip rfl rfl rfl H328 ?_
        clear H328; intro a329 H329
        refine skip rfl rfl rfl H329 ?_
        clear H329; intro a330 H330
        refine skip rfl rfl rfl H330 ?_
        clear H330; intro a331 H331
        refine skip rfl rfl rfl H331 ?_
        clear H331; intro a332 H332
        refine plain (y_pick_f rfl rfl rfl) rfl rfl rfl H332 ?_
        clear H332; intro a333 H333
        refine fin ?_
        refine then_n ?_
        refine cnd_f H333 rfl ?_
        refine wp_exit ?_
        refine then_x ?_
        refine then_x ?_
        refine inb_hit ?_
        refine then_n ?_
        refine wp_seq ?_
        refine reg ?_
        refine plain (y_move rfl rfl) rfl rfl rfl H333 ?_
        clear H333; intro a335 H335
        refine plain (y_len rfl Try.underlying39 rfl) rfl rfl rfl H335 ?_
        clear H335; intro a336 H336
        refine plain (y_move rfl rfl) rfl rfl rfl H336 ?_
        clear H336; intro a337 H337
        refine plain (y_len rfl Try.underlying39 rfl) rfl rfl rfl H337 ?_
        clear H337; intro a338 H338
        refine plain (y_eql rfl rfl rfl) rfl rfl rfl H338 ?_
        clear H338; intro a339 H339
        refine plain (y_assign rfl rfl) rfl rfl rfl H339 ?_
        clear H339; intro a340 H340
        refine fin ?_
        refine then_n ?_
        refine wp_ret ?_
        -- return 8
        refine ret1 rfl H340 rfl ?_
        first | (exact ⟨_, [], rfl, ⟨congrArg Value.bool (decide_eq_true rfl), rfl⟩, H340.sep.sub (List.nil_sublist _)⟩) | (exfalso; rcases hap (by omega) with hz | hz <;> omega)

end Go.Proofs.Ytlaojmcpiggfeaa.TBankA
