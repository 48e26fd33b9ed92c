/- Part of a proof about given Go functions: contracts of functions, or plain laws. -/
import Derived.Test.YtlaojmcpiggfeaaSxT
import Derived.Test.YtlaojmcpiggfeaaBankV
import Derived.Test.YtlaojmcpiggfeaaBank2
import Derived.Test.YtlaojmcpiggfeaaProg
import Derived.Test.YtlaojmcpiggfeaaTBank
import Derived.Test.YtlaojmcpiggfeaaTBank2
import Derived.Test.YtlaojmcpiggfeaaTBank3
set_option linter.unusedVariables false
set_option linter.unusedSimpArgs false
namespace Go.Proofs.Ytlaojmcpiggfeaa.TBankS
open Go.Sx Go.RowKit Go.Proofs.Ytlaojmcpiggfeaa.TBank Go.Proofs.Ytlaojmcpiggfeaa.TBank2 Go.Proofs.Ytlaojmcpiggfeaa.TBank3

theorem z_call19 : callB Try.prog 19 = true := by kernel_rfl
theorem z_call21 : callB Try.prog 21 = true := by kernel_rfl
theorem z_size34 : sizeB Try.prog 34 = some 4 := by kernel_rfl
theorem z_agg34 : aggB Try.prog 34 = some true := by kernel_rfl
theorem z_call25 : callB Try.prog 25 = true := by kernel_rfl
theorem z_field34_0 : fieldB Try.prog 34 0 = some 0 := by kernel_rfl
theorem z_agg3 : aggB Try.prog 3 = some false := by kernel_rfl
theorem z_field34_3 : fieldB Try.prog 34 3 = some 3 := by kernel_rfl
theorem z_call27 : callB Try.prog 27 = true := by kernel_rfl
theorem z_size3 : sizeB Try.prog 3 = some 1 := by kernel_rfl
theorem z_call28 : callB Try.prog 28 = true := by kernel_rfl
theorem z_call29 : callB Try.prog 29 = true := by kernel_rfl

set_option maxRecDepth 100000 in
set_option maxHeartbeats 4000000 in
theorem bankSums (l : List Bank.Act) (A : Option Addr) (m c : Nat) (hm : m = l.length) (w : World) (hR : Rd w A (l.map Bank.cells).flatten) (hl : l.length ≤ 9223372036854775807) : Calls Try.prog 5 #[.slice A m c] w (Gives (.bool true) [] w) := by
  subst hm
  refine enterL (args := [.slice A l.length c]) Try.func5 rfl rfl (l := []) (Sep.refl _) ?_
  intro a0 H0
  refine wp_seq ?_
  refine reg ?_
  refine plain (y_assign rfl rfl) rfl rfl rfl H0 ?_
  clear H0; intro a1 H1
  refine fin ?_
  refine then_n ?_
  refine wp_seq ?_
  refine reg ?_
  refine st_call rfl z_call19 rfl rfl rfl rfl H1 (bnew _) ?_
  clear H1; intro v2 l2 a2 w2 hf2 H2
  obtain ⟨bk, rfl, rfl⟩ := hf2
  simp only [List.cons_append, List.nil_append] at H2
  refine plain (y_assign rfl rfl) rfl rfl rfl H2 ?_
  clear H2; intro a3 H3
  refine fin ?_
  refine then_n ?_
  refine wp_seq ?_
  refine wp_seq ?_
  refine reg ?_
  refine plain (y_move rfl rfl) rfl rfl rfl H3 ?_
  clear H3; intro a4 H4
  refine plain (y_peql rfl Try.underlying29 rfl rfl) rfl rfl rfl H4 ?_
  clear H4; intro a5 H5
  refine plain (y_move rfl rfl) rfl rfl rfl H5 ?_
  clear H5; intro a6 H6
  have H8 := H6.know (d := 12) (v := .bool false) rfl (rfl)
  clear H6
  refine st_callg rfl z_call21 rfl rfl rfl rfl H8 (awake _) ?_
  clear H8; intro a9 w9 H9
  refine plain (y_not rfl rfl) rfl rfl rfl H9 ?_
  clear H9; intro a10 H10
  refine plain (y_pick_f rfl rfl rfl) rfl rfl rfl H10 ?_
  clear H10; intro a11 H11
  refine fin ?_
  refine then_n ?_
  refine cnd_f H11 rfl ?_
  refine wp_skip ?_
  refine then_n ?_
  refine wp_seq ?_
  refine reg ?_
  refine plain (y_assign rfl rfl) rfl rfl rfl H11 ?_
  clear H11; intro a13 H13
  refine fin ?_
  refine then_n ?_
  refine wp_seq ?_
  refine wp_seq ?_
  refine reg ?_
  refine plain (y_assign rfl rfl) rfl rfl rfl H13 ?_
  clear H13; intro a14 H14
  refine fin ?_
  refine then_n ?_
  refine wp_cut (fun aC wC => ∃ k : Nat, St Try.f5.ntmps [] w ([(3, .pointer (some ⟨bk, 0, none⟩)), (4, .int .i64 (Bank.run l k).sum)]) ([It.blk bk 69 ((Bank.run l k).map i64)]) aC wC) ?_ ?_
  · skip
    refine wp_block ?_
    refine loop (ι := Nat) (fun k => [(0, .slice A l.length c), (3, .pointer (some ⟨bk, 0, none⟩)), (5, .int .i64 (k : Int)), (4, .int .i64 (Bank.run l k).sum)]) (fun k => [It.blk bk 69 ((Bank.run l k).map i64)]) (fun k => k ≤ l.length ∧ k ≤ 200) (fun k => l.length - k) (0) (by omega) (H14.weak ⟨rfl, rfl, rfl, fi rfl (by rw [Bank.run_zero]; rfl), trivial⟩ rfl) ?_
    clear H14; intro k a15 w15 hok15 H15
    have hok := hok15
    have hsl := Bank.sum_le (Bank.run_ok l k)
    have hrs := fun h : k < l.length => Bank.run_succ h
    have hsl2 := fun h : k < l.length => Bank.sum_le (Bank.doo_keep (Bank.run_ok l k) (l.getD k Bank.A0))
    have hds := Bank.doo_sum (Bank.run_ok l k) (l.getD k Bank.A0)
    unfold Bank.gain at hds
    refine wp_seq ?_
    refine wp_seq ?_
    refine reg ?_
    refine plain (y_move rfl rfl) rfl rfl rfl H15 ?_
    clear H15; intro a16 H16
    refine plain (y_move rfl rfl) rfl rfl rfl H16 ?_
    clear H16; intro a17 H17
    refine plain (y_len rfl Try.underlying28 rfl) rfl rfl rfl H17 ?_
    clear H17; intro a18 H18
    refine plain (y_lss rfl rfl rfl) rfl rfl rfl H18 ?_
    clear H18; intro a19 H19
    refine plain (y_move rfl rfl) rfl rfl rfl H19 ?_
    clear H19; intro a20 H20
    refine part_d (d := 20) H20 rfl (fun hg21 => ?_) (fun hg21 => ?_)
    · first
      | fail
      | skip
        clear H20; intro H22
        refine plain (y_move rfl rfl) rfl rfl rfl H22 ?_
        clear H22; intro a23 H23
        refine plain (y_lss rfl rfl rfl) rfl rfl rfl H23 ?_
        clear H23; intro a24 H24
        refine plain (y_pick_t rfl rfl rfl) rfl rfl rfl H24 ?_
        clear H24; intro a25 H25
        refine fin ?_
        refine then_n ?_
        refine cnd_d H25 rfl (fun hc26 => ?_) (fun hc26 => ?_) -- cond 2
        · skip
          refine wp_skip ?_
          refine then_n ?_
          refine wp_seq ?_
          refine wp_block ?_
          refine wp_seq ?_
          refine reg ?_
          refine plain (y_move rfl rfl) rfl rfl rfl H25 ?_
          clear H25; intro a27 H27
          refine plain (y_move rfl rfl) rfl rfl rfl H27 ?_
          clear H27; intro a28 H28
          refine plain (y_move rfl rfl) rfl rfl rfl H28 ?_
          clear H28; intro a29 H29
          refine plain (y_ixR rfl Try.underlying28 z_size34 rfl rfl (by omega) (by omega) (rd_old (by assumption) (by simp)) (by first | (rw [flat_len Bank.cells_len]; omega) | (simp; omega))) rfl rfl rfl H29 ?_
          clear H29; intro a30 H30
          refine plain (y_loadAS rfl z_agg34 z_size34 rfl (rd_old (by assumption) (by simp)) (flat_takeI Bank.cells_len Bank.A0 l k (by omega)) rfl (by decide)) rfl rfl rfl H30 ?_
          clear H30; intro a31 H31
          refine st_callu rfl z_call25 rfl rfl rfl rfl H31 (bdo bk _ (Bank.run_ok l k) (l.getD k Bank.A0) (H31.sep.all _ (by repeat (first | exact List.Mem.head _ | apply List.Mem.tail)))) (by repeat (first | exact Upd.head _ _ _ | apply Upd.tail)) ?_
          clear H31; intro a32 w32 H32
          refine plain (y_eql rfl rfl rfl) rfl rfl rfl H32 ?_
          clear H32; intro a33 H33
          refine fin ?_
          refine then_n ?_
          refine cnd_d H33 rfl (fun hc34 => ?_) (fun hc34 => ?_) -- cond 3
          · skip
            refine wp_seq ?_
            refine reg ?_
            refine plain (y_move rfl rfl) rfl rfl rfl H33 ?_
            clear H33; intro a35 H35
            refine plain (y_move rfl rfl) rfl rfl rfl H35 ?_
            clear H35; intro a36 H36
            refine plain (y_ixR rfl Try.underlying28 z_size34 rfl rfl (by omega) (by omega) (rd_old (by assumption) (by simp)) (by first | (rw [flat_len Bank.cells_len]; omega) | (simp; omega))) rfl rfl rfl H36 ?_
            clear H36; intro a37 H37
            refine plain (y_fieldS rfl z_field34_0 rfl (rd_old (by assumption) (by simp)) (by first | (rw [flat_len Bank.cells_len]; omega) | (simp; omega))) rfl rfl rfl H37 ?_
            clear H37; intro a38 H38
            refine plain (y_loadR rfl z_agg3 rfl (rd_old (by assumption) (by simp)) (flat_cellI Bank.cells_len Bank.A0 l k 0 (by omega) (by decide) rfl)) rfl rfl rfl H38 ?_
            clear H38; intro a39 H39
            refine fin ?_
            refine then_n ?_
            refine wp_block ?_
            refine wp_seq ?_
            refine wp_seq ?_
            refine reg ?_
            refine plain (y_eql rfl rfl rfl) rfl rfl rfl H39 ?_
            clear H39; intro a40 H40
            refine plain (y_assign rfl rfl) rfl rfl rfl H40 ?_
            clear H40; intro a41 H41
            refine fin ?_
            refine then_n ?_
            refine cnd_d H41 rfl (fun hc42 => ?_) (fun hc42 => ?_) -- cond 4
            · skip
              refine wp_skip ?_
              refine then_n ?_
              refine cnd_d H41 rfl (fun hc43 => ?_) (fun hc43 => ?_) -- cond 5
              · skip
                refine reg ?_
                refine plain (y_move rfl rfl) rfl rfl rfl H41 ?_
                clear H41; intro a44 H44
                refine plain (y_move rfl rfl) rfl rfl rfl H44 ?_
                clear H44; intro a45 H45
                refine plain (y_move rfl rfl) rfl rfl rfl H45 ?_
                clear H45; intro a46 H46
                refine plain (y_ixR rfl Try.underlying28 z_size34 rfl rfl (by omega) (by omega) (rd_old (by assumption) (by simp)) (by first | (rw [flat_len Bank.cells_len]; omega) | (simp; omega))) rfl rfl rfl H46 ?_
                clear H46; intro a47 H47
                refine plain (y_fieldS rfl z_field34_3 rfl (rd_old (by assumption) (by simp)) (by first | (rw [flat_len Bank.cells_len]; omega) | (simp; omega))) rfl rfl rfl H47 ?_
                clear H47; intro a48 H48
                refine plain (y_loadR rfl z_agg3 rfl (rd_old (by assumption) (by simp)) (flat_cellI Bank.cells_len Bank.A0 l k 3 (by omega) (by decide) rfl)) rfl rfl rfl H48 ?_
                clear H48; intro a49 H49
                refine plain (y_add rfl rfl rfl (by first | exact w64 (by omega) (by omega) | rfl)) rfl rfl rfl H49 ?_
                clear H49; intro a50 H50
                refine plain (y_assign rfl rfl) rfl rfl rfl H50 ?_
                clear H50; intro a51 H51
                refine fin ?_
                refine inb_n ?_
                refine inb_n ?_
                refine then_n ?_
                refine reg ?_
                refine plain (y_move rfl rfl) rfl rfl rfl H51 ?_
                clear H51; intro a52 H52
                refine plain (y_add rfl rfl rfl (by first | exact w64 (by omega) (by omega) | rfl)) rfl rfl rfl H52 ?_
                clear H52; intro a53 H53
                refine plain (y_assign rfl rfl) rfl rfl rfl H53 ?_
                clear H53; intro a54 H54
                refine fin ?_
                refine then_n ?_
                refine ⟨k + 1, by omega, by omega, H54.weak ⟨rfl, rfl, fi rfl (by omega), fi rfl ?_, trivial⟩ (ib (by rw [Bank.run_succ (by omega)]))⟩
                rw [Bank.run_succ (by omega), hds]
                first | (simp only [*, if_true, if_false, true_or, or_true, false_or]; omega) | (split <;> omega)
              · skip
                refine wp_seq ?_
                refine reg ?_
                refine plain (y_eql rfl rfl rfl) rfl rfl rfl H41 ?_
                clear H41; intro a55 H55
                refine plain (y_assign rfl rfl) rfl rfl rfl H55 ?_
                clear H55; intro a56 H56
                refine fin ?_
                refine then_n ?_
                refine cnd_d H56 rfl (fun hc57 => ?_) (fun hc57 => ?_) -- cond 6
                · skip
                  refine reg ?_
                  refine plain (y_move rfl rfl) rfl rfl rfl H56 ?_
                  clear H56; intro a58 H58
                  refine plain (y_move rfl rfl) rfl rfl rfl H58 ?_
                  clear H58; intro a59 H59
                  refine plain (y_move rfl rfl) rfl rfl rfl H59 ?_
                  clear H59; intro a60 H60
                  refine plain (y_ixR rfl Try.underlying28 z_size34 rfl rfl (by omega) (by omega) (rd_old (by assumption) (by simp)) (by first | (rw [flat_len Bank.cells_len]; omega) | (simp; omega))) rfl rfl rfl H60 ?_
                  clear H60; intro a61 H61
                  refine plain (y_fieldS rfl z_field34_3 rfl (rd_old (by assumption) (by simp)) (by first | (rw [flat_len Bank.cells_len]; omega) | (simp; omega))) rfl rfl rfl H61 ?_
                  clear H61; intro a62 H62
                  refine plain (y_loadR rfl z_agg3 rfl (rd_old (by assumption) (by simp)) (flat_cellI Bank.cells_len Bank.A0 l k 3 (by omega) (by decide) rfl)) rfl rfl rfl H62 ?_
                  clear H62; intro a63 H63
                  refine plain (y_sub rfl rfl rfl (by first | exact w64 (by omega) (by omega) | rfl)) rfl rfl rfl H63 ?_
                  clear H63; intro a64 H64
                  refine plain (y_assign rfl rfl) rfl rfl rfl H64 ?_
                  clear H64; intro a65 H65
                  refine fin ?_
                  refine inb_n ?_
                  refine inb_n ?_
                  refine then_n ?_
                  refine reg ?_
                  refine plain (y_move rfl rfl) rfl rfl rfl H65 ?_
                  clear H65; intro a66 H66
                  refine plain (y_add rfl rfl rfl (by first | exact w64 (by omega) (by omega) | rfl)) rfl rfl rfl H66 ?_
                  clear H66; intro a67 H67
                  refine plain (y_assign rfl rfl) rfl rfl rfl H67 ?_
                  clear H67; intro a68 H68
                  refine fin ?_
                  refine then_n ?_
                  refine ⟨k + 1, by omega, by omega, H68.weak ⟨rfl, rfl, fi rfl (by omega), fi rfl ?_, trivial⟩ (ib (by rw [Bank.run_succ (by omega)]))⟩
                  rw [Bank.run_succ (by omega), hds]
                  first | (simp only [*, if_true, if_false, true_or, or_true, false_or]; omega) | (split <;> omega)
                · skip
                  refine wp_skip ?_
                  refine inb_n ?_
                  refine inb_n ?_
                  refine then_n ?_
                  refine reg ?_
                  refine plain (y_move rfl rfl) rfl rfl rfl H56 ?_
                  clear H56; intro a69 H69
                  refine plain (y_add rfl rfl rfl (by first | exact w64 (by omega) (by omega) | rfl)) rfl rfl rfl H69 ?_
                  clear H69; intro a70 H70
                  refine plain (y_assign rfl rfl) rfl rfl rfl H70 ?_
                  clear H70; intro a71 H71
                  refine fin ?_
                  refine then_n ?_
                  refine ⟨k + 1, by omega, by omega, H71.weak ⟨rfl, rfl, fi rfl (by omega), fi rfl ?_, trivial⟩ (ib (by rw [Bank.run_succ (by omega)]))⟩
                  rw [Bank.run_succ (by omega), hds]
                  first | (simp only [*, if_true, if_false, true_or, or_true, false_or]; omega) | (split <;> omega)
            · skip
              refine reg ?_
              refine plain (y_eql rfl rfl rfl) rfl rfl rfl H41 ?_
              clear H41; intro a72 H72
              refine plain (y_assign rfl rfl) rfl rfl rfl H72 ?_
              clear H72; intro a73 H73
              refine fin ?_
              refine then_n ?_
              refine cnd_d H73 rfl (fun hc74 => ?_) (fun hc74 => ?_) -- cond 7
              · skip
                refine reg ?_
                refine plain (y_move rfl rfl) rfl rfl rfl H73 ?_
                clear H73; intro a75 H75
                refine plain (y_move rfl rfl) rfl rfl rfl H75 ?_
                clear H75; intro a76 H76
                refine plain (y_move rfl rfl) rfl rfl rfl H76 ?_
                clear H76; intro a77 H77
                refine plain (y_ixR rfl Try.underlying28 z_size34 rfl rfl (by omega) (by omega) (rd_old (by assumption) (by simp)) (by first | (rw [flat_len Bank.cells_len]; omega) | (simp; omega))) rfl rfl rfl H77 ?_
                clear H77; intro a78 H78
                refine plain (y_fieldS rfl z_field34_3 rfl (rd_old (by assumption) (by simp)) (by first | (rw [flat_len Bank.cells_len]; omega) | (simp; omega))) rfl rfl rfl H78 ?_
                clear H78; intro a79 H79
                refine plain (y_loadR rfl z_agg3 rfl (rd_old (by assumption) (by simp)) (flat_cellI Bank.cells_len Bank.A0 l k 3 (by omega) (by decide) rfl)) rfl rfl rfl H79 ?_
                clear H79; intro a80 H80
                refine plain (y_add rfl rfl rfl (by first | exact w64 (by omega) (by omega) | rfl)) rfl rfl rfl H80 ?_
                clear H80; intro a81 H81
                refine plain (y_assign rfl rfl) rfl rfl rfl H81 ?_
                clear H81; intro a82 H82
                refine fin ?_
                refine inb_n ?_
                refine inb_n ?_
                refine then_n ?_
                refine reg ?_
                refine plain (y_move rfl rfl) rfl rfl rfl H82 ?_
                clear H82; intro a83 H83
                refine plain (y_add rfl rfl rfl (by first | exact w64 (by omega) (by omega) | rfl)) rfl rfl rfl H83 ?_
                clear H83; intro a84 H84
                refine plain (y_assign rfl rfl) rfl rfl rfl H84 ?_
                clear H84; intro a85 H85
                refine fin ?_
                refine then_n ?_
                refine ⟨k + 1, by omega, by omega, H85.weak ⟨rfl, rfl, fi rfl (by omega), fi rfl ?_, trivial⟩ (ib (by rw [Bank.run_succ (by omega)]))⟩
                rw [Bank.run_succ (by omega), hds]
                first | (simp only [*, if_true, if_false, true_or, or_true, false_or]; omega) | (split <;> omega)
              · skip
                refine wp_seq ?_
                refine reg ?_
                refine plain (y_eql rfl rfl rfl) rfl rfl rfl H73 ?_
                clear H73; intro a86 H86
                refine plain (y_assign rfl rfl) rfl rfl rfl H86 ?_
                clear H86; intro a87 H87
                refine fin ?_
                refine then_n ?_
                refine cnd_d H87 rfl (fun hc88 => ?_) (fun hc88 => ?_) -- cond 8
                · skip
                  refine reg ?_
                  refine plain (y_move rfl rfl) rfl rfl rfl H87 ?_
                  clear H87; intro a89 H89
                  refine plain (y_move rfl rfl) rfl rfl rfl H89 ?_
                  clear H89; intro a90 H90
                  refine plain (y_move rfl rfl) rfl rfl rfl H90 ?_
                  clear H90; intro a91 H91
                  refine plain (y_ixR rfl Try.underlying28 z_size34 rfl rfl (by omega) (by omega) (rd_old (by assumption) (by simp)) (by first | (rw [flat_len Bank.cells_len]; omega) | (simp; omega))) rfl rfl rfl H91 ?_
                  clear H91; intro a92 H92
                  refine plain (y_fieldS rfl z_field34_3 rfl (rd_old (by assumption) (by simp)) (by first | (rw [flat_len Bank.cells_len]; omega) | (simp; omega))) rfl rfl rfl H92 ?_
                  clear H92; intro a93 H93
                  refine plain (y_loadR rfl z_agg3 rfl (rd_old (by assumption) (by simp)) (flat_cellI Bank.cells_len Bank.A0 l k 3 (by omega) (by decide) rfl)) rfl rfl rfl H93 ?_
                  clear H93; intro a94 H94
                  refine plain (y_sub rfl rfl rfl (by first | exact w64 (by omega) (by omega) | rfl)) rfl rfl rfl H94 ?_
                  clear H94; intro a95 H95
                  refine plain (y_assign rfl rfl) rfl rfl rfl H95 ?_
                  clear H95; intro a96 H96
                  refine fin ?_
                  refine inb_n ?_
                  refine inb_n ?_
                  refine then_n ?_
                  refine reg ?_
                  refine plain (y_move rfl rfl) rfl rfl rfl H96 ?_
                  clear H96; intro a97 H97
                  refine plain (y_add rfl rfl rfl (by first | exact w64 (by omega) (by omega) | rfl)) rfl rfl rfl H97 ?_
                  clear H97; intro a98 H98
                  refine plain (y_assign rfl rfl) rfl rfl rfl H98 ?_
                  clear H98; intro a99 H99
                  refine fin ?_
                  refine then_n ?_
                  refine ⟨k + 1, by omega, by omega, H99.weak ⟨rfl, rfl, fi rfl (by omega), fi rfl ?_, trivial⟩ (ib (by rw [Bank.run_succ (by omega)]))⟩
                  rw [Bank.run_succ (by omega), hds]
                  first | (simp only [*, if_true, if_false, true_or, or_true, false_or]; omega) | (split <;> omega)
                · skip
                  refine wp_skip ?_
                  refine inb_n ?_
                  refine inb_n ?_
                  refine then_n ?_
                  refine reg ?_
                  refine plain (y_move rfl rfl) rfl rfl rfl H87 ?_
                  clear H87; intro a100 H100
                  refine plain (y_add rfl rfl rfl (by first | exact w64 (by omega) (by omega) | rfl)) rfl rfl rfl H100 ?_
                  clear H100; intro a101 H101
                  refine plain (y_assign rfl rfl) rfl rfl rfl H101 ?_
                  clear H101; intro a102 H102
                  refine fin ?_
                  refine then_n ?_
                  refine ⟨k + 1, by omega, by omega, H102.weak ⟨rfl, rfl, fi rfl (by omega), fi rfl ?_, trivial⟩ (ib (by rw [Bank.run_succ (by omega)]))⟩
                  rw [Bank.run_succ (by omega), hds]
                  first | (simp only [*, if_true, if_false, true_or, or_true, false_or]; omega) | (split <;> omega)
          · skip
            refine wp_skip ?_
            refine inb_n ?_
            refine then_n ?_
            refine reg ?_
            refine plain (y_move rfl rfl) rfl rfl rfl H33 ?_
            clear H33; intro a103 H103
            refine plain (y_add rfl rfl rfl (by first | exact w64 (by omega) (by omega) | rfl)) rfl rfl rfl H103 ?_
            clear H103; intro a104 H104
            refine plain (y_assign rfl rfl) rfl rfl rfl H104 ?_
            clear H104; intro a105 H105
            refine fin ?_
            refine then_n ?_
            refine ⟨k + 1, by omega, by omega, H105.weak ⟨rfl, rfl, fi rfl (by omega), fi rfl ?_, trivial⟩ (ib (by rw [Bank.run_succ (by omega)]))⟩
            rw [Bank.run_succ (by omega), hds]
            first | (simp only [*, if_true, if_false, true_or, or_true, false_or]; omega) | (split <;> omega)
        · skip
          refine wp_exit ?_
          refine then_x ?_
          refine then_x ?_
          refine inb_hit ?_
          refine cut_n ?_
          exact ⟨k, H25.weak ⟨rfl, rfl, trivial⟩ rfl⟩
    · first
      | fail
      | skip
        clear H20; intro H106
        refine skip rfl rfl rfl H106 ?_
        clear H106; intro a107 H107
        refine skip rfl rfl rfl H107 ?_
        clear H107; intro a108 H108
        refine plain (y_pick_f rfl rfl rfl) rfl rfl rfl H108 ?_
        clear H108; intro a109 H109
        refine fin ?_
        refine then_n ?_
        refine cnd_f H109 rfl ?_
        refine wp_exit ?_
        refine then_x ?_
        refine then_x ?_
        refine inb_hit ?_
        refine cut_n ?_
        exact ⟨k, H109.weak ⟨rfl, rfl, trivial⟩ rfl⟩
  · clear H14; intro a111 w111 hI111
    obtain ⟨k, H111⟩ := hI111
    refine then_n ?_
    refine wp_seq ?_
    refine reg ?_
    refine plain (y_move rfl rfl) rfl rfl rfl H111 ?_
    clear H111; intro a112 H112
    refine st_call rfl z_call27 rfl rfl rfl rfl H112 (ball bk _ (Bank.run_ok l k) (H112.sep.all _ (by repeat (first | exact List.Mem.head _ | apply List.Mem.tail)))) ?_
    clear H112; intro v113 l113 a113 w113 hf113 H113
    obtain rfl := hf113
    simp only [List.cons_append, List.nil_append] at H113
    obtain ⟨Ap, cp, hv113, hRp, hmp⟩ := row_shape (v := v113) H113.sep (List.Mem.head _)
    subst hv113
    refine plain (y_assign rfl rfl) rfl rfl rfl H113 ?_
    clear H113; intro a114 H114
    refine fin ?_
    refine then_n ?_
    refine wp_seq ?_
    refine reg ?_
    refine plain (y_assign rfl rfl) rfl rfl rfl H114 ?_
    clear H114; intro a115 H115
    refine fin ?_
    refine then_n ?_
    refine wp_seq ?_
    refine wp_seq ?_
    refine reg ?_
    refine plain (y_assign rfl rfl) rfl rfl rfl H115 ?_
    clear H115; intro a116 H116
    refine fin ?_
    refine then_n ?_
    refine wp_block ?_
    refine loop (ι := Nat) (fun i => [(3, .pointer (some ⟨bk, 0, none⟩)), (4, .int .i64 (Bank.run l k).sum), (6, .slice Ap 64 cp), (7, .int .i64 (Bank.sumTo (Bank.run l k) i)), (8, .int .i64 (i : Int))]) (fun i => [It.row 3 1 (.slice Ap 64 cp) 64 ((Bank.run l k).map i64), It.blk bk 69 ((Bank.run l k).map i64)]) (fun i => i ≤ 64) (fun i => 64 - i) (0) (Nat.zero_le _) (H116.weak ⟨rfl, rfl, rfl, fi rfl (by rw [Bank.sumTo_zero]), rfl, trivial⟩ rfl) ?_
    clear H116; intro i a117 w117 hok117 H117
    have hok := hok117
    have hl1 := (Bank.run_ok l k).len
    have hal := (Bank.run_ok l k).all i
    have hst := Bank.sumTo_le (Bank.run_ok l k) i hok
    have hof : i < 64 → Bank.of (Bank.run l k) (i : Int) = (Bank.run l k).getD i 0 := fun h => Bank.of_in (by omega)
    have hsa : 64 ≤ i → Bank.sumTo (Bank.run l k) i = (Bank.run l k).sum := fun h => Bank.sumTo_all (by rw [hl1]; exact h)
    refine wp_seq ?_
    refine wp_seq ?_
    refine reg ?_
    refine plain (y_move rfl rfl) rfl rfl rfl H117 ?_
    clear H117; intro a118 H118
    refine plain (y_move rfl rfl) rfl rfl rfl H118 ?_
    clear H118; intro a119 H119
    refine plain (y_len rfl Try.underlying39 rfl) rfl rfl rfl H119 ?_
    clear H119; intro a120 H120
    refine plain (y_lss rfl rfl rfl) rfl rfl rfl H120 ?_
    clear H120; intro a121 H121
    refine fin ?_
    refine then_n ?_
    refine cnd_d H121 rfl (fun hc122 => ?_) (fun hc122 => ?_) -- cond 10
    · skip
      refine wp_skip ?_
      refine then_n ?_
      refine wp_seq ?_
      refine wp_block ?_
      refine wp_seq ?_
      refine wp_seq ?_
      refine qreg (by kernel_rfl) (by kernel_rfl) H121 ?_
      have F123 := H121.fr
      clear H121
      refine qplain (y_move rfl rfl) rfl rfl rfl F123 ?_
      clear F123; intro a124 H124
      refine qplain (y_move rfl rfl) rfl rfl rfl H124 ?_
      clear H124; intro a125 H125
      refine qplain (y_ixR rfl Try.underlying39 z_size3 rfl rfl (by omega) (by omega) (rd_row (by repeat (first | exact List.Mem.head _ | apply List.Mem.tail))) (by first | (rw [flat_len Bank.cells_len]; omega) | (simp; omega))) rfl rfl rfl H125 ?_
      clear H125; intro a126 H126
      refine qplain (y_loadR rfl z_agg3 rfl (rd_row (by repeat (first | exact List.Mem.head _ | apply List.Mem.tail))) (by simp only [Int.toNat_natCast, Nat.mul_one, Nat.add_zero]; exact i64_get _ _ (by rw [hl1]; omega))) rfl rfl rfl H126 ?_
      clear H126; intro a127 H127
      refine qplain (y_lss rfl rfl rfl) rfl rfl rfl H127 ?_
      clear H127; intro a128 H128
      refine qplain (y_move rfl rfl) rfl rfl rfl H128 ?_
      clear H128; intro a129 H129
      refine qpart_d (d := 70) H129 rfl (fun hg130 => ?_) (fun hg130 => ?_)
      · first
        | fail
        | skip
          clear H129; intro H131
          refine qskip rfl rfl rfl H131 ?_
          clear H131; intro a132 H132
          refine qskip rfl rfl rfl H132 ?_
          clear H132; intro a133 H133
          refine qskip rfl rfl rfl H133 ?_
          clear H133; intro a134 H134
          refine qskip rfl rfl rfl H134 ?_
          clear H134; intro a135 H135
          refine qskip rfl rfl rfl H135 ?_
          clear H135; intro a136 H136
          refine qskip rfl rfl rfl H136 ?_
          clear H136; intro a137 H137
          refine qskip rfl rfl rfl H137 ?_
          clear H137; intro a138 H138
          refine qskip rfl rfl rfl H138 ?_
          clear H138; intro a139 H139
          refine qplain (y_pick_t rfl rfl rfl) rfl rfl rfl H139 ?_
          clear H139; intro a140 H140
          refine qfin H140 ?_
          clear H140; intro w141 H141
          refine then_n ?_
          refine cnd_t H141 rfl ?_
          refine wp_seq ?_
          refine reg ?_
          refine plain (y_assign rfl rfl) rfl rfl rfl H141 ?_
          clear H141; intro a143 H143
          refine fin ?_
          refine then_n ?_
          refine wp_ret ?_
          refine then_r ?_
          refine inb_r ?_
          refine then_r ?_
          refine then_r ?_
          refine inb_r ?_
          refine then_r ?_
          -- return 1
          refine ret1 rfl H143 rfl ?_
          first | (exfalso; omega) | (exact ⟨_, [], rfl, ⟨congrArg Value.bool (decide_eq_true rfl), rfl⟩, H143.sep.sub (List.nil_sublist _)⟩)
      · first
        | fail
        | skip
          clear H129; intro H144
          refine qplain (y_move rfl rfl) rfl rfl rfl H144 ?_
          clear H144; intro a145 H145
          refine qplain (y_move rfl rfl) rfl rfl rfl H145 ?_
          clear H145; intro a146 H146
          refine qplain (y_ixR rfl Try.underlying39 z_size3 rfl rfl (by omega) (by omega) (rd_row (by repeat (first | exact List.Mem.head _ | apply List.Mem.tail))) (by first | (rw [flat_len Bank.cells_len]; omega) | (simp; omega))) rfl rfl rfl H146 ?_
          clear H146; intro a147 H147
          refine qplain (y_loadR rfl z_agg3 rfl (rd_row (by repeat (first | exact List.Mem.head _ | apply List.Mem.tail))) (by simp only [Int.toNat_natCast, Nat.mul_one, Nat.add_zero]; exact i64_get _ _ (by rw [hl1]; omega))) rfl rfl rfl H147 ?_
          clear H147; intro a148 H148
          refine qplain (y_move rfl rfl) rfl rfl rfl H148 ?_
          clear H148; intro a149 H149
          refine qplain (y_move rfl rfl) rfl rfl rfl H149 ?_
          clear H149; intro a150 H150
          refine qcallg rfl z_call28 rfl rfl rfl rfl H150 (fun w hs => (bof bk _ (Bank.run_ok l k) _ (hs.all _ (List.Mem.tail _ (List.Mem.head _))))) ?_
          clear H150; intro a151 H151
          refine qplain (y_neq rfl rfl rfl) rfl rfl rfl H151 ?_
          clear H151; intro a152 H152
          refine qplain (y_pick_f rfl rfl rfl) rfl rfl rfl H152 ?_
          clear H152; intro a153 H153
          refine qfin H153 ?_
          clear H153; intro w154 H154
          refine then_n ?_
          refine cnd_d H154 rfl (fun hc155 => ?_) (fun hc155 => ?_) -- cond 12
          · skip
            refine wp_seq ?_
            refine reg ?_
            refine plain (y_assign rfl rfl) rfl rfl rfl H154 ?_
            clear H154; intro a156 H156
            refine fin ?_
            refine then_n ?_
            refine wp_ret ?_
            refine then_r ?_
            refine inb_r ?_
            refine then_r ?_
            refine then_r ?_
            refine inb_r ?_
            refine then_r ?_
            -- return 2
            refine ret1 rfl H156 rfl ?_
            first | (exfalso; omega) | (exact ⟨_, [], rfl, ⟨congrArg Value.bool (decide_eq_true rfl), rfl⟩, H156.sep.sub (List.nil_sublist _)⟩)
          · skip
            refine wp_skip ?_
            refine then_n ?_
            refine reg ?_
            refine plain (y_move rfl rfl) rfl rfl rfl H154 ?_
            clear H154; intro a157 H157
            refine plain (y_move rfl rfl) rfl rfl rfl H157 ?_
            clear H157; intro a158 H158
            refine plain (y_move rfl rfl) rfl rfl rfl H158 ?_
            clear H158; intro a159 H159
            refine plain (y_ixR rfl Try.underlying39 z_size3 rfl rfl (by omega) (by omega) (rd_row (by repeat (first | exact List.Mem.head _ | apply List.Mem.tail))) (by first | (rw [flat_len Bank.cells_len]; omega) | (simp; omega))) rfl rfl rfl H159 ?_
            clear H159; intro a160 H160
            refine plain (y_loadR rfl z_agg3 rfl (rd_row (by repeat (first | exact List.Mem.head _ | apply List.Mem.tail))) (by simp only [Int.toNat_natCast, Nat.mul_one, Nat.add_zero]; exact i64_get _ _ (by rw [hl1]; omega))) rfl rfl rfl H160 ?_
            clear H160; intro a161 H161
            refine plain (y_add rfl rfl rfl (by first | exact w64 (by omega) (by omega) | rfl)) rfl rfl rfl H161 ?_
            clear H161; intro a162 H162
            refine plain (y_assign rfl rfl) rfl rfl rfl H162 ?_
            clear H162; intro a163 H163
            refine fin ?_
            refine inb_n ?_
            refine then_n ?_
            refine reg ?_
            refine plain (y_move rfl rfl) rfl rfl rfl H163 ?_
            clear H163; intro a164 H164
            refine plain (y_add rfl rfl rfl (by first | exact w64 (by omega) (by omega) | rfl)) rfl rfl rfl H164 ?_
            clear H164; intro a165 H165
            refine plain (y_assign rfl rfl) rfl rfl rfl H165 ?_
            clear H165; intro a166 H166
            refine fin ?_
            refine then_n ?_
            refine ⟨i + 1, by omega, by omega, H166.weak ⟨rfl, rfl, rfl, fi rfl ?_, fi rfl (by omega), trivial⟩ rfl⟩
            rw [Bank.sumTo_succ (by omega)]
    · skip
      refine wp_exit ?_
      refine then_x ?_
      refine then_x ?_
      refine inb_hit ?_
      refine then_n ?_
      refine wp_seq ?_
      refine reg ?_
      refine plain (y_move rfl rfl) rfl rfl rfl H121 ?_
      clear H121; intro a167 H167
      refine plain (y_len rfl Try.underlying39 rfl) rfl rfl rfl H167 ?_
      clear H167; intro a168 H168
      refine plain (y_eql rfl rfl rfl) rfl rfl rfl H168 ?_
      clear H168; intro a169 H169
      refine plain (y_move rfl rfl) rfl rfl rfl H169 ?_
      clear H169; intro a170 H170
      refine part_d (d := 89) H170 rfl (fun hg171 => ?_) (fun hg171 => ?_)
      · first
        | fail
        | skip
          clear H170; intro H172
          refine plain (y_move rfl rfl) rfl rfl rfl H172 ?_
          clear H172; intro a173 H173
          refine plain (y_move rfl rfl) rfl rfl rfl H173 ?_
          clear H173; intro a174 H174
          refine plain (y_eql rfl rfl rfl) rfl rfl rfl H174 ?_
          clear H174; intro a175 H175
          refine plain (y_pick_t rfl rfl rfl) rfl rfl rfl H175 ?_
          clear H175; intro a176 H176
          refine plain (y_move rfl rfl) rfl rfl rfl H176 ?_
          clear H176; intro a177 H177
          refine part_d (d := 94) H177 rfl (fun hg178 => ?_) (fun hg178 => ?_)
          · first
            | fail
            | skip
              clear H177; intro H179
              refine plain (y_move rfl rfl) rfl rfl rfl H179 ?_
              clear H179; intro a180 H180
              refine st_callg rfl z_call29 rfl rfl rfl rfl H180 (btotal bk _ (Bank.run_ok l k) (H180.sep.all _ (by repeat (first | exact List.Mem.head _ | apply List.Mem.tail)))) ?_
              clear H180; intro a181 w181 H181
              refine plain (y_move rfl rfl) rfl rfl rfl H181 ?_
              clear H181; intro a182 H182
              refine plain (y_eql rfl rfl rfl) rfl rfl rfl H182 ?_
              clear H182; intro a183 H183
              refine plain (y_pick_t rfl rfl rfl) rfl rfl rfl H183 ?_
              clear H183; intro a184 H184
              refine plain (y_assign rfl rfl) rfl rfl rfl H184 ?_
              clear H184; intro a185 H185
              refine fin ?_
              refine then_n ?_
              refine wp_ret ?_
              -- return 3
              refine ret1 rfl H185 rfl ?_
              first | (exfalso; omega) | (exact ⟨_, [], rfl, ⟨congrArg Value.bool (decide_eq_true rfl), rfl⟩, H185.sep.sub (List.nil_sublist _)⟩)
          · first
            | fail
            | skip
              clear H177; intro H186
              refine skip rfl rfl rfl H186 ?_
              clear H186; intro a187 H187
              refine skip rfl rfl rfl H187 ?_
              clear H187; intro a188 H188
              refine skip rfl rfl rfl H188 ?_
              clear H188; intro a189 H189
              refine skip rfl rfl rfl H189 ?_
              clear H189; intro a190 H190
              refine plain (y_pick_f rfl rfl rfl) rfl rfl rfl H190 ?_
              clear H190; intro a191 H191
              refine plain (y_assign rfl rfl) rfl rfl rfl H191 ?_
              clear H191; intro a192 H192
              refine fin ?_
              refine then_n ?_
              refine wp_ret ?_
              -- return 4
              refine ret1 rfl H192 rfl ?_
              first | (exfalso; omega) | (exact ⟨_, [], rfl, ⟨congrArg Value.bool (decide_eq_true rfl), rfl⟩, H192.sep.sub (List.nil_sublist _)⟩)
      · first
        | fail
        | skip
          clear H170; intro H193
          refine skip rfl rfl rfl H193 ?_
          clear H193; intro a194 H194
          refine skip rfl rfl rfl H194 ?_
          clear H194; intro a195 H195
          refine skip rfl rfl rfl H195 ?_
          clear H195; intro a196 H196
          refine plain (y_pick_f rfl rfl rfl) rfl rfl rfl H196 ?_
          clear H196; intro a197 H197
          refine plain (y_move rfl rfl) rfl rfl rfl H197 ?_
          clear H197; intro a198 H198
          refine skip rfl rfl rfl H198 ?_
          clear H198; intro a199 H199
          refine skip rfl rfl rfl H199 ?_
          clear H199; intro a200 H200
          refine skip rfl rfl rfl H200 ?_
          clear H200; intro a201 H201
          refine skip rfl rfl rfl H201 ?_
          clear H201; intro a202 H202
          refine plain (y_pick_f rfl rfl rfl) rfl rfl rfl H202 ?_
          clear H202; intro a203 H203
          refine plain (y_assign rfl rfl) rfl rfl rfl H203 ?_
          clear H203; intro a204 H204
          refine fin ?_
          refine then_n ?_
          refine wp_ret ?_
          -- return 5
          refine ret1 rfl H204 rfl ?_
          first | (exfalso; omega) | (exact ⟨_, [], rfl, ⟨congrArg Value.bool (decide_eq_true rfl), rfl⟩, H204.sep.sub (List.nil_sublist _)⟩)

end Go.Proofs.Ytlaojmcpiggfeaa.TBankS
