/- Part of a proof about given Go functions: contracts of functions, or plain laws. -/
import Derived.Test.YtlaojmcpiggfeaaSxT
import Derived.Test.YtlaojmcpiggfeaaBankV
import Derived.Test.YtlaojmcpiggfeaaBank2
import Derived.Test.YtlaojmcpiggfeaaProg
import Derived.Test.YtlaojmcpiggfeaaTBank
import Derived.Test.YtlaojmcpiggfeaaTBank2
import Derived.Test.YtlaojmcpiggfeaaTBank3
set_option linter.unusedVariables false
set_option linter.unusedSimpArgs false
namespace Go.Proofs.Ytlaojmcpiggfeaa.TBankB
open Go.Sx Go.RowKit Go.Proofs.Ytlaojmcpiggfeaa.TBank Go.Proofs.Ytlaojmcpiggfeaa.TBank2 Go.Proofs.Ytlaojmcpiggfeaa.TBank3

theorem z_call19 : callB Try.prog 19 = true := by kernel_rfl
theorem z_call21 : callB Try.prog 21 = true := by kernel_rfl
theorem z_size34 : sizeB Try.prog 34 = some 4 := by kernel_rfl
theorem z_agg34 : aggB Try.prog 34 = some true := by kernel_rfl
theorem z_call25 : callB Try.prog 25 = true := by kernel_rfl
theorem z_call27 : callB Try.prog 27 = true := by kernel_rfl
theorem z_field34_1 : fieldB Try.prog 34 1 = some 1 := by kernel_rfl
theorem z_agg3 : aggB Try.prog 3 = some false := by kernel_rfl
theorem z_field34_3 : fieldB Try.prog 34 3 = some 3 := by kernel_rfl
theorem z_call30 : callB Try.prog 30 = true := by kernel_rfl
theorem z_call31 : callB Try.prog 31 = true := by kernel_rfl
theorem z_field34_2 : fieldB Try.prog 34 2 = some 2 := by kernel_rfl
theorem z_call32 : callB Try.prog 32 = true := by kernel_rfl
theorem z_call26 : callB Try.prog 26 = true := by kernel_rfl

set_option maxRecDepth 100000 in
set_option maxHeartbeats 2000000 in
theorem bankBack (l : List Bank.Act) (A : Option Addr) (m c : Nat) (hm : m = l.length) (x : Bank.Act) (w : World) (hR : Rd w A (l.map Bank.cells).flatten) (hl : l.length ≤ 9223372036854775807) : Calls Try.prog 7 #[.slice A m c, .agg (Bank.cells x).toArray] w (Gives (.bool true) [] w) := by
  subst hm
  refine enterL (args := [.slice A l.length c, .agg (Bank.cells x).toArray]) Try.func7 rfl rfl (l := []) (Sep.refl _) ?_
  intro a0 H0
  refine wp_seq ?_
  refine reg ?_
  refine st_box rfl rfl rfl rfl rfl rfl H0 ?_
  clear H0; intro b1 a1 w1 H1
  refine plain (y_assign rfl rfl) rfl rfl rfl H1 ?_
  clear H1; intro a2 H2
  refine fin ?_
  refine then_n ?_
  refine wp_seq ?_
  refine reg ?_
  refine st_call rfl z_call19 rfl rfl rfl rfl H2 (bnew _) ?_
  clear H2; intro v3 l3 a3 w3 hf3 H3
  obtain ⟨bk, rfl, rfl⟩ := hf3
  simp only [List.cons_append, List.nil_append] at H3
  refine plain (y_assign rfl rfl) rfl rfl rfl H3 ?_
  clear H3; intro a4 H4
  refine fin ?_
  refine then_n ?_
  refine wp_seq ?_
  refine wp_seq ?_
  refine reg ?_
  refine plain (y_move rfl rfl) rfl rfl rfl H4 ?_
  clear H4; intro a5 H5
  refine plain (y_peql rfl Try.underlying29 rfl rfl) rfl rfl rfl H5 ?_
  clear H5; intro a6 H6
  refine plain (y_move rfl rfl) rfl rfl rfl H6 ?_
  clear H6; intro a7 H7
  have H9 := H7.know (d := 11) (v := .bool false) rfl (rfl)
  clear H7
  refine st_callg rfl z_call21 rfl rfl rfl rfl H9 (awake _) ?_
  clear H9; intro a10 w10 H10
  refine plain (y_not rfl rfl) rfl rfl rfl H10 ?_
  clear H10; intro a11 H11
  refine plain (y_pick_f rfl rfl rfl) rfl rfl rfl H11 ?_
  clear H11; intro a12 H12
  refine fin ?_
  refine then_n ?_
  refine cnd_f H12 rfl ?_
  refine wp_skip ?_
  refine then_n ?_
  refine wp_seq ?_
  refine wp_seq ?_
  refine reg ?_
  refine plain (y_assign rfl rfl) rfl rfl rfl H12 ?_
  clear H12; intro a14 H14
  refine fin ?_
  refine then_n ?_
  refine wp_cut (fun aC wC => ∃ k : Nat, St Try.f7.ntmps [] w ([(3, .pointer (some ⟨b1, 0, none⟩)), (5, .pointer (some ⟨bk, 0, none⟩))]) ([It.blk bk 69 ((Bank.run l k).map i64), It.blk b1 34 (Bank.cells x)]) aC wC) ?_ ?_
  · skip
    refine wp_block ?_
    refine loop (ι := Nat) (fun k => [(0, .slice A l.length c), (5, .pointer (some ⟨bk, 0, none⟩)), (6, .int .i64 (k : Int)), (3, .pointer (some ⟨b1, 0, none⟩))]) (fun k => [It.blk bk 69 ((Bank.run l k).map i64), It.blk b1 34 (Bank.cells x)]) (fun k => k ≤ l.length ∧ k ≤ 100) (fun k => l.length - k) (0) (by omega) (H14.weak ⟨rfl, rfl, rfl, rfl, trivial⟩ rfl) ?_
    clear H14; intro k a15 w15 hok15 H15
    have hok := hok15
    refine wp_seq ?_
    refine wp_seq ?_
    refine reg ?_
    refine plain (y_move rfl rfl) rfl rfl rfl H15 ?_
    clear H15; intro a16 H16
    refine plain (y_move rfl rfl) rfl rfl rfl H16 ?_
    clear H16; intro a17 H17
    refine plain (y_len rfl Try.underlying28 rfl) rfl rfl rfl H17 ?_
    clear H17; intro a18 H18
    refine plain (y_lss rfl rfl rfl) rfl rfl rfl H18 ?_
    clear H18; intro a19 H19
    refine plain (y_move rfl rfl) rfl rfl rfl H19 ?_
    clear H19; intro a20 H20
    refine part_d (d := 19) H20 rfl (fun hg21 => ?_) (fun hg21 => ?_)
    · first
      | fail
      | skip
        clear H20; intro H22
        refine plain (y_move rfl rfl) rfl rfl rfl H22 ?_
        clear H22; intro a23 H23
        refine plain (y_lss rfl rfl rfl) rfl rfl rfl H23 ?_
        clear H23; intro a24 H24
        refine plain (y_pick_t rfl rfl rfl) rfl rfl rfl H24 ?_
        clear H24; intro a25 H25
        refine fin ?_
        refine then_n ?_
        refine cnd_d H25 rfl (fun hc26 => ?_) (fun hc26 => ?_)
        · skip
          refine wp_skip ?_
          refine then_n ?_
          refine wp_seq ?_
          refine wp_block ?_
          refine reg ?_
          refine plain (y_move rfl rfl) rfl rfl rfl H25 ?_
          clear H25; intro a27 H27
          refine plain (y_move rfl rfl) rfl rfl rfl H27 ?_
          clear H27; intro a28 H28
          refine plain (y_move rfl rfl) rfl rfl rfl H28 ?_
          clear H28; intro a29 H29
          refine plain (y_ixR rfl Try.underlying28 z_size34 rfl rfl (by omega) (by omega) (rd_old (by assumption) (by simp)) (by first | (rw [flat_len Bank.cells_len]; omega) | (simp; omega))) rfl rfl rfl H29 ?_
          clear H29; intro a30 H30
          refine plain (y_loadAS rfl z_agg34 z_size34 rfl (rd_old (by assumption) (by simp)) (flat_takeI Bank.cells_len Bank.A0 l k (by omega)) rfl (by decide)) rfl rfl rfl H30 ?_
          clear H30; intro a31 H31
          refine st_callu rfl z_call25 rfl rfl rfl rfl H31 (bdo bk _ (Bank.run_ok l k) (l.getD k Bank.A0) (H31.sep.all _ (by repeat (first | exact List.Mem.head _ | apply List.Mem.tail)))) (by repeat (first | exact Upd.head _ _ _ | apply Upd.tail)) ?_
          clear H31; intro a32 w32 H32
          refine fin ?_
          refine inb_n ?_
          refine then_n ?_
          refine reg ?_
          refine plain (y_move rfl rfl) rfl rfl rfl H32 ?_
          clear H32; intro a33 H33
          refine plain (y_add rfl rfl rfl (by first | exact w64 (by omega) (by omega) | rfl)) rfl rfl rfl H33 ?_
          clear H33; intro a34 H34
          refine plain (y_assign rfl rfl) rfl rfl rfl H34 ?_
          clear H34; intro a35 H35
          refine fin ?_
          refine then_n ?_
          refine ⟨k + 1, by omega, by omega, H35.weak ⟨rfl, rfl, fi rfl (by omega), rfl, trivial⟩ (ib2 (by rw [Bank.run_succ (by omega)]) rfl)⟩
        · skip
          refine wp_exit ?_
          refine then_x ?_
          refine then_x ?_
          refine inb_hit ?_
          refine cut_n ?_
          exact ⟨k, H25.weak ⟨rfl, rfl, trivial⟩ rfl⟩
    · first
      | fail
      | skip
        clear H20; intro H36
        refine skip rfl rfl rfl H36 ?_
        clear H36; intro a37 H37
        refine skip rfl rfl rfl H37 ?_
        clear H37; intro a38 H38
        refine plain (y_pick_f rfl rfl rfl) rfl rfl rfl H38 ?_
        clear H38; intro a39 H39
        refine fin ?_
        refine then_n ?_
        refine cnd_f H39 rfl ?_
        refine wp_exit ?_
        refine then_x ?_
        refine then_x ?_
        refine inb_hit ?_
        refine cut_n ?_
        exact ⟨k, H39.weak ⟨rfl, rfl, trivial⟩ rfl⟩
  · clear H14; intro a41 w41 hI41
    obtain ⟨k, H41⟩ := hI41
    refine then_n ?_
    refine wp_seq ?_
    refine reg ?_
    refine plain (y_move rfl rfl) rfl rfl rfl H41 ?_
    clear H41; intro a42 H42
    refine st_call rfl z_call27 rfl rfl rfl rfl H42 (ball bk _ (Bank.run_ok l k) (H42.sep.all _ (by repeat (first | exact List.Mem.head _ | apply List.Mem.tail)))) ?_
    clear H42; intro v43 l43 a43 w43 hf43 H43
    obtain rfl := hf43
    simp only [List.cons_append, List.nil_append] at H43
    obtain ⟨A43, c43, hv43, hR43, hm43⟩ := row_shape (v := v43) H43.sep (List.Mem.head _)
    subst hv43
    refine plain (y_assign rfl rfl) rfl rfl rfl H43 ?_
    clear H43; intro a44 H44
    refine fin ?_
    refine then_n ?_
    refine wp_seq ?_
    refine wp_seq ?_
    refine reg ?_
    refine plain (y_move rfl rfl) rfl rfl rfl H44 ?_
    clear H44; intro a45 H45
    refine plain (y_fieldB rfl z_field34_1 rfl (by first | (simp only [Nat.zero_add, Nat.add_zero, Nat.reduceAdd]; rfl) | rfl)) rfl rfl rfl H45 ?_
    clear H45; intro a46 H46
    refine plain (y_loadB rfl z_agg3 rfl (by repeat (first | exact List.Mem.head _ | apply List.Mem.tail)) rfl) rfl rfl rfl H46 ?_
    clear H46; intro a47 H47
    refine plain (y_fieldB rfl z_field34_3 rfl (by first | (simp only [Nat.zero_add, Nat.add_zero, Nat.reduceAdd]; rfl) | rfl)) rfl rfl rfl H47 ?_
    clear H47; intro a48 H48
    refine plain (y_loadB rfl z_agg3 rfl (by repeat (first | exact List.Mem.head _ | apply List.Mem.tail)) rfl) rfl rfl rfl H48 ?_
    clear H48; intro a49 H49
    refine st_callu rfl z_call30 rfl rfl rfl rfl H49 (bput bk _ (Bank.run_ok l k) x.a x.n (H49.sep.all _ (by repeat (first | exact List.Mem.head _ | apply List.Mem.tail)))) (by repeat (first | exact Upd.head _ _ _ | apply Upd.tail)) ?_
    clear H49; intro a50 w50 H50
    refine plain (y_eql rfl rfl rfl) rfl rfl rfl H50 ?_
    clear H50; intro a51 H51
    refine plain (y_move rfl rfl) rfl rfl rfl H51 ?_
    clear H51; intro a52 H52
    refine part_d (d := 40) H52 rfl (fun hg53 => ?_) (fun hg53 => ?_)
    · first
      | fail
      | skip
        clear H52; intro H54
        have hpb := Bank.put_back (Bank.run_ok l k) hg53
        refine plain (y_move rfl rfl) rfl rfl rfl H54 ?_
        clear H54; intro a55 H55
        refine plain (y_fieldB rfl z_field34_1 rfl (by first | (simp only [Nat.zero_add, Nat.add_zero, Nat.reduceAdd]; rfl) | rfl)) rfl rfl rfl H55 ?_
        clear H55; intro a56 H56
        refine plain (y_loadB rfl z_agg3 rfl (by repeat (first | exact List.Mem.head _ | apply List.Mem.tail)) rfl) rfl rfl rfl H56 ?_
        clear H56; intro a57 H57
        refine plain (y_fieldB rfl z_field34_3 rfl (by first | (simp only [Nat.zero_add, Nat.add_zero, Nat.reduceAdd]; rfl) | rfl)) rfl rfl rfl H57 ?_
        clear H57; intro a58 H58
        refine plain (y_loadB rfl z_agg3 rfl (by repeat (first | exact List.Mem.head _ | apply List.Mem.tail)) rfl) rfl rfl rfl H58 ?_
        clear H58; intro a59 H59
        refine st_callu rfl z_call31 rfl rfl rfl rfl H59 (btake bk _ (Bank.put_keep (Bank.run_ok l k) x.a x.n) x.a x.n (H59.sep.all _ (by repeat (first | exact List.Mem.head _ | apply List.Mem.tail)))) (by repeat (first | exact Upd.head _ _ _ | apply Upd.tail)) ?_
        clear H59; intro a60 w60 H60
        refine plain (y_neq rfl rfl rfl) rfl rfl rfl H60 ?_
        clear H60; intro a61 H61
        refine plain (y_pick_t rfl rfl rfl) rfl rfl rfl H61 ?_
        clear H61; intro a62 H62
        refine fin ?_
        refine then_n ?_
        refine cnd_d H62 rfl (fun hc63 => ?_) (fun hc63 => ?_)
        · exact absurd (by rw [hpb]) hc63
        · skip
          rw [hpb] at H62
          refine wp_skip ?_
          refine then_n ?_
          refine wp_seq ?_
          refine wp_seq ?_
          refine reg ?_
          refine plain (y_move rfl rfl) rfl rfl rfl H62 ?_
          clear H62; intro a64 H64
          refine plain (y_fieldB rfl z_field34_1 rfl (by first | (simp only [Nat.zero_add, Nat.add_zero, Nat.reduceAdd]; rfl) | rfl)) rfl rfl rfl H64 ?_
          clear H64; intro a65 H65
          refine plain (y_loadB rfl z_agg3 rfl (by repeat (first | exact List.Mem.head _ | apply List.Mem.tail)) rfl) rfl rfl rfl H65 ?_
          clear H65; intro a66 H66
          refine plain (y_fieldB rfl z_field34_2 rfl (by first | (simp only [Nat.zero_add, Nat.add_zero, Nat.reduceAdd]; rfl) | rfl)) rfl rfl rfl H66 ?_
          clear H66; intro a67 H67
          refine plain (y_loadB rfl z_agg3 rfl (by repeat (first | exact List.Mem.head _ | apply List.Mem.tail)) rfl) rfl rfl rfl H67 ?_
          clear H67; intro a68 H68
          refine plain (y_fieldB rfl z_field34_3 rfl (by first | (simp only [Nat.zero_add, Nat.add_zero, Nat.reduceAdd]; rfl) | rfl)) rfl rfl rfl H68 ?_
          clear H68; intro a69 H69
          refine plain (y_loadB rfl z_agg3 rfl (by repeat (first | exact List.Mem.head _ | apply List.Mem.tail)) rfl) rfl rfl rfl H69 ?_
          clear H69; intro a70 H70
          refine st_callu rfl z_call32 rfl rfl rfl rfl H70 (bmove bk _ (Bank.run_ok l k) x.a x.b x.n (H70.sep.all _ (by repeat (first | exact List.Mem.head _ | apply List.Mem.tail)))) (by repeat (first | exact Upd.head _ _ _ | apply Upd.tail)) ?_
          clear H70; intro a71 w71 H71
          refine plain (y_eql rfl rfl rfl) rfl rfl rfl H71 ?_
          clear H71; intro a72 H72
          refine plain (y_move rfl rfl) rfl rfl rfl H72 ?_
          clear H72; intro a73 H73
          refine part_d (d := 58) H73 rfl (fun hg74 => ?_) (fun hg74 => ?_)
          · first
            | fail
            | skip
              clear H73; intro H75
              have hmb := Bank.move_back (Bank.run_ok l k) hg74
              refine plain (y_move rfl rfl) rfl rfl rfl H75 ?_
              clear H75; intro a76 H76
              refine plain (y_fieldB rfl z_field34_2 rfl (by first | (simp only [Nat.zero_add, Nat.add_zero, Nat.reduceAdd]; rfl) | rfl)) rfl rfl rfl H76 ?_
              clear H76; intro a77 H77
              refine plain (y_loadB rfl z_agg3 rfl (by repeat (first | exact List.Mem.head _ | apply List.Mem.tail)) rfl) rfl rfl rfl H77 ?_
              clear H77; intro a78 H78
              refine plain (y_fieldB rfl z_field34_1 rfl (by first | (simp only [Nat.zero_add, Nat.add_zero, Nat.reduceAdd]; rfl) | rfl)) rfl rfl rfl H78 ?_
              clear H78; intro a79 H79
              refine plain (y_loadB rfl z_agg3 rfl (by repeat (first | exact List.Mem.head _ | apply List.Mem.tail)) rfl) rfl rfl rfl H79 ?_
              clear H79; intro a80 H80
              refine plain (y_fieldB rfl z_field34_3 rfl (by first | (simp only [Nat.zero_add, Nat.add_zero, Nat.reduceAdd]; rfl) | rfl)) rfl rfl rfl H80 ?_
              clear H80; intro a81 H81
              refine plain (y_loadB rfl z_agg3 rfl (by repeat (first | exact List.Mem.head _ | apply List.Mem.tail)) rfl) rfl rfl rfl H81 ?_
              clear H81; intro a82 H82
              refine st_callu rfl z_call32 rfl rfl rfl rfl H82 (bmove bk _ (Bank.move_keep (Bank.run_ok l k) x.a x.b x.n) x.b x.a x.n (H82.sep.all _ (by repeat (first | exact List.Mem.head _ | apply List.Mem.tail)))) (by repeat (first | exact Upd.head _ _ _ | apply Upd.tail)) ?_
              clear H82; intro a83 w83 H83
              refine plain (y_neq rfl rfl rfl) rfl rfl rfl H83 ?_
              clear H83; intro a84 H84
              refine plain (y_pick_t rfl rfl rfl) rfl rfl rfl H84 ?_
              clear H84; intro a85 H85
              refine fin ?_
              refine then_n ?_
              refine cnd_d H85 rfl (fun hc86 => ?_) (fun hc86 => ?_)
              · exact absurd (by rw [hmb]) hc86
              · skip
                rw [hmb] at H85
                refine wp_skip ?_
                refine then_n ?_
                refine wp_seq ?_
                refine reg ?_
                refine plain (y_move rfl rfl) rfl rfl rfl H85 ?_
                clear H85; intro a87 H87
                refine plain (y_move rfl rfl) rfl rfl rfl H87 ?_
                clear H87; intro a88 H88
                refine st_call rfl z_call27 rfl rfl rfl rfl H88 (ball bk _ (Bank.run_ok l k) (H88.sep.all _ (by repeat (first | exact List.Mem.head _ | apply List.Mem.tail)))) ?_
                clear H88; intro v89 l89 a89 w89 hf89 H89
                obtain rfl := hf89
                simp only [List.cons_append, List.nil_append] at H89
                obtain ⟨A89, c89, hv89, hR89, hm89⟩ := row_shape (v := v89) H89.sep (List.Mem.head _)
                subst hv89
                refine st_callg rfl z_call26 rfl rfl rfl rfl H89 (numbers (Bank.run l k) (Bank.run l k) _ _ _ _ _ _ (Bank.run_ok l k).len.symm (Bank.run_ok l k).len.symm (Rd.ofSep (rd_row (by repeat (first | exact List.Mem.head _ | apply List.Mem.tail))) H89.sep) (Rd.ofSep (rd_row (by repeat (first | exact List.Mem.head _ | apply List.Mem.tail))) H89.sep) (by rw [(Bank.run_ok l k).len]; omega)) ?_
                clear H89; intro a90 w90 H90
                refine plain (y_assign rfl rfl) rfl rfl rfl H90 ?_
                clear H90; intro a91 H91
                refine fin ?_
                refine then_n ?_
                refine wp_ret ?_
                -- return 1
                refine ret1 rfl H91 rfl ?_
                exact ⟨_, [], rfl, ⟨congrArg Value.bool (decide_eq_true rfl), rfl⟩, H91.sep.sub (List.nil_sublist _)⟩
          · first
            | fail
            | skip
              clear H73; intro H92
              have hme := Bank.move_err hg74
              rw [hme] at H92
              refine skip rfl rfl rfl H92 ?_
              clear H92; intro a93 H93
              refine skip rfl rfl rfl H93 ?_
              clear H93; intro a94 H94
              refine skip rfl rfl rfl H94 ?_
              clear H94; intro a95 H95
              refine skip rfl rfl rfl H95 ?_
              clear H95; intro a96 H96
              refine skip rfl rfl rfl H96 ?_
              clear H96; intro a97 H97
              refine skip rfl rfl rfl H97 ?_
              clear H97; intro a98 H98
              refine skip rfl rfl rfl H98 ?_
              clear H98; intro a99 H99
              refine skip rfl rfl rfl H99 ?_
              clear H99; intro a100 H100
              refine skip rfl rfl rfl H100 ?_
              clear H100; intro a101 H101
              refine plain (y_pick_f rfl rfl rfl) rfl rfl rfl H101 ?_
              clear H101; intro a102 H102
              refine fin ?_
              refine then_n ?_
              refine cnd_f H102 rfl ?_
              refine wp_skip ?_
              refine then_n ?_
              refine wp_seq ?_
              refine reg ?_
              refine plain (y_move rfl rfl) rfl rfl rfl H102 ?_
              clear H102; intro a104 H104
              refine plain (y_move rfl rfl) rfl rfl rfl H104 ?_
              clear H104; intro a105 H105
              refine st_call rfl z_call27 rfl rfl rfl rfl H105 (ball bk _ (Bank.run_ok l k) (H105.sep.all _ (by repeat (first | exact List.Mem.head _ | apply List.Mem.tail)))) ?_
              clear H105; intro v106 l106 a106 w106 hf106 H106
              obtain rfl := hf106
              simp only [List.cons_append, List.nil_append] at H106
              obtain ⟨A106, c106, hv106, hR106, hm106⟩ := row_shape (v := v106) H106.sep (List.Mem.head _)
              subst hv106
              refine st_callg rfl z_call26 rfl rfl rfl rfl H106 (numbers (Bank.run l k) (Bank.run l k) _ _ _ _ _ _ (Bank.run_ok l k).len.symm (Bank.run_ok l k).len.symm (Rd.ofSep (rd_row (by repeat (first | exact List.Mem.head _ | apply List.Mem.tail))) H106.sep) (Rd.ofSep (rd_row (by repeat (first | exact List.Mem.head _ | apply List.Mem.tail))) H106.sep) (by rw [(Bank.run_ok l k).len]; omega)) ?_
              clear H106; intro a107 w107 H107
              refine plain (y_assign rfl rfl) rfl rfl rfl H107 ?_
              clear H107; intro a108 H108
              refine fin ?_
              refine then_n ?_
              refine wp_ret ?_
              -- return 2
              refine ret1 rfl H108 rfl ?_
              exact ⟨_, [], rfl, ⟨congrArg Value.bool (decide_eq_true rfl), rfl⟩, H108.sep.sub (List.nil_sublist _)⟩
    · first
      | fail
      | skip
        clear H52; intro H109
        have hpe := Bank.put_err hg53
        rw [hpe] at H109
        refine skip rfl rfl rfl H109 ?_
        clear H109; intro a110 H110
        refine skip rfl rfl rfl H110 ?_
        clear H110; intro a111 H111
        refine skip rfl rfl rfl H111 ?_
        clear H111; intro a112 H112
        refine skip rfl rfl rfl H112 ?_
        clear H112; intro a113 H113
        refine skip rfl rfl rfl H113 ?_
        clear H113; intro a114 H114
        refine skip rfl rfl rfl H114 ?_
        clear H114; intro a115 H115
        refine skip rfl rfl rfl H115 ?_
        clear H115; intro a116 H116
        refine plain (y_pick_f rfl rfl rfl) rfl rfl rfl H116 ?_
        clear H116; intro a117 H117
        refine fin ?_
        refine then_n ?_
        refine cnd_f H117 rfl ?_
        refine wp_skip ?_
        refine then_n ?_
        refine wp_seq ?_
        refine wp_seq ?_
        refine reg ?_
        refine plain (y_move rfl rfl) rfl rfl rfl H117 ?_
        clear H117; intro a119 H119
        refine plain (y_fieldB rfl z_field34_1 rfl (by first | (simp only [Nat.zero_add, Nat.add_zero, Nat.reduceAdd]; rfl) | rfl)) rfl rfl rfl H119 ?_
        clear H119; intro a120 H120
        refine plain (y_loadB rfl z_agg3 rfl (by repeat (first | exact List.Mem.head _ | apply List.Mem.tail)) rfl) rfl rfl rfl H120 ?_
        clear H120; intro a121 H121
        refine plain (y_fieldB rfl z_field34_2 rfl (by first | (simp only [Nat.zero_add, Nat.add_zero, Nat.reduceAdd]; rfl) | rfl)) rfl rfl rfl H121 ?_
        clear H121; intro a122 H122
        refine plain (y_loadB rfl z_agg3 rfl (by repeat (first | exact List.Mem.head _ | apply List.Mem.tail)) rfl) rfl rfl rfl H122 ?_
        clear H122; intro a123 H123
        refine plain (y_fieldB rfl z_field34_3 rfl (by first | (simp only [Nat.zero_add, Nat.add_zero, Nat.reduceAdd]; rfl) | rfl)) rfl rfl rfl H123 ?_
        clear H123; intro a124 H124
        refine plain (y_loadB rfl z_agg3 rfl (by repeat (first | exact List.Mem.head _ | apply List.Mem.tail)) rfl) rfl rfl rfl H124 ?_
        clear H124; intro a125 H125
        refine st_callu rfl z_call32 rfl rfl rfl rfl H125 (bmove bk _ (Bank.run_ok l k) x.a x.b x.n (H125.sep.all _ (by repeat (first | exact List.Mem.head _ | apply List.Mem.tail)))) (by repeat (first | exact Upd.head _ _ _ | apply Upd.tail)) ?_
        clear H125; intro a126 w126 H126
        refine plain (y_eql rfl rfl rfl) rfl rfl rfl H126 ?_
        clear H126; intro a127 H127
        refine plain (y_move rfl rfl) rfl rfl rfl H127 ?_
        clear H127; intro a128 H128
        refine part_d (d := 58) H128 rfl (fun hg129 => ?_) (fun hg129 => ?_)
        · first
          | fail
          | skip
            clear H128; intro H130
            have hmb := Bank.move_back (Bank.run_ok l k) hg129
            refine plain (y_move rfl rfl) rfl rfl rfl H130 ?_
            clear H130; intro a131 H131
            refine plain (y_fieldB rfl z_field34_2 rfl (by first | (simp only [Nat.zero_add, Nat.add_zero, Nat.reduceAdd]; rfl) | rfl)) rfl rfl rfl H131 ?_
            clear H131; intro a132 H132
            refine plain (y_loadB rfl z_agg3 rfl (by repeat (first | exact List.Mem.head _ | apply List.Mem.tail)) rfl) rfl rfl rfl H132 ?_
            clear H132; intro a133 H133
            refine plain (y_fieldB rfl z_field34_1 rfl (by first | (simp only [Nat.zero_add, Nat.add_zero, Nat.reduceAdd]; rfl) | rfl)) rfl rfl rfl H133 ?_
            clear H133; intro a134 H134
            refine plain (y_loadB rfl z_agg3 rfl (by repeat (first | exact List.Mem.head _ | apply List.Mem.tail)) rfl) rfl rfl rfl H134 ?_
            clear H134; intro a135 H135
            refine plain (y_fieldB rfl z_field34_3 rfl (by first | (simp only [Nat.zero_add, Nat.add_zero, Nat.reduceAdd]; rfl) | rfl)) rfl rfl rfl H135 ?_
            clear H135; intro a136 H136
            refine plain (y_loadB rfl z_agg3 rfl (by repeat (first | exact List.Mem.head _ | apply List.Mem.tail)) rfl) rfl rfl rfl H136 ?_
            clear H136; intro a137 H137
            refine st_callu rfl z_call32 rfl rfl rfl rfl H137 (bmove bk _ (Bank.move_keep (Bank.run_ok l k) x.a x.b x.n) x.b x.a x.n (H137.sep.all _ (by repeat (first | exact List.Mem.head _ | apply List.Mem.tail)))) (by repeat (first | exact Upd.head _ _ _ | apply Upd.tail)) ?_
            clear H137; intro a138 w138 H138
            refine plain (y_neq rfl rfl rfl) rfl rfl rfl H138 ?_
            clear H138; intro a139 H139
            refine plain (y_pick_t rfl rfl rfl) rfl rfl rfl H139 ?_
            clear H139; intro a140 H140
            refine fin ?_
            refine then_n ?_
            refine cnd_d H140 rfl (fun hc141 => ?_) (fun hc141 => ?_)
            · exact absurd (by rw [hmb]) hc141
            · skip
              rw [hmb] at H140
              refine wp_skip ?_
              refine then_n ?_
              refine wp_seq ?_
              refine reg ?_
              refine plain (y_move rfl rfl) rfl rfl rfl H140 ?_
              clear H140; intro a142 H142
              refine plain (y_move rfl rfl) rfl rfl rfl H142 ?_
              clear H142; intro a143 H143
              refine st_call rfl z_call27 rfl rfl rfl rfl H143 (ball bk _ (Bank.run_ok l k) (H143.sep.all _ (by repeat (first | exact List.Mem.head _ | apply List.Mem.tail)))) ?_
              clear H143; intro v144 l144 a144 w144 hf144 H144
              obtain rfl := hf144
              simp only [List.cons_append, List.nil_append] at H144
              obtain ⟨A144, c144, hv144, hR144, hm144⟩ := row_shape (v := v144) H144.sep (List.Mem.head _)
              subst hv144
              refine st_callg rfl z_call26 rfl rfl rfl rfl H144 (numbers (Bank.run l k) (Bank.run l k) _ _ _ _ _ _ (Bank.run_ok l k).len.symm (Bank.run_ok l k).len.symm (Rd.ofSep (rd_row (by repeat (first | exact List.Mem.head _ | apply List.Mem.tail))) H144.sep) (Rd.ofSep (rd_row (by repeat (first | exact List.Mem.head _ | apply List.Mem.tail))) H144.sep) (by rw [(Bank.run_ok l k).len]; omega)) ?_
              clear H144; intro a145 w145 H145
              refine plain (y_assign rfl rfl) rfl rfl rfl H145 ?_
              clear H145; intro a146 H146
              refine fin ?_
              refine then_n ?_
              refine wp_ret ?_
              -- return 3
              refine ret1 rfl H146 rfl ?_
              exact ⟨_, [], rfl, ⟨congrArg Value.bool (decide_eq_true rfl), rfl⟩, H146.sep.sub (List.nil_sublist _)⟩
        · first
          | fail
          | skip
            clear H128; intro H147
            have hme := Bank.move_err hg129
            rw [hme] at H147
            refine skip rfl rfl rfl H147 ?_
            clear H147; intro a148 H148
            refine skip rfl rfl rfl H148 ?_
            clear H148; intro a149 H149
            refine skip rfl rfl rfl H149 ?_
            clear H149; intro a150 H150
            refine skip rfl rfl rfl H150 ?_
            clear H150; intro a151 H151
            refine skip rfl rfl rfl H151 ?_
            clear H151; intro a152 H152
            refine skip rfl rfl rfl H152 ?_
            clear H152; intro a153 H153
            refine skip rfl rfl rfl H153 ?_
            clear H153; intro a154 H154
            refine skip rfl rfl rfl H154 ?_
            clear H154; intro a155 H155
            refine skip rfl rfl rfl H155 ?_
            clear H155; intro a156 H156
            refine plain (y_pick_f rfl rfl rfl) rfl rfl rfl H156 ?_
            clear H156; intro a157 H157
            refine fin ?_
            refine then_n ?_
            refine cnd_f H157 rfl ?_
            refine wp_skip ?_
            refine then_n ?_
            refine wp_seq ?_
            refine reg ?_
            refine plain (y_move rfl rfl) rfl rfl rfl H157 ?_
            clear H157; intro a159 H159
            refine plain (y_move rfl rfl) rfl rfl rfl H159 ?_
            clear H159; intro a160 H160
            refine st_call rfl z_call27 rfl rfl rfl rfl H160 (ball bk _ (Bank.run_ok l k) (H160.sep.all _ (by repeat (first | exact List.Mem.head _ | apply List.Mem.tail)))) ?_
            clear H160; intro v161 l161 a161 w161 hf161 H161
            obtain rfl := hf161
            simp only [List.cons_append, List.nil_append] at H161
            obtain ⟨A161, c161, hv161, hR161, hm161⟩ := row_shape (v := v161) H161.sep (List.Mem.head _)
            subst hv161
            refine st_callg rfl z_call26 rfl rfl rfl rfl H161 (numbers (Bank.run l k) (Bank.run l k) _ _ _ _ _ _ (Bank.run_ok l k).len.symm (Bank.run_ok l k).len.symm (Rd.ofSep (rd_row (by repeat (first | exact List.Mem.head _ | apply List.Mem.tail))) H161.sep) (Rd.ofSep (rd_row (by repeat (first | exact List.Mem.head _ | apply List.Mem.tail))) H161.sep) (by rw [(Bank.run_ok l k).len]; omega)) ?_
            clear H161; intro a162 w162 H162
            refine plain (y_assign rfl rfl) rfl rfl rfl H162 ?_
            clear H162; intro a163 H163
            refine fin ?_
            refine then_n ?_
            refine wp_ret ?_
            -- return 4
            refine ret1 rfl H163 rfl ?_
            exact ⟨_, [], rfl, ⟨congrArg Value.bool (decide_eq_true rfl), rfl⟩, H163.sep.sub (List.nil_sublist _)⟩

end Go.Proofs.Ytlaojmcpiggfeaa.TBankB
