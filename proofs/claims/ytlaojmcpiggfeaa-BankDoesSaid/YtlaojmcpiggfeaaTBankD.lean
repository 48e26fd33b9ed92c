/- Part of a proof about given Go functions: contracts of functions, or plain laws. -/
import Derived.Test.YtlaojmcpiggfeaaSxT
import Derived.Test.YtlaojmcpiggfeaaBankV
import Derived.Test.YtlaojmcpiggfeaaBank2
import Derived.Test.YtlaojmcpiggfeaaProg
import Derived.Test.YtlaojmcpiggfeaaTBank
import Derived.Test.YtlaojmcpiggfeaaTBank2
import Derived.Test.YtlaojmcpiggfeaaTBank3
import Derived.Test.YtlaojmcpiggfeaaTBank4
import Derived.Test.YtlaojmcpiggfeaaSxI
set_option linter.unusedVariables false
set_option linter.unusedSimpArgs false
namespace Go.Proofs.Ytlaojmcpiggfeaa.TBankD
open Go.Sx Go.RowKit Go.Proofs.Ytlaojmcpiggfeaa.TBank Go.Proofs.Ytlaojmcpiggfeaa.TBank2 Go.Proofs.Ytlaojmcpiggfeaa.TBank3 Go.Proofs.Ytlaojmcpiggfeaa.TBank4

theorem z_call19 : callB Try.prog 19 = true := by kernel_rfl
theorem z_call20 : callB Try.prog 20 = true := by kernel_rfl
theorem z_call21 : callB Try.prog 21 = true := by kernel_rfl
theorem z_size34 : sizeB Try.prog 34 = some 4 := by kernel_rfl
theorem z_field34_0 : fieldB Try.prog 34 0 = some 0 := by kernel_rfl
theorem z_agg3 : aggB Try.prog 3 = some false := by kernel_rfl
theorem z_field34_1 : fieldB Try.prog 34 1 = some 1 := by kernel_rfl
theorem z_field34_3 : fieldB Try.prog 34 3 = some 3 := by kernel_rfl
theorem z_call22 : callB Try.prog 22 = true := by kernel_rfl
theorem z_call23 : callB Try.prog 23 = true := by kernel_rfl
theorem z_field34_2 : fieldB Try.prog 34 2 = some 2 := by kernel_rfl
theorem z_call24 : callB Try.prog 24 = true := by kernel_rfl
theorem z_agg34 : aggB Try.prog 34 = some true := by kernel_rfl
theorem z_call25 : callB Try.prog 25 = true := by kernel_rfl
theorem z_field42_0 : fieldB Try.prog 42 0 = some 0 := by kernel_rfl
theorem z_agg39 : aggB Try.prog 39 = some false := by kernel_rfl
theorem z_call27 : callB Try.prog 27 = true := by kernel_rfl
theorem z_call26 : callB Try.prog 26 = true := by kernel_rfl
theorem z_call28 : callB Try.prog 28 = true := by kernel_rfl
theorem z_size3 : sizeB Try.prog 3 = some 1 := by kernel_rfl

set_option maxRecDepth 100000 in
set_option maxHeartbeats 4000000 in
theorem bankDoes (l : List Bank.Act) (A : Option Addr) (m c : Nat) (hm : m = l.length) (who : Int) (w : World) (hR : Rd w A (l.map Bank.cells).flatten) (hl : l.length ≤ 9223372036854775807) : Calls Try.prog 4 #[.slice A m c, .int .i64 who] w (Gives (.bool true) [] w) := by
  subst hm
  refine enterL (args := [.slice A l.length c, .int .i64 who]) Try.func4 rfl rfl (l := []) (Sep.refl _) ?_
  intro a0 H0
  refine wp_seq ?_
  refine reg ?_
  refine plain (y_assign rfl rfl) rfl rfl rfl H0 ?_
  clear H0; intro a1 H1
  refine fin ?_
  refine then_n ?_
  refine wp_seq ?_
  refine reg ?_
  refine st_call rfl z_call19 rfl rfl rfl rfl H1 (bnew _) ?_
  clear H1; intro v2 l2 a2 w2 hf2 H2
  obtain ⟨bk, rfl, rfl⟩ := hf2
  simp only [List.cons_append, List.nil_append] at H2
  refine st_call rfl z_call20 rfl rfl rfl rfl H2 (rnew _) ?_
  clear H2; intro v3 l3 a3 w3 hf3 H3
  obtain ⟨bx, g, rfl, rfl⟩ := hf3
  simp only [List.cons_append, List.nil_append] at H3
  have hne := H3.sep.ne2
  refine plain (y_assign rfl rfl) rfl rfl rfl H3 ?_
  clear H3; intro a4 H4
  refine plain (y_assign rfl rfl) rfl rfl rfl H4 ?_
  clear H4; intro a5 H5
  refine fin ?_
  refine then_n ?_
  refine wp_seq ?_
  refine wp_seq ?_
  refine reg ?_
  refine plain (y_move rfl rfl) rfl rfl rfl H5 ?_
  clear H5; intro a6 H6
  refine plain (y_peql rfl Try.underlying29 rfl rfl) rfl rfl rfl H6 ?_
  clear H6; intro a7 H7
  refine plain (y_move rfl rfl) rfl rfl rfl H7 ?_
  clear H7; intro a8 H8
  have H10 := H8.know (d := 13) (v := .bool false) rfl (rfl)
  clear H8
  refine st_callg rfl z_call21 rfl rfl rfl rfl H10 (awake _) ?_
  clear H10; intro a11 w11 H11
  refine plain (y_not rfl rfl) rfl rfl rfl H11 ?_
  clear H11; intro a12 H12
  refine plain (y_pick_f rfl rfl rfl) rfl rfl rfl H12 ?_
  clear H12; intro a13 H13
  refine fin ?_
  refine then_n ?_
  refine cnd_f H13 rfl ?_
  refine wp_skip ?_
  refine then_n ?_
  refine wp_seq ?_
  refine wp_seq ?_
  refine reg ?_
  refine plain (y_assign rfl rfl) rfl rfl rfl H13 ?_
  clear H13; intro a15 H15
  refine fin ?_
  refine then_n ?_
  refine wp_cut (fun aC wC => ∃ k : Nat, St Try.f4.ntmps [] w ([(1, .int .i64 who), (5, .pointer (some ⟨bk, 0, none⟩)), (6, .pointer (some ⟨bx, 0, none⟩))]) ([It.blk bx 42 [.slice (some ⟨g, 0, none⟩) 64 64], It.blk g 3 ((Bank.run l k).map i64), It.blk bk 69 ((Bank.run l k).map i64)]) aC wC) ?_ ?_
  · skip
    refine wp_block ?_
    refine loop (ι := Nat) (fun k => [(0, .slice A l.length c), (1, .int .i64 who), (5, .pointer (some ⟨bk, 0, none⟩)), (6, .pointer (some ⟨bx, 0, none⟩)), (7, .int .i64 (k : Int))]) (fun k => [It.blk bx 42 [.slice (some ⟨g, 0, none⟩) 64 64], It.blk g 3 ((Bank.run l k).map i64), It.blk bk 69 ((Bank.run l k).map i64)]) (fun k => k ≤ l.length ∧ k ≤ 200) (fun k => l.length - k) (0) (by omega) (H15.weak ⟨rfl, rfl, rfl, rfl, rfl, trivial⟩ rfl) ?_
    clear H15; intro k a16 w16 hok16 H16
    have hok := hok16
    refine wp_seq ?_
    refine wp_seq ?_
    refine reg ?_
    refine plain (y_move rfl rfl) rfl rfl rfl H16 ?_
    clear H16; intro a17 H17
    refine plain (y_move rfl rfl) rfl rfl rfl H17 ?_
    clear H17; intro a18 H18
    refine plain (y_len rfl Try.underlying28 rfl) rfl rfl rfl H18 ?_
    clear H18; intro a19 H19
    refine plain (y_lss rfl rfl rfl) rfl rfl rfl H19 ?_
    clear H19; intro a20 H20
    refine plain (y_move rfl rfl) rfl rfl rfl H20 ?_
    clear H20; intro a21 H21
    refine part_d (d := 21) H21 rfl (fun hg22 => ?_) (fun hg22 => ?_)
    · first
      | fail
      | skip
        clear H21; intro H23
        refine plain (y_move rfl rfl) rfl rfl rfl H23 ?_
        clear H23; intro a24 H24
        refine plain (y_lss rfl rfl rfl) rfl rfl rfl H24 ?_
        clear H24; intro a25 H25
        refine plain (y_pick_t rfl rfl rfl) rfl rfl rfl H25 ?_
        clear H25; intro a26 H26
        refine fin ?_
        refine then_n ?_
        refine cnd_d H26 rfl (fun hc27 => ?_) (fun hc27 => ?_) -- cond 2
        · skip
          refine wp_skip ?_
          refine then_n ?_
          refine wp_seq ?_
          refine wp_block ?_
          refine wp_seq ?_
          refine reg ?_
          refine plain (y_assign rfl rfl) rfl rfl rfl H26 ?_
          clear H26; intro a28 H28
          refine fin ?_
          refine then_n ?_
          refine wp_seq ?_
          refine wp_seq ?_
          refine reg ?_
          refine plain (y_move rfl rfl) rfl rfl rfl H28 ?_
          clear H28; intro a29 H29
          refine plain (y_move rfl rfl) rfl rfl rfl H29 ?_
          clear H29; intro a30 H30
          refine plain (y_ixR rfl Try.underlying28 z_size34 rfl rfl (by omega) (by omega) (rd_old (by assumption) (by simp)) (by first | (rw [flat_len Bank.cells_len]; omega) | (simp; omega))) rfl rfl rfl H30 ?_
          clear H30; intro a31 H31
          refine plain (y_fieldS rfl z_field34_0 rfl (rd_old (by assumption) (by simp)) (by first | (rw [flat_len Bank.cells_len]; omega) | (simp; omega))) rfl rfl rfl H31 ?_
          clear H31; intro a32 H32
          refine plain (y_loadR rfl z_agg3 rfl (rd_old (by assumption) (by simp)) (flat_cellI Bank.cells_len Bank.A0 l k 0 (by omega) (by decide) rfl)) rfl rfl rfl H32 ?_
          clear H32; intro a33 H33
          refine fin ?_
          refine then_n ?_
          refine wp_cut (fun aC wC => St Try.f4.ntmps [] w ([(0, .slice A l.length c), (1, .int .i64 who), (5, .pointer (some ⟨bk, 0, none⟩)), (6, .pointer (some ⟨bx, 0, none⟩)), (7, .int .i64 (k : Int)), (8, .int .i64 (Bank.doo (Bank.run l k) (l.getD k Bank.A0)).1)]) ([It.blk bx 42 [.slice (some ⟨g, 0, none⟩) 64 64], It.blk g 3 ((Bank.doo (Bank.run l k) (l.getD k Bank.A0)).2.map i64), It.blk bk 69 ((Bank.run l k).map i64)]) aC wC) ?_ ?_
          · skip
            refine wp_block ?_
            refine wp_seq ?_
            refine wp_seq ?_
            refine reg ?_
            refine plain (y_eql rfl rfl rfl) rfl rfl rfl H33 ?_
            clear H33; intro a34 H34
            refine plain (y_assign rfl rfl) rfl rfl rfl H34 ?_
            clear H34; intro a35 H35
            refine fin ?_
            refine then_n ?_
            refine cnd_d H35 rfl (fun hc36 => ?_) (fun hc36 => ?_) -- cond 3
            · first
              | (exfalso; omega)
              | skip
                refine wp_skip ?_
                refine then_n ?_
                refine cnd_d H35 rfl (fun hc37 => ?_) (fun hc37 => ?_) -- cond 4
                · first
                  | (exfalso; omega)
                  | skip
                    refine treg 11 (by kernel_rfl) (by kernel_rfl) H35 ?_
                    clear H35; intro w38 H38
                    refine tplain (y_move rfl rfl) rfl rfl rfl H38 ?_
                    clear H38; intro a39 H39
                    refine tplain (y_move rfl rfl) rfl rfl rfl H39 ?_
                    clear H39; intro a40 H40
                    refine tplain (y_move rfl rfl) rfl rfl rfl H40 ?_
                    clear H40; intro a41 H41
                    refine tplain (y_ixR rfl Try.underlying28 z_size34 rfl rfl (by omega) (by omega) (rd_old (by assumption) (by simp)) (by first | (rw [flat_len Bank.cells_len]; omega) | (simp; omega))) rfl rfl rfl H41 ?_
                    clear H41; intro a42 H42
                    refine tplain (y_fieldS rfl z_field34_1 rfl (rd_old (by assumption) (by simp)) (by first | (rw [flat_len Bank.cells_len]; omega) | (simp; omega))) rfl rfl rfl H42 ?_
                    clear H42; intro a43 H43
                    refine tplain (y_loadR rfl z_agg3 rfl (rd_old (by assumption) (by simp)) (flat_cellI Bank.cells_len Bank.A0 l k 1 (by omega) (by decide) rfl)) rfl rfl rfl H43 ?_
                    clear H43; intro a44 H44
                    refine tplain (y_move rfl rfl) rfl rfl rfl H44 ?_
                    clear H44; intro a45 H45
                    refine tplain (y_move rfl rfl) rfl rfl rfl H45 ?_
                    clear H45; intro a46 H46
                    refine tplain (y_ixR rfl Try.underlying28 z_size34 rfl rfl (by omega) (by omega) (rd_old (by assumption) (by simp)) (by first | (rw [flat_len Bank.cells_len]; omega) | (simp; omega))) rfl rfl rfl H46 ?_
                    clear H46; intro a47 H47
                    refine tplain (y_fieldS rfl z_field34_3 rfl (rd_old (by assumption) (by simp)) (by first | (rw [flat_len Bank.cells_len]; omega) | (simp; omega))) rfl rfl rfl H47 ?_
                    clear H47; intro a48 H48
                    refine tplain (y_loadR rfl z_agg3 rfl (rd_old (by assumption) (by simp)) (flat_cellI Bank.cells_len Bank.A0 l k 3 (by omega) (by decide) rfl)) rfl rfl rfl H48 ?_
                    clear H48; intro a49 H49
                    refine tfin ?_
                    refine st_callu rfl z_call22 rfl rfl rfl rfl H49 (rput bx g hne _ (Bank.run_ok l k) _ _ (H49.sep.all _ (by repeat (first | exact List.Mem.head _ | apply List.Mem.tail))) (H49.sep.all _ (by repeat (first | exact List.Mem.head _ | apply List.Mem.tail)))) (by repeat (first | exact Upd.head _ _ _ | apply Upd.tail)) ?_
                    clear H49; intro a50 w50 H50
                    refine plain (y_assign rfl rfl) rfl rfl rfl H50 ?_
                    clear H50; intro a51 H51
                    refine fin ?_
                    refine inb_n ?_
                    refine cut_n ?_
                    first | (have hd := Bank.doo_put (L := (Bank.run l k)) (c := (l.getD k Bank.A0)) (by omega); exact H51.weak ⟨rfl, rfl, rfl, rfl, rfl, fi rfl (by rw [hd]), trivial⟩ (by rw [hd])) | (have hd := Bank.doo_take (L := (Bank.run l k)) (c := (l.getD k Bank.A0)) (by omega); exact H51.weak ⟨rfl, rfl, rfl, rfl, rfl, fi rfl (by rw [hd]), trivial⟩ (by rw [hd])) | (have hd := Bank.doo_move (L := (Bank.run l k)) (c := (l.getD k Bank.A0)) (by omega) (by omega); exact H51.weak ⟨rfl, rfl, rfl, rfl, rfl, fi rfl (by rw [hd]), trivial⟩ (by rw [hd]))
                · first
                  | (exfalso; omega)
                  | skip
                    refine wp_seq ?_
                    refine reg ?_
                    refine plain (y_eql rfl rfl rfl) rfl rfl rfl H35 ?_
                    clear H35; intro a52 H52
                    refine plain (y_assign rfl rfl) rfl rfl rfl H52 ?_
                    clear H52; intro a53 H53
                    refine fin ?_
                    refine then_n ?_
                    refine cnd_d H53 rfl (fun hc54 => ?_) (fun hc54 => ?_) -- cond 5
                    · first
                      | (exfalso; omega)
                      | skip
                        refine treg 11 (by kernel_rfl) (by kernel_rfl) H53 ?_
                        clear H53; intro w55 H55
                        refine tplain (y_move rfl rfl) rfl rfl rfl H55 ?_
                        clear H55; intro a56 H56
                        refine tplain (y_move rfl rfl) rfl rfl rfl H56 ?_
                        clear H56; intro a57 H57
                        refine tplain (y_move rfl rfl) rfl rfl rfl H57 ?_
                        clear H57; intro a58 H58
                        refine tplain (y_ixR rfl Try.underlying28 z_size34 rfl rfl (by omega) (by omega) (rd_old (by assumption) (by simp)) (by first | (rw [flat_len Bank.cells_len]; omega) | (simp; omega))) rfl rfl rfl H58 ?_
                        clear H58; intro a59 H59
                        refine tplain (y_fieldS rfl z_field34_1 rfl (rd_old (by assumption) (by simp)) (by first | (rw [flat_len Bank.cells_len]; omega) | (simp; omega))) rfl rfl rfl H59 ?_
                        clear H59; intro a60 H60
                        refine tplain (y_loadR rfl z_agg3 rfl (rd_old (by assumption) (by simp)) (flat_cellI Bank.cells_len Bank.A0 l k 1 (by omega) (by decide) rfl)) rfl rfl rfl H60 ?_
                        clear H60; intro a61 H61
                        refine tplain (y_move rfl rfl) rfl rfl rfl H61 ?_
                        clear H61; intro a62 H62
                        refine tplain (y_move rfl rfl) rfl rfl rfl H62 ?_
                        clear H62; intro a63 H63
                        refine tplain (y_ixR rfl Try.underlying28 z_size34 rfl rfl (by omega) (by omega) (rd_old (by assumption) (by simp)) (by first | (rw [flat_len Bank.cells_len]; omega) | (simp; omega))) rfl rfl rfl H63 ?_
                        clear H63; intro a64 H64
                        refine tplain (y_fieldS rfl z_field34_3 rfl (rd_old (by assumption) (by simp)) (by first | (rw [flat_len Bank.cells_len]; omega) | (simp; omega))) rfl rfl rfl H64 ?_
                        clear H64; intro a65 H65
                        refine tplain (y_loadR rfl z_agg3 rfl (rd_old (by assumption) (by simp)) (flat_cellI Bank.cells_len Bank.A0 l k 3 (by omega) (by decide) rfl)) rfl rfl rfl H65 ?_
                        clear H65; intro a66 H66
                        refine tfin ?_
                        refine st_callu rfl z_call23 rfl rfl rfl rfl H66 (rtake bx g hne _ (Bank.run_ok l k) _ _ (H66.sep.all _ (by repeat (first | exact List.Mem.head _ | apply List.Mem.tail))) (H66.sep.all _ (by repeat (first | exact List.Mem.head _ | apply List.Mem.tail)))) (by repeat (first | exact Upd.head _ _ _ | apply Upd.tail)) ?_
                        clear H66; intro a67 w67 H67
                        refine plain (y_assign rfl rfl) rfl rfl rfl H67 ?_
                        clear H67; intro a68 H68
                        refine fin ?_
                        refine inb_n ?_
                        refine cut_n ?_
                        first | (have hd := Bank.doo_put (L := (Bank.run l k)) (c := (l.getD k Bank.A0)) (by omega); exact H68.weak ⟨rfl, rfl, rfl, rfl, rfl, fi rfl (by rw [hd]), trivial⟩ (by rw [hd])) | (have hd := Bank.doo_take (L := (Bank.run l k)) (c := (l.getD k Bank.A0)) (by omega); exact H68.weak ⟨rfl, rfl, rfl, rfl, rfl, fi rfl (by rw [hd]), trivial⟩ (by rw [hd])) | (have hd := Bank.doo_move (L := (Bank.run l k)) (c := (l.getD k Bank.A0)) (by omega) (by omega); exact H68.weak ⟨rfl, rfl, rfl, rfl, rfl, fi rfl (by rw [hd]), trivial⟩ (by rw [hd]))
                    · first
                      | (exfalso; omega)
                      | skip
                        refine treg 16 (by kernel_rfl) (by kernel_rfl) H53 ?_
                        clear H53; intro w69 H69
                        refine tplain (y_move rfl rfl) rfl rfl rfl H69 ?_
                        clear H69; intro a70 H70
                        refine tplain (y_move rfl rfl) rfl rfl rfl H70 ?_
                        clear H70; intro a71 H71
                        refine tplain (y_move rfl rfl) rfl rfl rfl H71 ?_
                        clear H71; intro a72 H72
                        refine tplain (y_ixR rfl Try.underlying28 z_size34 rfl rfl (by omega) (by omega) (rd_old (by assumption) (by simp)) (by first | (rw [flat_len Bank.cells_len]; omega) | (simp; omega))) rfl rfl rfl H72 ?_
                        clear H72; intro a73 H73
                        refine tplain (y_fieldS rfl z_field34_1 rfl (rd_old (by assumption) (by simp)) (by first | (rw [flat_len Bank.cells_len]; omega) | (simp; omega))) rfl rfl rfl H73 ?_
                        clear H73; intro a74 H74
                        refine tplain (y_loadR rfl z_agg3 rfl (rd_old (by assumption) (by simp)) (flat_cellI Bank.cells_len Bank.A0 l k 1 (by omega) (by decide) rfl)) rfl rfl rfl H74 ?_
                        clear H74; intro a75 H75
                        refine tplain (y_move rfl rfl) rfl rfl rfl H75 ?_
                        clear H75; intro a76 H76
                        refine tplain (y_move rfl rfl) rfl rfl rfl H76 ?_
                        clear H76; intro a77 H77
                        refine tplain (y_ixR rfl Try.underlying28 z_size34 rfl rfl (by omega) (by omega) (rd_old (by assumption) (by simp)) (by first | (rw [flat_len Bank.cells_len]; omega) | (simp; omega))) rfl rfl rfl H77 ?_
                        clear H77; intro a78 H78
                        refine tplain (y_fieldS rfl z_field34_2 rfl (rd_old (by assumption) (by simp)) (by first | (rw [flat_len Bank.cells_len]; omega) | (simp; omega))) rfl rfl rfl H78 ?_
                        clear H78; intro a79 H79
                        refine tplain (y_loadR rfl z_agg3 rfl (rd_old (by assumption) (by simp)) (flat_cellI Bank.cells_len Bank.A0 l k 2 (by omega) (by decide) rfl)) rfl rfl rfl H79 ?_
                        clear H79; intro a80 H80
                        refine tplain (y_move rfl rfl) rfl rfl rfl H80 ?_
                        clear H80; intro a81 H81
                        refine tplain (y_move rfl rfl) rfl rfl rfl H81 ?_
                        clear H81; intro a82 H82
                        refine tplain (y_ixR rfl Try.underlying28 z_size34 rfl rfl (by omega) (by omega) (rd_old (by assumption) (by simp)) (by first | (rw [flat_len Bank.cells_len]; omega) | (simp; omega))) rfl rfl rfl H82 ?_
                        clear H82; intro a83 H83
                        refine tplain (y_fieldS rfl z_field34_3 rfl (rd_old (by assumption) (by simp)) (by first | (rw [flat_len Bank.cells_len]; omega) | (simp; omega))) rfl rfl rfl H83 ?_
                        clear H83; intro a84 H84
                        refine tplain (y_loadR rfl z_agg3 rfl (rd_old (by assumption) (by simp)) (flat_cellI Bank.cells_len Bank.A0 l k 3 (by omega) (by decide) rfl)) rfl rfl rfl H84 ?_
                        clear H84; intro a85 H85
                        refine tfin ?_
                        refine st_callu rfl z_call24 rfl rfl rfl rfl H85 (rmove bx g hne _ (Bank.run_ok l k) _ _ _ (H85.sep.all _ (by repeat (first | exact List.Mem.head _ | apply List.Mem.tail))) (H85.sep.all _ (by repeat (first | exact List.Mem.head _ | apply List.Mem.tail)))) (by repeat (first | exact Upd.head _ _ _ | apply Upd.tail)) ?_
                        clear H85; intro a86 w86 H86
                        refine plain (y_assign rfl rfl) rfl rfl rfl H86 ?_
                        clear H86; intro a87 H87
                        refine fin ?_
                        refine inb_n ?_
                        refine cut_n ?_
                        first | (have hd := Bank.doo_put (L := (Bank.run l k)) (c := (l.getD k Bank.A0)) (by omega); exact H87.weak ⟨rfl, rfl, rfl, rfl, rfl, fi rfl (by rw [hd]), trivial⟩ (by rw [hd])) | (have hd := Bank.doo_take (L := (Bank.run l k)) (c := (l.getD k Bank.A0)) (by omega); exact H87.weak ⟨rfl, rfl, rfl, rfl, rfl, fi rfl (by rw [hd]), trivial⟩ (by rw [hd])) | (have hd := Bank.doo_move (L := (Bank.run l k)) (c := (l.getD k Bank.A0)) (by omega) (by omega); exact H87.weak ⟨rfl, rfl, rfl, rfl, rfl, fi rfl (by rw [hd]), trivial⟩ (by rw [hd]))
            · first
              | (exfalso; omega)
              | skip
                refine reg ?_
                refine plain (y_eql rfl rfl rfl) rfl rfl rfl H35 ?_
                clear H35; intro a88 H88
                refine plain (y_assign rfl rfl) rfl rfl rfl H88 ?_
                clear H88; intro a89 H89
                refine fin ?_
                refine then_n ?_
                refine cnd_d H89 rfl (fun hc90 => ?_) (fun hc90 => ?_) -- cond 6
                · first
                  | (exfalso; omega)
                  | skip
                    refine treg 11 (by kernel_rfl) (by kernel_rfl) H89 ?_
                    clear H89; intro w91 H91
                    refine tplain (y_move rfl rfl) rfl rfl rfl H91 ?_
                    clear H91; intro a92 H92
                    refine tplain (y_move rfl rfl) rfl rfl rfl H92 ?_
                    clear H92; intro a93 H93
                    refine tplain (y_move rfl rfl) rfl rfl rfl H93 ?_
                    clear H93; intro a94 H94
                    refine tplain (y_ixR rfl Try.underlying28 z_size34 rfl rfl (by omega) (by omega) (rd_old (by assumption) (by simp)) (by first | (rw [flat_len Bank.cells_len]; omega) | (simp; omega))) rfl rfl rfl H94 ?_
                    clear H94; intro a95 H95
                    refine tplain (y_fieldS rfl z_field34_1 rfl (rd_old (by assumption) (by simp)) (by first | (rw [flat_len Bank.cells_len]; omega) | (simp; omega))) rfl rfl rfl H95 ?_
                    clear H95; intro a96 H96
                    refine tplain (y_loadR rfl z_agg3 rfl (rd_old (by assumption) (by simp)) (flat_cellI Bank.cells_len Bank.A0 l k 1 (by omega) (by decide) rfl)) rfl rfl rfl H96 ?_
                    clear H96; intro a97 H97
                    refine tplain (y_move rfl rfl) rfl rfl rfl H97 ?_
                    clear H97; intro a98 H98
                    refine tplain (y_move rfl rfl) rfl rfl rfl H98 ?_
                    clear H98; intro a99 H99
                    refine tplain (y_ixR rfl Try.underlying28 z_size34 rfl rfl (by omega) (by omega) (rd_old (by assumption) (by simp)) (by first | (rw [flat_len Bank.cells_len]; omega) | (simp; omega))) rfl rfl rfl H99 ?_
                    clear H99; intro a100 H100
                    refine tplain (y_fieldS rfl z_field34_3 rfl (rd_old (by assumption) (by simp)) (by first | (rw [flat_len Bank.cells_len]; omega) | (simp; omega))) rfl rfl rfl H100 ?_
                    clear H100; intro a101 H101
                    refine tplain (y_loadR rfl z_agg3 rfl (rd_old (by assumption) (by simp)) (flat_cellI Bank.cells_len Bank.A0 l k 3 (by omega) (by decide) rfl)) rfl rfl rfl H101 ?_
                    clear H101; intro a102 H102
                    refine tfin ?_
                    refine st_callu rfl z_call22 rfl rfl rfl rfl H102 (rput bx g hne _ (Bank.run_ok l k) _ _ (H102.sep.all _ (by repeat (first | exact List.Mem.head _ | apply List.Mem.tail))) (H102.sep.all _ (by repeat (first | exact List.Mem.head _ | apply List.Mem.tail)))) (by repeat (first | exact Upd.head _ _ _ | apply Upd.tail)) ?_
                    clear H102; intro a103 w103 H103
                    refine plain (y_assign rfl rfl) rfl rfl rfl H103 ?_
                    clear H103; intro a104 H104
                    refine fin ?_
                    refine inb_n ?_
                    refine cut_n ?_
                    first | (have hd := Bank.doo_put (L := (Bank.run l k)) (c := (l.getD k Bank.A0)) (by omega); exact H104.weak ⟨rfl, rfl, rfl, rfl, rfl, fi rfl (by rw [hd]), trivial⟩ (by rw [hd])) | (have hd := Bank.doo_take (L := (Bank.run l k)) (c := (l.getD k Bank.A0)) (by omega); exact H104.weak ⟨rfl, rfl, rfl, rfl, rfl, fi rfl (by rw [hd]), trivial⟩ (by rw [hd])) | (have hd := Bank.doo_move (L := (Bank.run l k)) (c := (l.getD k Bank.A0)) (by omega) (by omega); exact H104.weak ⟨rfl, rfl, rfl, rfl, rfl, fi rfl (by rw [hd]), trivial⟩ (by rw [hd]))
                · first
                  | (exfalso; omega)
                  | skip
                    refine wp_seq ?_
                    refine reg ?_
                    refine plain (y_eql rfl rfl rfl) rfl rfl rfl H89 ?_
                    clear H89; intro a105 H105
                    refine plain (y_assign rfl rfl) rfl rfl rfl H105 ?_
                    clear H105; intro a106 H106
                    refine fin ?_
                    refine then_n ?_
                    refine cnd_d H106 rfl (fun hc107 => ?_) (fun hc107 => ?_) -- cond 7
                    · first
                      | (exfalso; omega)
                      | skip
                        refine treg 11 (by kernel_rfl) (by kernel_rfl) H106 ?_
                        clear H106; intro w108 H108
                        refine tplain (y_move rfl rfl) rfl rfl rfl H108 ?_
                        clear H108; intro a109 H109
                        refine tplain (y_move rfl rfl) rfl rfl rfl H109 ?_
                        clear H109; intro a110 H110
                        refine tplain (y_move rfl rfl) rfl rfl rfl H110 ?_
                        clear H110; intro a111 H111
                        refine tplain (y_ixR rfl Try.underlying28 z_size34 rfl rfl (by omega) (by omega) (rd_old (by assumption) (by simp)) (by first | (rw [flat_len Bank.cells_len]; omega) | (simp; omega))) rfl rfl rfl H111 ?_
                        clear H111; intro a112 H112
                        refine tplain (y_fieldS rfl z_field34_1 rfl (rd_old (by assumption) (by simp)) (by first | (rw [flat_len Bank.cells_len]; omega) | (simp; omega))) rfl rfl rfl H112 ?_
                        clear H112; intro a113 H113
                        refine tplain (y_loadR rfl z_agg3 rfl (rd_old (by assumption) (by simp)) (flat_cellI Bank.cells_len Bank.A0 l k 1 (by omega) (by decide) rfl)) rfl rfl rfl H113 ?_
                        clear H113; intro a114 H114
                        refine tplain (y_move rfl rfl) rfl rfl rfl H114 ?_
                        clear H114; intro a115 H115
                        refine tplain (y_move rfl rfl) rfl rfl rfl H115 ?_
                        clear H115; intro a116 H116
                        refine tplain (y_ixR rfl Try.underlying28 z_size34 rfl rfl (by omega) (by omega) (rd_old (by assumption) (by simp)) (by first | (rw [flat_len Bank.cells_len]; omega) | (simp; omega))) rfl rfl rfl H116 ?_
                        clear H116; intro a117 H117
                        refine tplain (y_fieldS rfl z_field34_3 rfl (rd_old (by assumption) (by simp)) (by first | (rw [flat_len Bank.cells_len]; omega) | (simp; omega))) rfl rfl rfl H117 ?_
                        clear H117; intro a118 H118
                        refine tplain (y_loadR rfl z_agg3 rfl (rd_old (by assumption) (by simp)) (flat_cellI Bank.cells_len Bank.A0 l k 3 (by omega) (by decide) rfl)) rfl rfl rfl H118 ?_
                        clear H118; intro a119 H119
                        refine tfin ?_
                        refine st_callu rfl z_call23 rfl rfl rfl rfl H119 (rtake bx g hne _ (Bank.run_ok l k) _ _ (H119.sep.all _ (by repeat (first | exact List.Mem.head _ | apply List.Mem.tail))) (H119.sep.all _ (by repeat (first | exact List.Mem.head _ | apply List.Mem.tail)))) (by repeat (first | exact Upd.head _ _ _ | apply Upd.tail)) ?_
                        clear H119; intro a120 w120 H120
                        refine plain (y_assign rfl rfl) rfl rfl rfl H120 ?_
                        clear H120; intro a121 H121
                        refine fin ?_
                        refine inb_n ?_
                        refine cut_n ?_
                        first | (have hd := Bank.doo_put (L := (Bank.run l k)) (c := (l.getD k Bank.A0)) (by omega); exact H121.weak ⟨rfl, rfl, rfl, rfl, rfl, fi rfl (by rw [hd]), trivial⟩ (by rw [hd])) | (have hd := Bank.doo_take (L := (Bank.run l k)) (c := (l.getD k Bank.A0)) (by omega); exact H121.weak ⟨rfl, rfl, rfl, rfl, rfl, fi rfl (by rw [hd]), trivial⟩ (by rw [hd])) | (have hd := Bank.doo_move (L := (Bank.run l k)) (c := (l.getD k Bank.A0)) (by omega) (by omega); exact H121.weak ⟨rfl, rfl, rfl, rfl, rfl, fi rfl (by rw [hd]), trivial⟩ (by rw [hd]))
                    · first
                      | (exfalso; omega)
                      | skip
                        refine treg 16 (by kernel_rfl) (by kernel_rfl) H106 ?_
                        clear H106; intro w122 H122
                        refine tplain (y_move rfl rfl) rfl rfl rfl H122 ?_
                        clear H122; intro a123 H123
                        refine tplain (y_move rfl rfl) rfl rfl rfl H123 ?_
                        clear H123; intro a124 H124
                        refine tplain (y_move rfl rfl) rfl rfl rfl H124 ?_
                        clear H124; intro a125 H125
                        refine tplain (y_ixR rfl Try.underlying28 z_size34 rfl rfl (by omega) (by omega) (rd_old (by assumption) (by simp)) (by first | (rw [flat_len Bank.cells_len]; omega) | (simp; omega))) rfl rfl rfl H125 ?_
                        clear H125; intro a126 H126
                        refine tplain (y_fieldS rfl z_field34_1 rfl (rd_old (by assumption) (by simp)) (by first | (rw [flat_len Bank.cells_len]; omega) | (simp; omega))) rfl rfl rfl H126 ?_
                        clear H126; intro a127 H127
                        refine tplain (y_loadR rfl z_agg3 rfl (rd_old (by assumption) (by simp)) (flat_cellI Bank.cells_len Bank.A0 l k 1 (by omega) (by decide) rfl)) rfl rfl rfl H127 ?_
                        clear H127; intro a128 H128
                        refine tplain (y_move rfl rfl) rfl rfl rfl H128 ?_
                        clear H128; intro a129 H129
                        refine tplain (y_move rfl rfl) rfl rfl rfl H129 ?_
                        clear H129; intro a130 H130
                        refine tplain (y_ixR rfl Try.underlying28 z_size34 rfl rfl (by omega) (by omega) (rd_old (by assumption) (by simp)) (by first | (rw [flat_len Bank.cells_len]; omega) | (simp; omega))) rfl rfl rfl H130 ?_
                        clear H130; intro a131 H131
                        refine tplain (y_fieldS rfl z_field34_2 rfl (rd_old (by assumption) (by simp)) (by first | (rw [flat_len Bank.cells_len]; omega) | (simp; omega))) rfl rfl rfl H131 ?_
                        clear H131; intro a132 H132
                        refine tplain (y_loadR rfl z_agg3 rfl (rd_old (by assumption) (by simp)) (flat_cellI Bank.cells_len Bank.A0 l k 2 (by omega) (by decide) rfl)) rfl rfl rfl H132 ?_
                        clear H132; intro a133 H133
                        refine tplain (y_move rfl rfl) rfl rfl rfl H133 ?_
                        clear H133; intro a134 H134
                        refine tplain (y_move rfl rfl) rfl rfl rfl H134 ?_
                        clear H134; intro a135 H135
                        refine tplain (y_ixR rfl Try.underlying28 z_size34 rfl rfl (by omega) (by omega) (rd_old (by assumption) (by simp)) (by first | (rw [flat_len Bank.cells_len]; omega) | (simp; omega))) rfl rfl rfl H135 ?_
                        clear H135; intro a136 H136
                        refine tplain (y_fieldS rfl z_field34_3 rfl (rd_old (by assumption) (by simp)) (by first | (rw [flat_len Bank.cells_len]; omega) | (simp; omega))) rfl rfl rfl H136 ?_
                        clear H136; intro a137 H137
                        refine tplain (y_loadR rfl z_agg3 rfl (rd_old (by assumption) (by simp)) (flat_cellI Bank.cells_len Bank.A0 l k 3 (by omega) (by decide) rfl)) rfl rfl rfl H137 ?_
                        clear H137; intro a138 H138
                        refine tfin ?_
                        refine st_callu rfl z_call24 rfl rfl rfl rfl H138 (rmove bx g hne _ (Bank.run_ok l k) _ _ _ (H138.sep.all _ (by repeat (first | exact List.Mem.head _ | apply List.Mem.tail))) (H138.sep.all _ (by repeat (first | exact List.Mem.head _ | apply List.Mem.tail)))) (by repeat (first | exact Upd.head _ _ _ | apply Upd.tail)) ?_
                        clear H138; intro a139 w139 H139
                        refine plain (y_assign rfl rfl) rfl rfl rfl H139 ?_
                        clear H139; intro a140 H140
                        refine fin ?_
                        refine inb_n ?_
                        refine cut_n ?_
                        first | (have hd := Bank.doo_put (L := (Bank.run l k)) (c := (l.getD k Bank.A0)) (by omega); exact H140.weak ⟨rfl, rfl, rfl, rfl, rfl, fi rfl (by rw [hd]), trivial⟩ (by rw [hd])) | (have hd := Bank.doo_take (L := (Bank.run l k)) (c := (l.getD k Bank.A0)) (by omega); exact H140.weak ⟨rfl, rfl, rfl, rfl, rfl, fi rfl (by rw [hd]), trivial⟩ (by rw [hd])) | (have hd := Bank.doo_move (L := (Bank.run l k)) (c := (l.getD k Bank.A0)) (by omega) (by omega); exact H140.weak ⟨rfl, rfl, rfl, rfl, rfl, fi rfl (by rw [hd]), trivial⟩ (by rw [hd]))
          · clear H33; intro a141 w141 hI141
            have H141 := hI141
            refine then_n ?_
            refine wp_seq ?_
            refine hreg [It.blk bx 42 [.slice (some ⟨g, 0, none⟩) 64 64], It.blk g 3 ((Bank.doo (Bank.run l k) (l.getD k Bank.A0)).2.map i64)] (by first | exact List.nil_sublist _ | exact List.Sublist.refl _ | repeat (first | exact List.Sublist.refl _ | exact List.nil_sublist _ | apply List.Sublist.cons_cons | apply List.Sublist.cons)) (by kernel_rfl) H141 ?_
            clear H141; intro w142 H142
            refine htake 0 rfl (by kernel_rfl) (y_move rfl rfl) rfl rfl rfl (by first | exact List.nil_sublist _ | exact List.Sublist.refl _ | repeat (first | exact List.Sublist.refl _ | exact List.nil_sublist _ | apply List.Sublist.cons_cons | apply List.Sublist.cons)) H142 ?_
            clear H142; intro a143 H143
            refine htake 1 rfl (by kernel_rfl) (y_move rfl rfl) rfl rfl rfl (by first | exact List.nil_sublist _ | exact List.Sublist.refl _ | repeat (first | exact List.Sublist.refl _ | exact List.nil_sublist _ | apply List.Sublist.cons_cons | apply List.Sublist.cons)) H143 ?_
            clear H143; intro a144 H144
            refine htake 2 rfl (by kernel_rfl) (y_move rfl rfl) rfl rfl rfl (by first | exact List.nil_sublist _ | exact List.Sublist.refl _ | repeat (first | exact List.Sublist.refl _ | exact List.nil_sublist _ | apply List.Sublist.cons_cons | apply List.Sublist.cons)) H144 ?_
            clear H144; intro a145 H145
            refine htake 3 rfl (by kernel_rfl) (y_ixR rfl Try.underlying28 z_size34 rfl rfl (by omega) (by omega) (rd_old (by assumption) (by simp)) (by first | (rw [flat_len Bank.cells_len]; omega) | (simp; omega))) rfl rfl rfl (by first | exact List.nil_sublist _ | exact List.Sublist.refl _ | repeat (first | exact List.Sublist.refl _ | exact List.nil_sublist _ | apply List.Sublist.cons_cons | apply List.Sublist.cons)) H145 ?_
            clear H145; intro a146 H146
            refine htake 4 rfl (by kernel_rfl) (y_loadAS rfl z_agg34 z_size34 rfl (rd_old (by assumption) (by simp)) (flat_takeI Bank.cells_len Bank.A0 l k (by omega)) rfl (by decide)) rfl rfl rfl (by first | exact List.nil_sublist _ | exact List.Sublist.refl _ | repeat (first | exact List.Sublist.refl _ | exact List.nil_sublist _ | apply List.Sublist.cons_cons | apply List.Sublist.cons)) H146 ?_
            clear H146; intro a147 H147
            refine htake 6 rfl (by kernel_rfl) (y_move rfl rfl) rfl rfl rfl (by first | exact List.nil_sublist _ | exact List.Sublist.refl _ | repeat (first | exact List.Sublist.refl _ | exact List.nil_sublist _ | apply List.Sublist.cons_cons | apply List.Sublist.cons)) H147 ?_
            clear H147; intro a148 H148
            refine hgo 5 rfl (by kernel_rfl) ?_
            refine st_callu rfl z_call25 rfl rfl rfl rfl H148 (bdo bk _ (Bank.run_ok l k) (l.getD k Bank.A0) (H148.sep.all _ (by repeat (first | exact List.Mem.head _ | apply List.Mem.tail)))) (by repeat (first | exact Upd.head _ _ _ | apply Upd.tail)) ?_
            clear H148; intro a149 w149 H149
            refine hfin (H149.sep.sub (by first | exact List.nil_sublist _ | exact List.Sublist.refl _ | repeat (first | exact List.Sublist.refl _ | exact List.nil_sublist _ | apply List.Sublist.cons_cons | apply List.Sublist.cons))) ?_
            refine htake 7 rfl (by kernel_rfl) (y_neq rfl rfl rfl) rfl rfl rfl (by first | exact List.nil_sublist _ | exact List.Sublist.refl _ | repeat (first | exact List.Sublist.refl _ | exact List.nil_sublist _ | apply List.Sublist.cons_cons | apply List.Sublist.cons)) H149 ?_
            clear H149; intro a150 H150
            refine htake 8 rfl (by kernel_rfl) (y_move rfl rfl) rfl rfl rfl (by first | exact List.nil_sublist _ | exact List.Sublist.refl _ | repeat (first | exact List.Sublist.refl _ | exact List.nil_sublist _ | apply List.Sublist.cons_cons | apply List.Sublist.cons)) H150 ?_
            clear H150; intro a151 H151
            have H153 := H151.know (d := 86) (v := .bool false) rfl (congrArg Value.bool (decide_eq_false (by simp)))
            clear H151
            refine htake 9 rfl (by kernel_rfl) (y_move rfl rfl) rfl rfl rfl (by first | exact List.nil_sublist _ | exact List.Sublist.refl _ | repeat (first | exact List.Sublist.refl _ | exact List.nil_sublist _ | apply List.Sublist.cons_cons | apply List.Sublist.cons)) H153 ?_
            clear H153; intro a154 H154
            refine htake 11 rfl (by kernel_rfl) (y_move rfl rfl) rfl rfl rfl (by first | exact List.nil_sublist _ | exact List.Sublist.refl _ | repeat (first | exact List.Sublist.refl _ | exact List.nil_sublist _ | apply List.Sublist.cons_cons | apply List.Sublist.cons)) H154 ?_
            clear H154; intro a155 H155
            refine htake 12 rfl (by kernel_rfl) (y_nilCheck rfl rfl) rfl rfl rfl (by first | exact List.nil_sublist _ | exact List.Sublist.refl _ | repeat (first | exact List.Sublist.refl _ | exact List.nil_sublist _ | apply List.Sublist.cons_cons | apply List.Sublist.cons)) H155 ?_
            clear H155; intro a156 H156
            refine htake 13 rfl (by kernel_rfl) (y_fieldB rfl z_field42_0 rfl (by first | (simp only [Nat.zero_add, Nat.add_zero, Nat.reduceAdd]; rfl) | rfl)) rfl rfl rfl (by first | exact List.nil_sublist _ | exact List.Sublist.refl _ | repeat (first | exact List.Sublist.refl _ | exact List.nil_sublist _ | apply List.Sublist.cons_cons | apply List.Sublist.cons)) H156 ?_
            clear H156; intro a157 H157
            refine htake 14 rfl (by kernel_rfl) (y_loadB rfl z_agg39 rfl (by repeat (first | exact List.Mem.head _ | apply List.Mem.tail)) rfl) rfl rfl rfl (by first | exact List.nil_sublist _ | exact List.Sublist.refl _ | repeat (first | exact List.Sublist.refl _ | exact List.nil_sublist _ | apply List.Sublist.cons_cons | apply List.Sublist.cons)) H157 ?_
            clear H157; intro a158 H158
            refine hgo 10 rfl (by kernel_rfl) ?_
            refine st_call rfl z_call27 rfl rfl rfl rfl H158 (ball bk _ (Bank.doo_keep (Bank.run_ok l k) (l.getD k Bank.A0)) (H158.sep.all _ (by repeat (first | exact List.Mem.head _ | apply List.Mem.tail)))) ?_
            clear H158; intro v159 l159 a159 w159 hf159 H159
            obtain rfl := hf159
            simp only [List.cons_append, List.nil_append] at H159
            obtain ⟨A159, c159, hv159, hR159, hm159⟩ := row_shape (v := v159) H159.sep (List.Mem.head _)
            subst hv159
            refine hfin (H159.sep.sub (by first | exact List.nil_sublist _ | exact List.Sublist.refl _ | repeat (first | exact List.Sublist.refl _ | exact List.nil_sublist _ | apply List.Sublist.cons_cons | apply List.Sublist.cons))) ?_
            refine hgo 15 rfl (by kernel_rfl) ?_
            refine st_callg rfl z_call26 rfl rfl rfl rfl H159 (numbers (Bank.doo (Bank.run l k) (l.getD k Bank.A0)).2 (Bank.doo (Bank.run l k) (l.getD k Bank.A0)).2 _ _ _ _ _ _ (Bank.doo_keep (Bank.run_ok l k) (l.getD k Bank.A0)).len.symm (Bank.doo_keep (Bank.run_ok l k) (l.getD k Bank.A0)).len.symm (Rd.ofSep (rd_row (by repeat (first | exact List.Mem.head _ | apply List.Mem.tail))) H159.sep) (Rd.ofSep (rd_blkA (by repeat (first | exact List.Mem.head _ | apply List.Mem.tail))) H159.sep) (by rw [(Bank.doo_keep (Bank.run_ok l k) (l.getD k Bank.A0)).len]; omega)) ?_
            clear H159; intro a160 w160 H160
            refine hfin (H160.sep.sub (by first | exact List.nil_sublist _ | exact List.Sublist.refl _ | repeat (first | exact List.Sublist.refl _ | exact List.nil_sublist _ | apply List.Sublist.cons_cons | apply List.Sublist.cons))) ?_
            refine htake 16 rfl (by kernel_rfl) (y_not_d rfl rfl) rfl rfl rfl (by first | exact List.nil_sublist _ | exact List.Sublist.refl _ | repeat (first | exact List.Sublist.refl _ | exact List.nil_sublist _ | apply List.Sublist.cons_cons | apply List.Sublist.cons)) H160 ?_
            clear H160; intro a161 H161
            refine htake 17 rfl (by kernel_rfl) (y_pick_f rfl rfl rfl) rfl rfl rfl (by first | exact List.nil_sublist _ | exact List.Sublist.refl _ | repeat (first | exact List.Sublist.refl _ | exact List.nil_sublist _ | apply List.Sublist.cons_cons | apply List.Sublist.cons)) H161 ?_
            clear H161; intro a162 H162
            refine hdone (by kernel_rfl) ?_
            refine then_n ?_
            refine cnd_d H162 rfl (fun hc163 => ?_) (fun hc163 => ?_) -- cond 8
            · first | exact absurd rfl hc163 | exact hc163 rfl | simp at hc163
            · skip
              refine wp_skip ?_
              refine inb_n ?_
              refine then_n ?_
              refine reg ?_
              refine plain (y_move rfl rfl) rfl rfl rfl H162 ?_
              clear H162; intro a164 H164
              refine plain (y_add rfl rfl rfl (by first | exact w64 (by omega) (by omega) | rfl)) rfl rfl rfl H164 ?_
              clear H164; intro a165 H165
              refine plain (y_assign rfl rfl) rfl rfl rfl H165 ?_
              clear H165; intro a166 H166
              refine fin ?_
              refine then_n ?_
              refine ⟨k + 1, by omega, by omega, (H166.drop (List.Sublist.cons _ (List.Sublist.refl _))).weak ⟨rfl, rfl, rfl, rfl, fi rfl (by omega), trivial⟩ (by rw [Bank.run_succ (by omega)])⟩
        · skip
          refine wp_exit ?_
          refine then_x ?_
          refine then_x ?_
          refine inb_hit ?_
          refine cut_n ?_
          exact ⟨k, H26.weak ⟨rfl, rfl, rfl, trivial⟩ rfl⟩
    · first
      | fail
      | skip
        clear H21; intro H167
        refine skip rfl rfl rfl H167 ?_
        clear H167; intro a168 H168
        refine skip rfl rfl rfl H168 ?_
        clear H168; intro a169 H169
        refine plain (y_pick_f rfl rfl rfl) rfl rfl rfl H169 ?_
        clear H169; intro a170 H170
        refine fin ?_
        refine then_n ?_
        refine cnd_f H170 rfl ?_
        refine wp_exit ?_
        refine then_x ?_
        refine then_x ?_
        refine inb_hit ?_
        refine cut_n ?_
        exact ⟨k, H170.weak ⟨rfl, rfl, rfl, trivial⟩ rfl⟩
  · clear H15; intro a172 w172 hI172
    obtain ⟨k, H172⟩ := hI172
    refine then_n ?_
    refine wp_seq ?_
    refine wp_seq ?_
    refine reg ?_
    refine plain (y_move rfl rfl) rfl rfl rfl H172 ?_
    clear H172; intro a173 H173
    refine plain (y_lss rfl rfl rfl) rfl rfl rfl H173 ?_
    clear H173; intro a174 H174
    refine plain (y_move rfl rfl) rfl rfl rfl H174 ?_
    clear H174; intro a175 H175
    refine part_d (d := 98) H175 rfl (fun hg176 => ?_) (fun hg176 => ?_)
    · first
      | fail
      | skip
        clear H175; intro H177
        refine skip rfl rfl rfl H177 ?_
        clear H177; intro a178 H178
        refine skip rfl rfl rfl H178 ?_
        clear H178; intro a179 H179
        refine plain (y_pick_t rfl rfl rfl) rfl rfl rfl H179 ?_
        clear H179; intro a180 H180
        refine fin ?_
        refine then_n ?_
        refine cnd_t H180 rfl ?_
        refine wp_seq ?_
        refine reg ?_
        refine plain (y_move rfl rfl) rfl rfl rfl H180 ?_
        clear H180; intro a182 H182
        refine plain (y_move rfl rfl) rfl rfl rfl H182 ?_
        clear H182; intro a183 H183
        refine st_callg rfl z_call28 rfl rfl rfl rfl H183 (bof bk _ (Bank.run_ok l k) _ (H183.sep.all _ (by repeat (first | exact List.Mem.head _ | apply List.Mem.tail)))) ?_
        clear H183; intro a184 w184 H184
        refine plain (y_eql rfl rfl rfl) rfl rfl rfl H184 ?_
        clear H184; intro a185 H185
        refine plain (y_assign rfl rfl) rfl rfl rfl H185 ?_
        clear H185; intro a186 H186
        refine fin ?_
        refine then_n ?_
        refine wp_ret ?_
        refine then_r ?_
        -- return 1
        refine ret1 rfl H186 rfl ?_
        first | (exfalso; omega) | (exact ⟨_, [], rfl, ⟨congrArg Value.bool (decide_eq_true (by first | rw [Bank.of_out (by omega)] | rw [Bank.of_in (by omega)])), rfl⟩, H186.sep.sub (List.nil_sublist _)⟩)
    · first
      | fail
      | skip
        clear H175; intro H187
        refine plain (y_move rfl rfl) rfl rfl rfl H187 ?_
        clear H187; intro a188 H188
        refine plain (y_gtr rfl rfl rfl) rfl rfl rfl H188 ?_
        clear H188; intro a189 H189
        refine plain (y_pick_f rfl rfl rfl) rfl rfl rfl H189 ?_
        clear H189; intro a190 H190
        refine fin ?_
        refine then_n ?_
        refine cnd_d H190 rfl (fun hc191 => ?_) (fun hc191 => ?_) -- cond 11
        · skip
          refine wp_seq ?_
          refine reg ?_
          refine plain (y_move rfl rfl) rfl rfl rfl H190 ?_
          clear H190; intro a192 H192
          refine plain (y_move rfl rfl) rfl rfl rfl H192 ?_
          clear H192; intro a193 H193
          refine st_callg rfl z_call28 rfl rfl rfl rfl H193 (bof bk _ (Bank.run_ok l k) _ (H193.sep.all _ (by repeat (first | exact List.Mem.head _ | apply List.Mem.tail)))) ?_
          clear H193; intro a194 w194 H194
          refine plain (y_eql rfl rfl rfl) rfl rfl rfl H194 ?_
          clear H194; intro a195 H195
          refine plain (y_assign rfl rfl) rfl rfl rfl H195 ?_
          clear H195; intro a196 H196
          refine fin ?_
          refine then_n ?_
          refine wp_ret ?_
          refine then_r ?_
          -- return 2
          refine ret1 rfl H196 rfl ?_
          first | (exfalso; omega) | (exact ⟨_, [], rfl, ⟨congrArg Value.bool (decide_eq_true (by first | rw [Bank.of_out (by omega)] | rw [Bank.of_in (by omega)])), rfl⟩, H196.sep.sub (List.nil_sublist _)⟩)
        · skip
          refine wp_skip ?_
          refine then_n ?_
          refine wp_seq ?_
          refine qreg (by kernel_rfl) (by kernel_rfl) H190 ?_
          have F197 := H190.fr
          clear H190
          refine qplain (y_move rfl rfl) rfl rfl rfl F197 ?_
          clear F197; intro a198 H198
          refine qplain (y_move rfl rfl) rfl rfl rfl H198 ?_
          clear H198; intro a199 H199
          refine qcallg rfl z_call28 rfl rfl rfl rfl H199 (fun w hs => (bof bk _ (Bank.run_ok l k) _ (hs.all _ (by repeat (first | exact List.Mem.head _ | apply List.Mem.tail))))) ?_
          clear H199; intro a200 H200
          refine qplain (y_move rfl rfl) rfl rfl rfl H200 ?_
          clear H200; intro a201 H201
          refine qplain (y_nilCheck rfl rfl) rfl rfl rfl H201 ?_
          clear H201; intro a202 H202
          refine qplain (y_fieldB rfl z_field42_0 rfl (by first | (simp only [Nat.zero_add, Nat.add_zero, Nat.reduceAdd]; rfl) | rfl)) rfl rfl rfl H202 ?_
          clear H202; intro a203 H203
          refine qplain (y_loadB rfl z_agg39 rfl (by repeat (first | exact List.Mem.head _ | apply List.Mem.tail)) rfl) rfl rfl rfl H203 ?_
          clear H203; intro a204 H204
          refine qplain (y_move rfl rfl) rfl rfl rfl H204 ?_
          clear H204; intro a205 H205
          refine qplain (y_ixL rfl Try.underlying39 z_size3 rfl rfl (by omega) (by omega) rfl) rfl rfl rfl H205 ?_
          clear H205; intro a206 H206
          refine qplain (y_loadB rfl z_agg3 rfl (by repeat (first | exact List.Mem.head _ | apply List.Mem.tail)) (i64_getI _ _ (by rw [(Bank.run_ok l k).len]; omega) (by omega))) rfl rfl rfl H206 ?_
          clear H206; intro a207 H207
          refine qplain (y_eql rfl rfl rfl) rfl rfl rfl H207 ?_
          clear H207; intro a208 H208
          refine qplain (y_assign rfl rfl) rfl rfl rfl H208 ?_
          clear H208; intro a209 H209
          refine qfin H209 ?_
          clear H209; intro w210 H210
          refine then_n ?_
          refine wp_ret ?_
          -- return 3
          refine ret1 rfl H210 rfl ?_
          first | (exfalso; omega) | (exact ⟨_, [], rfl, ⟨congrArg Value.bool (decide_eq_true (by first | rw [Bank.of_out (by omega)] | rw [Bank.of_in (by omega)])), rfl⟩, H210.sep.sub (List.nil_sublist _)⟩)

end Go.Proofs.Ytlaojmcpiggfeaa.TBankD
