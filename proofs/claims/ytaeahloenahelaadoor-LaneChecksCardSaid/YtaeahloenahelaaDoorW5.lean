/- Part of a proof about given Go functions: contracts of functions, or plain laws. -/
import Derived.Test.YtaeahloenahelaaDoorLaneV
import Derived.Test.YtaeahloenahelaaDoorSxI
import Derived.Test.YtaeahloenahelaaDoorSxN
import Derived.Test.YtaeahloenahelaaDoorSxK
import Derived.Test.YtaeahloenahelaaDoorSxM
import Derived.Test.YtaeahloenahelaaDoorProg
import Derived.Test.YtaeahloenahelaaDoorW1
import Derived.Test.YtaeahloenahelaaDoorW3
import Derived.Test.YtaeahloenahelaaDoorW2
import Derived.Test.YtaeahloenahelaaDoorW4
import Derived.Test.YtaeahloenahelaaDoorSxTx
set_option linter.unusedVariables false
set_option linter.unusedSimpArgs false
namespace Go.Proofs.YtaeahloenahelaaDoor.A_L7
open Go.Sx Go.RowKit Go.Proofs.YtaeahloenahelaaDoor.A_Block Go.Proofs.YtaeahloenahelaaDoor.A_Sum Go.Proofs.YtaeahloenahelaaDoor.A_Ref Go.Proofs.YtaeahloenahelaaDoor.A_RSum Go.Proofs.YtaeahloenahelaaDoor.A_Ln1 Go.Proofs.YtaeahloenahelaaDoor.A_Ln2 Go.Proofs.YtaeahloenahelaaDoor.A_Ln3 Go.Proofs.YtaeahloenahelaaDoor.A_Tx Go.Proofs.YtaeahloenahelaaDoor.A_Body Go.Proofs.YtaeahloenahelaaDoor.A_RBody Go.Proofs.YtaeahloenahelaaDoor.A_RHand Go.Proofs.YtaeahloenahelaaDoor.A_Chk Go.Proofs.YtaeahloenahelaaDoor.A_Leaf Go.Proofs.YtaeahloenahelaaDoor.A_Key Go.Proofs.YtaeahloenahelaaDoor.A_Tag Go.Proofs.YtaeahloenahelaaDoor.A_X1 Go.Proofs.YtaeahloenahelaaDoor.A_X2 Go.Proofs.YtaeahloenahelaaDoor.A_X3 Go.Proofs.YtaeahloenahelaaDoor.A_Ltx Go.Proofs.YtaeahloenahelaaDoor.A_Ldo Go.Proofs.YtaeahloenahelaaDoor.A_Ln4

theorem z_call17 : callB Tryd.prog 17 = true := by kernel_rfl
theorem z_call20 : callB Tryd.prog 20 = true := by kernel_rfl
theorem z_call18 : callB Tryd.prog 18 = true := by kernel_rfl
theorem z_size52 : sizeB Tryd.prog 52 = some 79 := by kernel_rfl
theorem z_agg52 : aggB Tryd.prog 52 = some true := by kernel_rfl
theorem z_call21 : callB Tryd.prog 21 = true := by kernel_rfl
theorem q_ld_c15b32b32_0_79 {a0 a1 a2 a3 a4 a5 a6 a7 a8 a9 a10 a11 a12 a13 a14 : Value} {t15 t16 : List UInt8} (h15 : t15.length = 32) (h16 : t16.length = 32) : ((a0 :: a1 :: a2 :: a3 :: a4 :: a5 :: a6 :: a7 :: a8 :: a9 :: a10 :: a11 :: a12 :: a13 :: a14 :: (t15.map u8 ++ (t16.map u8))).drop 0).take 79 = a0 :: a1 :: a2 :: a3 :: a4 :: a5 :: a6 :: a7 :: a8 :: a9 :: a10 :: a11 :: a12 :: a13 :: a14 :: (t15.map u8 ++ (t16.map u8)) := (ld_a (len_c (n := 78) (len_c (n := 77) (len_c (n := 76) (len_c (n := 75) (len_c (n := 74) (len_c (n := 73) (len_c (n := 72) (len_c (n := 71) (len_c (n := 70) (len_c (n := 69) (len_c (n := 68) (len_c (n := 67) (len_c (n := 66) (len_c (n := 65) (len_c (n := 64) (len_b (k := 32) (n := 32) h15 (len_e (k := 32) h16))))))))))))))))))
theorem q_len_c15b32b32 {a0 a1 a2 a3 a4 a5 a6 a7 a8 a9 a10 a11 a12 a13 a14 : Value} {t15 t16 : List UInt8} (h15 : t15.length = 32) (h16 : t16.length = 32) : (a0 :: a1 :: a2 :: a3 :: a4 :: a5 :: a6 :: a7 :: a8 :: a9 :: a10 :: a11 :: a12 :: a13 :: a14 :: (t15.map u8 ++ (t16.map u8))).length = 79 := (len_c (n := 78) (len_c (n := 77) (len_c (n := 76) (len_c (n := 75) (len_c (n := 74) (len_c (n := 73) (len_c (n := 72) (len_c (n := 71) (len_c (n := 70) (len_c (n := 69) (len_c (n := 68) (len_c (n := 67) (len_c (n := 66) (len_c (n := 65) (len_c (n := 64) (len_b (k := 32) (n := 32) h15 (len_e (k := 32) h16)))))))))))))))))
theorem z_call26 : callB Tryd.prog 26 = true := by kernel_rfl
theorem z_zeroN50 : zeroL Tryd.prog 50 = some ((.int .i64 0 :: (.int .i64 0 :: (.int .i64 0 :: (.int .i64 0 :: (.string ⟨#[]⟩ :: (.bool false :: (.int .i64 0 :: (.int .i64 0 :: ((List.replicate 32 (0 : UInt8)).map u8 ++ (List.replicate 32 (0 : UInt8)).map u8)))))))))) := by kernel_rfl
theorem z_size50 : sizeB Tryd.prog 50 = some 72 := by kernel_rfl
theorem q_one_c8b32b32 {a0 a1 a2 a3 a4 a5 a6 a7 : Value} {t8 t9 : List UInt8} (o0 : a0.oneCell' = true) (o1 : a1.oneCell' = true) (o2 : a2.oneCell' = true) (o3 : a3.oneCell' = true) (o4 : a4.oneCell' = true) (o5 : a5.oneCell' = true) (o6 : a6.oneCell' = true) (o7 : a7.oneCell' = true) : (a0 :: a1 :: a2 :: a3 :: a4 :: a5 :: a6 :: a7 :: (t8.map u8 ++ (t9.map u8))).all (·.oneCell') = true := (one_c o0 (one_c o1 (one_c o2 (one_c o3 (one_c o4 (one_c o5 (one_c o6 (one_c o7 (one_b (one_u8 _))))))))))
theorem q_len_c8b32b32 {a0 a1 a2 a3 a4 a5 a6 a7 : Value} {t8 t9 : List UInt8} (h8 : t8.length = 32) (h9 : t9.length = 32) : (a0 :: a1 :: a2 :: a3 :: a4 :: a5 :: a6 :: a7 :: (t8.map u8 ++ (t9.map u8))).length = 72 := (len_c (n := 71) (len_c (n := 70) (len_c (n := 69) (len_c (n := 68) (len_c (n := 67) (len_c (n := 66) (len_c (n := 65) (len_c (n := 64) (len_b (k := 32) (n := 32) h8 (len_e (k := 32) h9))))))))))
theorem q_spl_c8b32b32_0_c8b32b32 {a0 a1 a2 a3 a4 a5 a6 a7 : Value} {t8 t9 : List UInt8} {b0 b1 b2 b3 b4 b5 b6 b7 : Value} {s8 s9 : List UInt8} (h8 : t8.length = 32) (h9 : t9.length = 32) (g8 : s8.length = 32) (g9 : s9.length = 32) : spl (a0 :: a1 :: a2 :: a3 :: a4 :: a5 :: a6 :: a7 :: (t8.map u8 ++ (t9.map u8))) 0 (b0 :: b1 :: b2 :: b3 :: b4 :: b5 :: b6 :: b7 :: (s8.map u8 ++ (s9.map u8))) = b0 :: b1 :: b2 :: b3 :: b4 :: b5 :: b6 :: b7 :: (s8.map u8 ++ (s9.map u8)) := (spl_a (z := 72) (len_c (n := 71) (len_c (n := 70) (len_c (n := 69) (len_c (n := 68) (len_c (n := 67) (len_c (n := 66) (len_c (n := 65) (len_c (n := 64) (len_b (k := 32) (n := 32) h8 (len_e (k := 32) h9)))))))))) (len_c (n := 71) (len_c (n := 70) (len_c (n := 69) (len_c (n := 68) (len_c (n := 67) (len_c (n := 66) (len_c (n := 65) (len_c (n := 64) (len_b (k := 32) (n := 32) g8 (len_e (k := 32) g9)))))))))))
theorem z_field50_6 : fieldB Tryd.prog 50 6 = some 6 := by kernel_rfl
theorem z_agg3 : aggB Tryd.prog 3 = some false := by kernel_rfl
theorem q_ix_c8b32b32_6 {a0 a1 a2 a3 a4 a5 a6 a7 : Value} {t8 t9 : List UInt8} : (a0 :: a1 :: a2 :: a3 :: a4 :: a5 :: a6 :: a7 :: (t8.map u8 ++ (t9.map u8)))[6]? = some a6 := (ix_c (o := 5) (ix_c (o := 4) (ix_c (o := 3) (ix_c (o := 2) (ix_c (o := 1) (ix_c (o := 0) ix_0))))))
theorem z_call25 : callB Tryd.prog 25 = true := by kernel_rfl
theorem z_agg50 : aggB Tryd.prog 50 = some true := by kernel_rfl
theorem q_ld_c8b32b32_0_72 {a0 a1 a2 a3 a4 a5 a6 a7 : Value} {t8 t9 : List UInt8} (h8 : t8.length = 32) (h9 : t9.length = 32) : ((a0 :: a1 :: a2 :: a3 :: a4 :: a5 :: a6 :: a7 :: (t8.map u8 ++ (t9.map u8))).drop 0).take 72 = a0 :: a1 :: a2 :: a3 :: a4 :: a5 :: a6 :: a7 :: (t8.map u8 ++ (t9.map u8)) := (ld_a (len_c (n := 71) (len_c (n := 70) (len_c (n := 69) (len_c (n := 68) (len_c (n := 67) (len_c (n := 66) (len_c (n := 65) (len_c (n := 64) (len_b (k := 32) (n := 32) h8 (len_e (k := 32) h9)))))))))))
theorem z_field52_4 : fieldB Tryd.prog 52 4 = some 4 := by kernel_rfl
theorem q_ix_c15b32b32_4 {a0 a1 a2 a3 a4 a5 a6 a7 a8 a9 a10 a11 a12 a13 a14 : Value} {t15 t16 : List UInt8} : (a0 :: a1 :: a2 :: a3 :: a4 :: a5 :: a6 :: a7 :: a8 :: a9 :: a10 :: a11 :: a12 :: a13 :: a14 :: (t15.map u8 ++ (t16.map u8)))[4]? = some a4 := (ix_c (o := 3) (ix_c (o := 2) (ix_c (o := 1) (ix_c (o := 0) ix_0))))
theorem z_call27 : callB Tryd.prog 27 = true := by kernel_rfl
theorem z_call28 : callB Tryd.prog 28 = true := by kernel_rfl

set_option maxRecDepth 100000 in
set_option maxHeartbeats 4000000 in
theorem laneChecks1 (len : Int) (h1 : 1 ≤ len ∧ len ≤ 1099511627776) (l : List Lane.Act) (A : Option Addr) (ca : Nat) (hl0 : l.length ≤ 9223372036854775807) (wl : ∀ z ∈ l, Lane.Act.Wf z) (c : Lane.Act) (wcc : Lane.Act.Wf c) {w : World} (hA : Rd w A (Lane.acs l)) (hG : Glob 0 Sha.K w) : Calls Tryd.prog 8 #[.int .i64 len, .slice A l.length ca, .agg (Lane.Act.cells c).toArray] w (Gives (.bool true) [] w) := by
  have whc := wcc.tx.hand
  have wtc := wcc.tx.tag
  have lz32 : (List.replicate 32 (0 : UInt8)).length = 32 := List.length_replicate
  have lz0 := wcc.tx.hand
  have lz1 := wcc.tx.tag
  refine enterL (args := [.int .i64 len, .slice A l.length ca, .agg (Lane.Act.cells c).toArray]) Tryd.func8 rfl rfl (l := []) (Sep.refl _) ?_
  intro a0 H0
  refine wp_seq ?_
  refine reg ?_
  refine st_box rfl rfl (agg_cells _) rfl rfl rfl H0 ?_
  clear H0; intro b1 a1 wx1 H1
  refine plain (y_assign rfl rfl) rfl rfl rfl H1 ?_
  clear H1; intro a2 H2
  refine fin ?_
  refine then_n ?_
  refine wp_seq ?_
  refine reg ?_
  refine plain (y_move rfl rfl) rfl rfl rfl H2 ?_
  clear H2; intro a3 H3
  refine st_call rfl z_call17 rfl rfl rfl rfl H3 (lnew len h1 _) ?_
  clear H3; intro v4 l4 a4 wx4 hf4 H4
  obtain ⟨b, h, u, rfl, rfl⟩ := hf4
  simp only [List.cons_append, List.nil_append] at H4
  refine plain (y_move rfl rfl) rfl rfl rfl H4 ?_
  clear H4; intro a5 H5
  refine plain (y_extract rfl rfl rfl) rfl rfl rfl H5 ?_
  clear H5; intro a6 H6
  refine plain (y_extract rfl rfl rfl) rfl rfl rfl H6 ?_
  clear H6; intro a7 H7
  refine plain (y_assign rfl rfl) rfl rfl rfl H7 ?_
  clear H7; intro a8 H8
  refine plain (y_assign rfl rfl) rfl rfl rfl H8 ?_
  clear H8; intro a9 H9
  refine fin ?_
  refine then_n ?_
  refine wp_seq ?_
  refine reg ?_
  refine plain (y_move rfl rfl) rfl rfl rfl H9 ?_
  clear H9; intro a10 H10
  refine st_call rfl z_call20 rfl rfl rfl rfl H10 (xnew len h1 _) ?_
  clear H10; intro v11 l11 a11 wx11 hf11 H11
  obtain ⟨x, rfl, rfl⟩ := hf11
  simp only [List.cons_append, List.nil_append] at H11
  refine plain (y_move rfl rfl) rfl rfl rfl H11 ?_
  clear H11; intro a12 H12
  refine plain (y_extract rfl rfl rfl) rfl rfl rfl H12 ?_
  clear H12; intro a13 H13
  refine plain (y_extract rfl rfl rfl) rfl rfl rfl H13 ?_
  clear H13; intro a14 H14
  refine plain (y_assign rfl rfl) rfl rfl rfl H14 ?_
  clear H14; intro a15 H15
  refine plain (y_assign rfl rfl) rfl rfl rfl H15 ?_
  clear H15; intro a16 H16
  refine fin ?_
  refine then_n ?_
  refine wp_seq ?_
  refine wp_seq ?_
  refine reg ?_
  refine st_callg rfl z_call18 rfl rfl rfl rfl H16 (lawake16 (hG.frm H16.sep.frm (by simp))) ?_
  clear H16; intro a17 wx17 H17
  refine plain (y_not rfl rfl) rfl rfl rfl H17 ?_
  clear H17; intro a18 H18
  refine plain (y_move rfl rfl) rfl rfl rfl H18 ?_
  clear H18; intro a19 H19
  refine plain (y_move rfl rfl) rfl rfl rfl H19 ?_
  clear H19; intro a20 H20
  refine plain (y_neq rfl rfl rfl) rfl rfl rfl H20 ?_
  clear H20; intro a21 H21
  refine plain (y_pick_f rfl rfl rfl) rfl rfl rfl H21 ?_
  clear H21; intro a22 H22
  refine plain (y_move rfl rfl) rfl rfl rfl H22 ?_
  clear H22; intro a23 H23
  have H25 := H23.know (d := 31) (v := .bool false) rfl (congrArg Value.bool (decide_eq_false (by decide)))
  clear H23
  refine plain (y_move rfl rfl) rfl rfl rfl H25 ?_
  clear H25; intro a26 H26
  refine plain (y_peql rfl Tryd.underlying39 rfl rfl) rfl rfl rfl H26 ?_
  clear H26; intro a27 H27
  refine plain (y_pick_f rfl rfl rfl) rfl rfl rfl H27 ?_
  clear H27; intro a28 H28
  refine plain (y_move rfl rfl) rfl rfl rfl H28 ?_
  clear H28; intro a29 H29
  have H31 := H29.know (d := 35) (v := .bool false) rfl (rfl)
  clear H29
  refine plain (y_move rfl rfl) rfl rfl rfl H31 ?_
  clear H31; intro a32 H32
  refine plain (y_peql rfl Tryd.underlying46 rfl rfl) rfl rfl rfl H32 ?_
  clear H32; intro a33 H33
  refine plain (y_pick_f rfl rfl rfl) rfl rfl rfl H33 ?_
  clear H33; intro a34 H34
  refine fin ?_
  refine then_n ?_
  refine cnd_f H34 rfl ?_
  refine wp_skip ?_
  refine then_n ?_
  refine wp_seq ?_
  refine wp_seq ?_
  refine reg ?_
  refine plain (y_assign rfl rfl) rfl rfl rfl H34 ?_
  clear H34; intro a36 H36
  refine fin ?_
  refine then_n ?_
  refine wp_block ?_
  refine loop (ι := Nat × (List Lane.Held × ((Int → Option Value) × Value))) (fun y => [(1, .slice A l.length ca), (5, .pointer (some ⟨b1, 0, none⟩)), (7, .pointer (some ⟨b, 0, none⟩)), (9, .pointer (some ⟨x, 0, none⟩)), (11, .int .i64 (y.1 : Int))]) (fun y => [It.row 57 3 y.2.2.2 y.2.1.length (Lane.hc y.2.1), It.blk x 60 [i64 len, y.2.2.2], It.blk b 101 (Lane.lc len h u), It.mp h (Lane.hm y.2.1), It.mp u y.2.2.1, It.blk b1 52 (Lane.Act.cells c)]) (fun y => y.1 ≤ 40 ∧ Lane.Good ⟨len, y.2.1⟩ ∧ Lane.Turns y.2.1 y.2.2.1 ∧ y.2.1.length ≤ y.1) (fun y => 40 - y.1) ((0, (([] : List Lane.Held), ((fun _ => none : Int → Option Value), (.slice none 0 0 : Value))))) ⟨Nat.zero_le _, Lane.good_new h1, Lane.turns_nil, Nat.le_refl _⟩ (H36.weak ⟨rfl, rfl, rfl, rfl, rfl, trivial⟩ rfl) ?_
  clear H36; intro y a37 wx37 hok37 H37
  obtain ⟨k, L, f, v⟩ := y
  dsimp only at hok37 H37
  obtain ⟨hk, hg, hT, hL⟩ := hok37
  have hlL : L.length ≤ 1000000 := by omega
  have hdm := Lane.doo_more len L (l.getD k Lane.Act.zero)
  refine wp_seq ?_
  refine wp_seq ?_
  refine reg ?_
  refine plain (y_move rfl rfl) rfl rfl rfl H37 ?_
  clear H37; intro a38 H38
  refine plain (y_move rfl rfl) rfl rfl rfl H38 ?_
  clear H38; intro a39 H39
  refine plain (y_len rfl Tryd.underlying45 rfl) rfl rfl rfl H39 ?_
  clear H39; intro a40 H40
  refine plain (y_lss rfl rfl rfl) rfl rfl rfl H40 ?_
  clear H40; intro a41 H41
  refine plain (y_move rfl rfl) rfl rfl rfl H41 ?_
  clear H41; intro a42 H42
  refine Sx.part (d := 44) H42 rfl (fun hg43 => ?_) (fun hg43 => ?_)
  · first
    | fail
    | skip
      clear H42; intro H44
      try simp only [decide_eq_true_eq, decide_eq_false_iff_not, Bool.not_eq_true', Bool.not_eq_false', Bool.and_eq_true, Bool.not_eq_true, Bool.not_eq_false] at hg43
      refine plain (y_move rfl rfl) rfl rfl rfl H44 ?_
      clear H44; intro a45 H45
      refine plain (y_lss rfl rfl rfl) rfl rfl rfl H45 ?_
      clear H45; intro a46 H46
      refine plain (y_pick_t rfl rfl rfl) rfl rfl rfl H46 ?_
      clear H46; intro a47 H47
      refine fin ?_
      refine then_n ?_
      refine cnd H47 rfl (fun hc48 => ?_) (fun hc48 => ?_) -- cond 2
      · skip
        try simp only [decide_eq_true_eq, decide_eq_false_iff_not, Bool.not_eq_true', Bool.not_eq_false', Bool.and_eq_true, Bool.not_eq_true, Bool.not_eq_false] at hc48
        refine wp_skip ?_
        refine then_n ?_
        refine wp_seq ?_
        refine wp_block ?_
        have hkl : k < l.length := by omega
        have wc := Lane.actD wl hkl
        have whd := wc.tx.hand
        have wtg := wc.tx.tag
        refine reg ?_
        refine plain (y_move rfl rfl) rfl rfl rfl H47 ?_
        clear H47; intro a49 H49
        refine plain (y_move rfl rfl) rfl rfl rfl H49 ?_
        clear H49; intro a50 H50
        refine plain (y_move rfl rfl) rfl rfl rfl H50 ?_
        clear H50; intro a51 H51
        refine plain (y_move rfl rfl) rfl rfl rfl H51 ?_
        clear H51; intro a52 H52
        refine plain (y_ixR rfl Tryd.underlying45 z_size52 rfl rfl (by omega) (by omega) (rd_old hA (by simp)) (by rw [Lane.acs_len wl]; omega)) rfl rfl rfl H52 ?_
        clear H52; intro a53 H53
        refine plain (y_loadAS rfl z_agg52 z_size52 rfl (rd_old hA (by simp)) (show _ = Lane.Act.cells (l.getD k Lane.Act.zero) from Lane.acs_take wl k (by omega)) (Lane.Act.cells_len whd wtg) (by decide)) rfl rfl rfl H53 ?_
        clear H53; intro a54 H54
        refine st_callk2 (is := [It.row 57 3 v L.length (Lane.hc L), It.blk x 60 [i64 len, v], It.blk b 101 (Lane.lc len h u), It.mp h (Lane.hm L), It.mp u f]) (enters_call rfl z_call21 rfl) rfl rfl rfl H54 (.cons (by repeat (first | exact Ph | apply Pt)) (.cons (by repeat (first | exact Ph | apply Pt)) (.cons (by repeat (first | exact Ph | apply Pt)) (.cons (by repeat (first | exact Ph | apply Pt)) (.cons (by repeat (first | exact Ph | apply Pt)) (.nil _)))))) (fun hs => ldo len L f hlL hg hT (l.getD k Lane.Act.zero) wc b h u x v hs (hG.frm H54.sep.frm (by simp)) (fps_new H54.sep (.cons (by repeat (first | exact Ph | apply Pt)) (.cons (by repeat (first | exact Ph | apply Pt)) (.cons (by repeat (first | exact Ph | apply Pt)) (.cons (by repeat (first | exact Ph | apply Pt)) (.cons (by repeat (first | exact Ph | apply Pt)) (.nil _)))))) hG (by decide))) ?_
        clear H54; intro v55 l55 a55 wx55 hf55 H55
        obtain ⟨rfl, f1, v1, hT1, rfl⟩ := hf55
        simp only [List.cons_append, List.nil_append] at H55
        refine fin ?_
        refine inb_n ?_
        refine then_n ?_
        refine reg ?_
        refine plain (y_move rfl rfl) rfl rfl rfl H55 ?_
        clear H55; intro a56 H56
        refine plain (y_add rfl rfl rfl (by first | exact w64 (by omega) (by omega) | rfl)) rfl rfl rfl H56 ?_
        clear H56; intro a57 H57
        refine plain (y_assign rfl rfl) rfl rfl rfl H57 ?_
        clear H57; intro a58 H58
        refine fin ?_
        refine then_n ?_
        refine ⟨(k + 1, ((Lane.doo ⟨len, L⟩ (l.getD k Lane.Act.zero)).L, (f1, v1))), by dsimp only; omega, ⟨by dsimp only; omega, Lane.good_doo2 hg _, hT1, by dsimp only; omega⟩, H58.weak ⟨rfl, rfl, rfl, rfl, fi rfl (by dsimp only; omega), trivial⟩ rfl⟩
      · skip
        try simp only [decide_eq_true_eq, decide_eq_false_iff_not, Bool.not_eq_true', Bool.not_eq_false', Bool.and_eq_true, Bool.not_eq_true, Bool.not_eq_false] at hc48
        refine wp_exit ?_
        refine then_x ?_
        refine then_x ?_
        refine inb_hit ?_
        refine then_n ?_
        refine wp_seq ?_
        have wfx := Lane.txOf_wf hg wcc
        have whx := wfx.hand
        have wtx := wfx.tag
        refine reg ?_
        refine plain (y_move rfl rfl) rfl rfl rfl H47 ?_
        clear H47; intro a59 H59
        refine plain (y_loadAB rfl z_agg52 z_size52 rfl (by repeat (first | exact Mh | apply Mt)) (q_ld_c15b32b32_0_79 (by assumption) (by assumption)) (q_len_c15b32b32 (by assumption) (by assumption))) rfl rfl rfl H59 ?_
        clear H59; intro a60 H60
        refine st_callg rfl z_call26 rfl rfl rfl rfl H60 (ltx len L hlL hg c wcc x v (H60.sep.all _ (by repeat (first | exact Mh | apply Mt))) (H60.sep.all _ (by repeat (first | exact Mh | apply Mt)))) ?_
        clear H60; intro a61 wx61 H61
        refine st_alloc rfl z_zeroN50 rfl rfl rfl H61 ?_
        clear H61; intro b62 a62 wx62 H62
        refine st_storeN rfl z_size50 rfl rfl (agg_cells _) (by repeat (first | exact Uh | apply Ut)) (q_one_c8b32b32 rfl rfl rfl rfl rfl rfl rfl rfl) (q_len_c8b32b32 (by assumption) (by assumption)) (q_len_c8b32b32 (by assumption) (by assumption)) (q_spl_c8b32b32_0_c8b32b32 (by assumption) (by assumption) (by assumption) (by assumption)) (by decide) rfl rfl H62 ?_
        clear H62; intro wx63 H63
        refine fin ?_
        refine then_n ?_
        refine wp_seq ?_
        refine reg ?_
        refine plain (y_move rfl rfl) rfl rfl rfl H63 ?_
        clear H63; intro a64 H64
        refine plain (y_fieldB rfl z_field50_6 rfl (by first | (simp only [Nat.zero_add, Nat.add_zero, Nat.reduceAdd]; rfl) | rfl)) rfl rfl rfl H64 ?_
        clear H64; intro a65 H65
        refine plain (y_loadB rfl z_agg3 rfl (by repeat (first | exact Mh | apply Mt)) q_ix_c8b32b32_6) rfl rfl rfl H65 ?_
        clear H65; intro a66 H66
        refine st_callg rfl z_call25 rfl rfl rfl rfl H66 (lturn len L f hT (Lane.txOf ⟨len, L⟩ c).round b h u (H66.sep.all _ (by repeat (first | exact Mh | apply Mt))) (H66.sep.all _ (by repeat (first | exact Mh | apply Mt)))) ?_
        clear H66; intro a67 wx67 H67
        refine plain (y_assign rfl rfl) rfl rfl rfl H67 ?_
        clear H67; intro a68 H68
        refine fin ?_
        refine then_n ?_
        refine wp_seq ?_
        refine reg ?_
        refine plain (y_move rfl rfl) rfl rfl rfl H68 ?_
        clear H68; intro a69 H69
        refine plain (y_loadAB rfl z_agg50 z_size50 rfl (by repeat (first | exact Mh | apply Mt)) (q_ld_c8b32b32_0_72 (by assumption) (by assumption)) (q_len_c8b32b32 (by assumption) (by assumption))) rfl rfl rfl H69 ?_
        clear H69; intro a70 H70
        refine plain (y_fieldB rfl z_field52_4 rfl (by first | (simp only [Nat.zero_add, Nat.add_zero, Nat.reduceAdd]; rfl) | rfl)) rfl rfl rfl H70 ?_
        clear H70; intro a71 H71
        refine plain (y_loadB rfl z_agg3 rfl (by repeat (first | exact Mh | apply Mt)) q_ix_c15b32b32_4) rfl rfl rfl H71 ?_
        clear H71; intro a72 H72
        refine st_callg rfl z_call27 rfl rfl rfl rfl H72 (lcheck len L f hg hT (Lane.txOf ⟨len, L⟩ c) wfx c.now wcc.now b h u (H72.sep.all _ (by repeat (first | exact Mh | apply Mt))) (H72.sep.all _ (by repeat (first | exact Mh | apply Mt))) (H72.sep.all _ (by repeat (first | exact Mh | apply Mt))) (hG.frm H72.sep.frm (by simp))) ?_
        clear H72; intro a73 wx73 H73
        refine plain (y_assign rfl rfl) rfl rfl rfl H73 ?_
        clear H73; intro a74 H74
        refine fin ?_
        refine then_n ?_
        refine wp_seq ?_
        refine wp_seq ?_
        refine reg ?_
        refine plain (y_move rfl rfl) rfl rfl rfl H74 ?_
        clear H74; intro a75 H75
        refine plain (y_fieldB rfl z_field50_6 rfl (by first | (simp only [Nat.zero_add, Nat.add_zero, Nat.reduceAdd]; rfl) | rfl)) rfl rfl rfl H75 ?_
        clear H75; intro a76 H76
        refine plain (y_loadB rfl z_agg3 rfl (by repeat (first | exact Mh | apply Mt)) q_ix_c8b32b32_6) rfl rfl rfl H76 ?_
        clear H76; intro a77 H77
        refine st_callg rfl z_call25 rfl rfl rfl rfl H77 (lturn len L f hT (Lane.txOf ⟨len, L⟩ c).round b h u (H77.sep.all _ (by repeat (first | exact Mh | apply Mt))) (H77.sep.all _ (by repeat (first | exact Mh | apply Mt)))) ?_
        clear H77; intro a78 wx78 H78
        refine plain (y_move rfl rfl) rfl rfl rfl H78 ?_
        clear H78; intro a79 H79
        refine plain (y_neq rfl rfl rfl) rfl rfl rfl H79 ?_
        clear H79; intro a80 H80
        refine plain (y_move rfl rfl) rfl rfl rfl H80 ?_
        clear H80; intro a81 H81
        have H83 := H81.know (d := 75) (v := .bool false) rfl (congrArg Value.bool (decide_eq_false (by exact fun z => z rfl)))
        clear H81
        refine plain (y_move rfl rfl) rfl rfl rfl H83 ?_
        clear H83; intro a84 H84
        refine plain (y_loadAB rfl z_agg50 z_size50 rfl (by repeat (first | exact Mh | apply Mt)) (q_ld_c8b32b32_0_72 (by assumption) (by assumption)) (q_len_c8b32b32 (by assumption) (by assumption))) rfl rfl rfl H84 ?_
        clear H84; intro a85 H85
        refine plain (y_fieldB rfl z_field52_4 rfl (by first | (simp only [Nat.zero_add, Nat.add_zero, Nat.reduceAdd]; rfl) | rfl)) rfl rfl rfl H85 ?_
        clear H85; intro a86 H86
        refine plain (y_loadB rfl z_agg3 rfl (by repeat (first | exact Mh | apply Mt)) q_ix_c15b32b32_4) rfl rfl rfl H86 ?_
        clear H86; intro a87 H87
        refine st_callg rfl z_call27 rfl rfl rfl rfl H87 (lcheck len L f hg hT (Lane.txOf ⟨len, L⟩ c) wfx c.now wcc.now b h u (H87.sep.all _ (by repeat (first | exact Mh | apply Mt))) (H87.sep.all _ (by repeat (first | exact Mh | apply Mt))) (H87.sep.all _ (by repeat (first | exact Mh | apply Mt))) (hG.frm H87.sep.frm (by simp))) ?_
        clear H87; intro a88 wx88 H88
        refine plain (y_move rfl rfl) rfl rfl rfl H88 ?_
        clear H88; intro a89 H89
        refine plain (y_neq rfl rfl rfl) rfl rfl rfl H89 ?_
        clear H89; intro a90 H90
        refine plain (y_pick_f rfl rfl rfl) rfl rfl rfl H90 ?_
        clear H90; intro a91 H91
        refine plain (y_move rfl rfl) rfl rfl rfl H91 ?_
        clear H91; intro a92 H92
        have H94 := H92.know (d := 84) (v := .bool false) rfl (congrArg Value.bool (decide_eq_false (by exact fun z => z rfl)))
        clear H92
        refine plain (y_move rfl rfl) rfl rfl rfl H94 ?_
        clear H94; intro a95 H95
        refine plain (y_loadAB rfl z_agg50 z_size50 rfl (by repeat (first | exact Mh | apply Mt)) (q_ld_c8b32b32_0_72 (by assumption) (by assumption)) (q_len_c8b32b32 (by assumption) (by assumption))) rfl rfl rfl H95 ?_
        clear H95; intro a96 H96
        refine plain (y_fieldB rfl z_field52_4 rfl (by first | (simp only [Nat.zero_add, Nat.add_zero, Nat.reduceAdd]; rfl) | rfl)) rfl rfl rfl H96 ?_
        clear H96; intro a97 H97
        refine plain (y_loadB rfl z_agg3 rfl (by repeat (first | exact Mh | apply Mt)) q_ix_c15b32b32_4) rfl rfl rfl H97 ?_
        clear H97; intro a98 H98
        refine st_callk2 (is := [It.blk b 101 (Lane.lc len h u), It.mp h (Lane.hm L), It.mp u f]) (enters_call rfl z_call28 rfl) rfl rfl rfl H98 (.cons (by repeat (first | exact Ph | apply Pt)) (.cons (by repeat (first | exact Ph | apply Pt)) (.cons (by repeat (first | exact Ph | apply Pt)) (.nil _)))) (fun hs => ltake len L f hg hT (Lane.txOf ⟨len, L⟩ c) wfx c.now wcc.now b h u hs (hG.frm H98.sep.frm (by simp)) (fps_new H98.sep (.cons (by repeat (first | exact Ph | apply Pt)) (.cons (by repeat (first | exact Ph | apply Pt)) (.cons (by repeat (first | exact Ph | apply Pt)) (.nil _)))) hG (by decide))) ?_
        clear H98; intro v99 l99 a99 wx99 hf99 H99
        obtain ⟨rfl, f1, hT1, rfl⟩ := hf99
        simp only [List.cons_append, List.nil_append] at H99
        refine plain (y_move rfl rfl) rfl rfl rfl H99 ?_
        clear H99; intro a100 H100
        refine plain (y_neq rfl rfl rfl) rfl rfl rfl H100 ?_
        clear H100; intro a101 H101
        refine plain (y_pick_f rfl rfl rfl) rfl rfl rfl H101 ?_
        clear H101; intro a102 H102
        refine fin ?_
        refine then_n ?_
        refine cnd H102 rfl (fun hc103 => ?_) (fun hc103 => ?_) -- cond 3
        · (try simp only [decide_eq_true_eq, decide_eq_false_iff_not, Bool.not_eq_true', Bool.not_eq_false', Bool.and_eq_true, Bool.not_eq_true, Bool.not_eq_false] at hc103); (exfalso; exact hc103 (Lane.take_err _ _ _))
        · skip
          try simp only [decide_eq_true_eq, decide_eq_false_iff_not, Bool.not_eq_true', Bool.not_eq_false', Bool.and_eq_true, Bool.not_eq_true, Bool.not_eq_false] at hc103
          refine wp_skip ?_
          refine then_n ?_
          refine wp_seq ?_
          refine wp_seq ?_
          refine reg ?_
          refine plain (y_move rfl rfl) rfl rfl rfl H102 ?_
          clear H102; intro a104 H104
          refine plain (y_neq rfl rfl rfl) rfl rfl rfl H104 ?_
          clear H104; intro a105 H105
          refine fin ?_
          refine then_n ?_
          refine cnd H105 rfl (fun hc106 => ?_) (fun hc106 => ?_) -- cond 4
          · skip
            try simp only [decide_eq_true_eq, decide_eq_false_iff_not, Bool.not_eq_true', Bool.not_eq_false', Bool.and_eq_true, Bool.not_eq_true, Bool.not_eq_false] at hc106
            have hno := hc106
            refine wp_seq ?_
            refine reg ?_
            refine plain (y_move rfl rfl) rfl rfl rfl H105 ?_
            clear H105; intro a107 H107
            refine plain (y_fieldB rfl z_field50_6 rfl (by first | (simp only [Nat.zero_add, Nat.add_zero, Nat.reduceAdd]; rfl) | rfl)) rfl rfl rfl H107 ?_
            clear H107; intro a108 H108
            refine plain (y_loadB rfl z_agg3 rfl (by repeat (first | exact Mh | apply Mt)) q_ix_c8b32b32_6) rfl rfl rfl H108 ?_
            clear H108; intro a109 H109
            refine st_callg rfl z_call25 rfl rfl rfl rfl H109 (lturn len (Lane.take ⟨len, L⟩ (Lane.txOf ⟨len, L⟩ c) c.now).1.L f1 hT1 (Lane.txOf ⟨len, L⟩ c).round b h u (H109.sep.all _ (by repeat (first | exact Mh | apply Mt))) (H109.sep.all _ (by repeat (first | exact Mh | apply Mt)))) ?_
            clear H109; intro a110 wx110 H110
            refine plain (y_move rfl rfl) rfl rfl rfl H110 ?_
            clear H110; intro a111 H111
            refine plain (y_eql rfl rfl rfl) rfl rfl rfl H111 ?_
            clear H111; intro a112 H112
            refine plain (y_assign rfl rfl) rfl rfl rfl H112 ?_
            clear H112; intro a113 H113
            refine fin ?_
            refine then_n ?_
            refine wp_ret ?_
            refine then_r ?_
            -- return 1
            refine ret1 rfl H113 rfl ?_
            first | (exact ⟨_, [], rfl, ⟨congrArg Value.bool (decide_eq_true (by rw [Lane.take_no hno])), rfl⟩, H113.sep.sub (List.nil_sublist _)⟩) | (exact ⟨_, [], rfl, ⟨congrArg Value.bool (decide_eq_true hag.1), rfl⟩, H113.sep.sub (List.nil_sublist _)⟩)
          · skip
            try simp only [decide_eq_true_eq, decide_eq_false_iff_not, Bool.not_eq_true', Bool.not_eq_false', Bool.and_eq_true, Bool.not_eq_true, Bool.not_eq_false] at hc106
            have hok0 : Lane.check ⟨len, L⟩ (Lane.txOf ⟨len, L⟩ c) c.now = 0 := by omega
            have hag := Lane.again2 hok0
            obtain ⟨y, hy, hyt, hyb, hyx⟩ := Lane.take_is hok0
            have hyt2 : Lane.turnOf L (Lane.txOf ⟨len, L⟩ c).round = y.turn := hyt
            refine wp_skip ?_
            refine then_n ?_
            refine wp_seq ?_
            refine reg ?_
            refine plain (y_move rfl rfl) rfl rfl rfl H105 ?_
            clear H105; intro a114 H114
            refine plain (y_fieldB rfl z_field50_6 rfl (by first | (simp only [Nat.zero_add, Nat.add_zero, Nat.reduceAdd]; rfl) | rfl)) rfl rfl rfl H114 ?_
            clear H114; intro a115 H115
            refine plain (y_loadB rfl z_agg3 rfl (by repeat (first | exact Mh | apply Mt)) q_ix_c8b32b32_6) rfl rfl rfl H115 ?_
            clear H115; intro a116 H116
            refine st_callg rfl z_call25 rfl rfl rfl rfl H116 (lturn len (Lane.take ⟨len, L⟩ (Lane.txOf ⟨len, L⟩ c) c.now).1.L f1 hT1 (Lane.txOf ⟨len, L⟩ c).round b h u (H116.sep.all _ (by repeat (first | exact Mh | apply Mt))) (H116.sep.all _ (by repeat (first | exact Mh | apply Mt)))) ?_
            clear H116; intro a117 wx117 H117
            refine plain (y_move rfl rfl) rfl rfl rfl H117 ?_
            clear H117; intro a118 H118
            refine plain (y_add rfl rfl rfl (by first | exact w64 (by omega) (by omega) | rfl)) rfl rfl rfl H118 ?_
            clear H118; intro a119 H119
            refine plain (y_eql rfl rfl rfl) rfl rfl rfl H119 ?_
            clear H119; intro a120 H120
            refine plain (y_move rfl rfl) rfl rfl rfl H120 ?_
            clear H120; intro a121 H121
            have H123 := H121.know (d := 108) (v := .bool true) rfl (congrArg Value.bool (decide_eq_true (hag.2)))
            clear H121
            refine plain (y_move rfl rfl) rfl rfl rfl H123 ?_
            clear H123; intro a124 H124
            refine plain (y_loadAB rfl z_agg50 z_size50 rfl (by repeat (first | exact Mh | apply Mt)) (q_ld_c8b32b32_0_72 (by assumption) (by assumption)) (q_len_c8b32b32 (by assumption) (by assumption))) rfl rfl rfl H124 ?_
            clear H124; intro a125 H125
            refine plain (y_fieldB rfl z_field52_4 rfl (by first | (simp only [Nat.zero_add, Nat.add_zero, Nat.reduceAdd]; rfl) | rfl)) rfl rfl rfl H125 ?_
            clear H125; intro a126 H126
            refine plain (y_loadB rfl z_agg3 rfl (by repeat (first | exact Mh | apply Mt)) q_ix_c15b32b32_4) rfl rfl rfl H126 ?_
            clear H126; intro a127 H127
            refine st_callg rfl z_call27 rfl rfl rfl rfl H127 (lcheck len (Lane.take ⟨len, L⟩ (Lane.txOf ⟨len, L⟩ c) c.now).1.L f1 (Lane.good_take2 hg _ _) hT1 (Lane.txOf ⟨len, L⟩ c) wfx c.now wcc.now b h u (H127.sep.all _ (by repeat (first | exact Mh | apply Mt))) (H127.sep.all _ (by repeat (first | exact Mh | apply Mt))) (H127.sep.all _ (by repeat (first | exact Mh | apply Mt))) (hG.frm H127.sep.frm (by simp))) ?_
            clear H127; intro a128 wx128 H128
            refine plain (y_eql rfl rfl rfl) rfl rfl rfl H128 ?_
            clear H128; intro a129 H129
            refine plain (y_pick_t rfl rfl rfl) rfl rfl rfl H129 ?_
            clear H129; intro a130 H130
            refine plain (y_assign rfl rfl) rfl rfl rfl H130 ?_
            clear H130; intro a131 H131
            refine fin ?_
            refine then_n ?_
            refine wp_ret ?_
            -- return 2
            refine ret1 rfl H131 rfl ?_
            first | (exact ⟨_, [], rfl, ⟨congrArg Value.bool (decide_eq_true (by rw [Lane.take_no hno])), rfl⟩, H131.sep.sub (List.nil_sublist _)⟩) | (exact ⟨_, [], rfl, ⟨congrArg Value.bool (decide_eq_true hag.1), rfl⟩, H131.sep.sub (List.nil_sublist _)⟩)
  · first
    | fail
    | skip
      clear H42; intro H132
      try simp only [decide_eq_true_eq, decide_eq_false_iff_not, Bool.not_eq_true', Bool.not_eq_false', Bool.and_eq_true, Bool.not_eq_true, Bool.not_eq_false] at hg43
      refine skip rfl rfl rfl H132 ?_
      clear H132; intro a133 H133
      refine skip rfl rfl rfl H133 ?_
      clear H133; intro a134 H134
      refine plain (y_pick_f rfl rfl rfl) rfl rfl rfl H134 ?_
      clear H134; intro a135 H135
      refine fin ?_
      refine then_n ?_
      refine cnd_f H135 rfl ?_
      refine wp_exit ?_
      refine then_x ?_
      refine then_x ?_
      refine inb_hit ?_
      refine then_n ?_
      refine wp_seq ?_
      have wfx := Lane.txOf_wf hg wcc
      have whx := wfx.hand
      have wtx := wfx.tag
      refine reg ?_
      refine plain (y_move rfl rfl) rfl rfl rfl H135 ?_
      clear H135; intro a137 H137
      refine plain (y_loadAB rfl z_agg52 z_size52 rfl (by repeat (first | exact Mh | apply Mt)) (q_ld_c15b32b32_0_79 (by assumption) (by assumption)) (q_len_c15b32b32 (by assumption) (by assumption))) rfl rfl rfl H137 ?_
      clear H137; intro a138 H138
      refine st_callg rfl z_call26 rfl rfl rfl rfl H138 (ltx len L hlL hg c wcc x v (H138.sep.all _ (by repeat (first | exact Mh | apply Mt))) (H138.sep.all _ (by repeat (first | exact Mh | apply Mt)))) ?_
      clear H138; intro a139 wx139 H139
      refine st_alloc rfl z_zeroN50 rfl rfl rfl H139 ?_
      clear H139; intro b140 a140 wx140 H140
      refine st_storeN rfl z_size50 rfl rfl (agg_cells _) (by repeat (first | exact Uh | apply Ut)) (q_one_c8b32b32 rfl rfl rfl rfl rfl rfl rfl rfl) (q_len_c8b32b32 (by assumption) (by assumption)) (q_len_c8b32b32 (by assumption) (by assumption)) (q_spl_c8b32b32_0_c8b32b32 (by assumption) (by assumption) (by assumption) (by assumption)) (by decide) rfl rfl H140 ?_
      clear H140; intro wx141 H141
      refine fin ?_
      refine then_n ?_
      refine wp_seq ?_
      refine reg ?_
      refine plain (y_move rfl rfl) rfl rfl rfl H141 ?_
      clear H141; intro a142 H142
      refine plain (y_fieldB rfl z_field50_6 rfl (by first | (simp only [Nat.zero_add, Nat.add_zero, Nat.reduceAdd]; rfl) | rfl)) rfl rfl rfl H142 ?_
      clear H142; intro a143 H143
      refine plain (y_loadB rfl z_agg3 rfl (by repeat (first | exact Mh | apply Mt)) q_ix_c8b32b32_6) rfl rfl rfl H143 ?_
      clear H143; intro a144 H144
      refine st_callg rfl z_call25 rfl rfl rfl rfl H144 (lturn len L f hT (Lane.txOf ⟨len, L⟩ c).round b h u (H144.sep.all _ (by repeat (first | exact Mh | apply Mt))) (H144.sep.all _ (by repeat (first | exact Mh | apply Mt)))) ?_
      clear H144; intro a145 wx145 H145
      refine plain (y_assign rfl rfl) rfl rfl rfl H145 ?_
      clear H145; intro a146 H146
      refine fin ?_
      refine then_n ?_
      refine wp_seq ?_
      refine reg ?_
      refine plain (y_move rfl rfl) rfl rfl rfl H146 ?_
      clear H146; intro a147 H147
      refine plain (y_loadAB rfl z_agg50 z_size50 rfl (by repeat (first | exact Mh | apply Mt)) (q_ld_c8b32b32_0_72 (by assumption) (by assumption)) (q_len_c8b32b32 (by assumption) (by assumption))) rfl rfl rfl H147 ?_
      clear H147; intro a148 H148
      refine plain (y_fieldB rfl z_field52_4 rfl (by first | (simp only [Nat.zero_add, Nat.add_zero, Nat.reduceAdd]; rfl) | rfl)) rfl rfl rfl H148 ?_
      clear H148; intro a149 H149
      refine plain (y_loadB rfl z_agg3 rfl (by repeat (first | exact Mh | apply Mt)) q_ix_c15b32b32_4) rfl rfl rfl H149 ?_
      clear H149; intro a150 H150
      refine st_callg rfl z_call27 rfl rfl rfl rfl H150 (lcheck len L f hg hT (Lane.txOf ⟨len, L⟩ c) wfx c.now wcc.now b h u (H150.sep.all _ (by repeat (first | exact Mh | apply Mt))) (H150.sep.all _ (by repeat (first | exact Mh | apply Mt))) (H150.sep.all _ (by repeat (first | exact Mh | apply Mt))) (hG.frm H150.sep.frm (by simp))) ?_
      clear H150; intro a151 wx151 H151
      refine plain (y_assign rfl rfl) rfl rfl rfl H151 ?_
      clear H151; intro a152 H152
      refine fin ?_
      refine then_n ?_
      refine wp_seq ?_
      refine wp_seq ?_
      refine reg ?_
      refine plain (y_move rfl rfl) rfl rfl rfl H152 ?_
      clear H152; intro a153 H153
      refine plain (y_fieldB rfl z_field50_6 rfl (by first | (simp only [Nat.zero_add, Nat.add_zero, Nat.reduceAdd]; rfl) | rfl)) rfl rfl rfl H153 ?_
      clear H153; intro a154 H154
      refine plain (y_loadB rfl z_agg3 rfl (by repeat (first | exact Mh | apply Mt)) q_ix_c8b32b32_6) rfl rfl rfl H154 ?_
      clear H154; intro a155 H155
      refine st_callg rfl z_call25 rfl rfl rfl rfl H155 (lturn len L f hT (Lane.txOf ⟨len, L⟩ c).round b h u (H155.sep.all _ (by repeat (first | exact Mh | apply Mt))) (H155.sep.all _ (by repeat (first | exact Mh | apply Mt)))) ?_
      clear H155; intro a156 wx156 H156
      refine plain (y_move rfl rfl) rfl rfl rfl H156 ?_
      clear H156; intro a157 H157
      refine plain (y_neq rfl rfl rfl) rfl rfl rfl H157 ?_
      clear H157; intro a158 H158
      refine plain (y_move rfl rfl) rfl rfl rfl H158 ?_
      clear H158; intro a159 H159
      have H161 := H159.know (d := 75) (v := .bool false) rfl (congrArg Value.bool (decide_eq_false (by exact fun z => z rfl)))
      clear H159
      refine plain (y_move rfl rfl) rfl rfl rfl H161 ?_
      clear H161; intro a162 H162
      refine plain (y_loadAB rfl z_agg50 z_size50 rfl (by repeat (first | exact Mh | apply Mt)) (q_ld_c8b32b32_0_72 (by assumption) (by assumption)) (q_len_c8b32b32 (by assumption) (by assumption))) rfl rfl rfl H162 ?_
      clear H162; intro a163 H163
      refine plain (y_fieldB rfl z_field52_4 rfl (by first | (simp only [Nat.zero_add, Nat.add_zero, Nat.reduceAdd]; rfl) | rfl)) rfl rfl rfl H163 ?_
      clear H163; intro a164 H164
      refine plain (y_loadB rfl z_agg3 rfl (by repeat (first | exact Mh | apply Mt)) q_ix_c15b32b32_4) rfl rfl rfl H164 ?_
      clear H164; intro a165 H165
      refine st_callg rfl z_call27 rfl rfl rfl rfl H165 (lcheck len L f hg hT (Lane.txOf ⟨len, L⟩ c) wfx c.now wcc.now b h u (H165.sep.all _ (by repeat (first | exact Mh | apply Mt))) (H165.sep.all _ (by repeat (first | exact Mh | apply Mt))) (H165.sep.all _ (by repeat (first | exact Mh | apply Mt))) (hG.frm H165.sep.frm (by simp))) ?_
      clear H165; intro a166 wx166 H166
      refine plain (y_move rfl rfl) rfl rfl rfl H166 ?_
      clear H166; intro a167 H167
      refine plain (y_neq rfl rfl rfl) rfl rfl rfl H167 ?_
      clear H167; intro a168 H168
      refine plain (y_pick_f rfl rfl rfl) rfl rfl rfl H168 ?_
      clear H168; intro a169 H169
      refine plain (y_move rfl rfl) rfl rfl rfl H169 ?_
      clear H169; intro a170 H170
      have H172 := H170.know (d := 84) (v := .bool false) rfl (congrArg Value.bool (decide_eq_false (by exact fun z => z rfl)))
      clear H170
      refine plain (y_move rfl rfl) rfl rfl rfl H172 ?_
      clear H172; intro a173 H173
      refine plain (y_loadAB rfl z_agg50 z_size50 rfl (by repeat (first | exact Mh | apply Mt)) (q_ld_c8b32b32_0_72 (by assumption) (by assumption)) (q_len_c8b32b32 (by assumption) (by assumption))) rfl rfl rfl H173 ?_
      clear H173; intro a174 H174
      refine plain (y_fieldB rfl z_field52_4 rfl (by first | (simp only [Nat.zero_add, Nat.add_zero, Nat.reduceAdd]; rfl) | rfl)) rfl rfl rfl H174 ?_
      clear H174; intro a175 H175
      refine plain (y_loadB rfl z_agg3 rfl (by repeat (first | exact Mh | apply Mt)) q_ix_c15b32b32_4) rfl rfl rfl H175 ?_
      clear H175; intro a176 H176
      refine st_callk2 (is := [It.blk b 101 (Lane.lc len h u), It.mp h (Lane.hm L), It.mp u f]) (enters_call rfl z_call28 rfl) rfl rfl rfl H176 (.cons (by repeat (first | exact Ph | apply Pt)) (.cons (by repeat (first | exact Ph | apply Pt)) (.cons (by repeat (first | exact Ph | apply Pt)) (.nil _)))) (fun hs => ltake len L f hg hT (Lane.txOf ⟨len, L⟩ c) wfx c.now wcc.now b h u hs (hG.frm H176.sep.frm (by simp)) (fps_new H176.sep (.cons (by repeat (first | exact Ph | apply Pt)) (.cons (by repeat (first | exact Ph | apply Pt)) (.cons (by repeat (first | exact Ph | apply Pt)) (.nil _)))) hG (by decide))) ?_
      clear H176; intro v177 l177 a177 wx177 hf177 H177
      obtain ⟨rfl, f1, hT1, rfl⟩ := hf177
      simp only [List.cons_append, List.nil_append] at H177
      refine plain (y_move rfl rfl) rfl rfl rfl H177 ?_
      clear H177; intro a178 H178
      refine plain (y_neq rfl rfl rfl) rfl rfl rfl H178 ?_
      clear H178; intro a179 H179
      refine plain (y_pick_f rfl rfl rfl) rfl rfl rfl H179 ?_
      clear H179; intro a180 H180
      refine fin ?_
      refine then_n ?_
      refine cnd H180 rfl (fun hc181 => ?_) (fun hc181 => ?_) -- cond 6
      · (try simp only [decide_eq_true_eq, decide_eq_false_iff_not, Bool.not_eq_true', Bool.not_eq_false', Bool.and_eq_true, Bool.not_eq_true, Bool.not_eq_false] at hc181); (exfalso; exact hc181 (Lane.take_err _ _ _))
      · skip
        try simp only [decide_eq_true_eq, decide_eq_false_iff_not, Bool.not_eq_true', Bool.not_eq_false', Bool.and_eq_true, Bool.not_eq_true, Bool.not_eq_false] at hc181
        refine wp_skip ?_
        refine then_n ?_
        refine wp_seq ?_
        refine wp_seq ?_
        refine reg ?_
        refine plain (y_move rfl rfl) rfl rfl rfl H180 ?_
        clear H180; intro a182 H182
        refine plain (y_neq rfl rfl rfl) rfl rfl rfl H182 ?_
        clear H182; intro a183 H183
        refine fin ?_
        refine then_n ?_
        refine cnd H183 rfl (fun hc184 => ?_) (fun hc184 => ?_) -- cond 7
        · skip
          try simp only [decide_eq_true_eq, decide_eq_false_iff_not, Bool.not_eq_true', Bool.not_eq_false', Bool.and_eq_true, Bool.not_eq_true, Bool.not_eq_false] at hc184
          have hno := hc184
          refine wp_seq ?_
          refine reg ?_
          refine plain (y_move rfl rfl) rfl rfl rfl H183 ?_
          clear H183; intro a185 H185
          refine plain (y_fieldB rfl z_field50_6 rfl (by first | (simp only [Nat.zero_add, Nat.add_zero, Nat.reduceAdd]; rfl) | rfl)) rfl rfl rfl H185 ?_
          clear H185; intro a186 H186
          refine plain (y_loadB rfl z_agg3 rfl (by repeat (first | exact Mh | apply Mt)) q_ix_c8b32b32_6) rfl rfl rfl H186 ?_
          clear H186; intro a187 H187
          refine st_callg rfl z_call25 rfl rfl rfl rfl H187 (lturn len (Lane.take ⟨len, L⟩ (Lane.txOf ⟨len, L⟩ c) c.now).1.L f1 hT1 (Lane.txOf ⟨len, L⟩ c).round b h u (H187.sep.all _ (by repeat (first | exact Mh | apply Mt))) (H187.sep.all _ (by repeat (first | exact Mh | apply Mt)))) ?_
          clear H187; intro a188 wx188 H188
          refine plain (y_move rfl rfl) rfl rfl rfl H188 ?_
          clear H188; intro a189 H189
          refine plain (y_eql rfl rfl rfl) rfl rfl rfl H189 ?_
          clear H189; intro a190 H190
          refine plain (y_assign rfl rfl) rfl rfl rfl H190 ?_
          clear H190; intro a191 H191
          refine fin ?_
          refine then_n ?_
          refine wp_ret ?_
          refine then_r ?_
          -- return 3
          refine ret1 rfl H191 rfl ?_
          first | (exact ⟨_, [], rfl, ⟨congrArg Value.bool (decide_eq_true (by rw [Lane.take_no hno])), rfl⟩, H191.sep.sub (List.nil_sublist _)⟩) | (exact ⟨_, [], rfl, ⟨congrArg Value.bool (decide_eq_true hag.1), rfl⟩, H191.sep.sub (List.nil_sublist _)⟩)
        · skip
          try simp only [decide_eq_true_eq, decide_eq_false_iff_not, Bool.not_eq_true', Bool.not_eq_false', Bool.and_eq_true, Bool.not_eq_true, Bool.not_eq_false] at hc184
          have hok0 : Lane.check ⟨len, L⟩ (Lane.txOf ⟨len, L⟩ c) c.now = 0 := by omega
          have hag := Lane.again2 hok0
          obtain ⟨y, hy, hyt, hyb, hyx⟩ := Lane.take_is hok0
          have hyt2 : Lane.turnOf L (Lane.txOf ⟨len, L⟩ c).round = y.turn := hyt
          refine wp_skip ?_
          refine then_n ?_
          refine wp_seq ?_
          refine reg ?_
          refine plain (y_move rfl rfl) rfl rfl rfl H183 ?_
          clear H183; intro a192 H192
          refine plain (y_fieldB rfl z_field50_6 rfl (by first | (simp only [Nat.zero_add, Nat.add_zero, Nat.reduceAdd]; rfl) | rfl)) rfl rfl rfl H192 ?_
          clear H192; intro a193 H193
          refine plain (y_loadB rfl z_agg3 rfl (by repeat (first | exact Mh | apply Mt)) q_ix_c8b32b32_6) rfl rfl rfl H193 ?_
          clear H193; intro a194 H194
          refine st_callg rfl z_call25 rfl rfl rfl rfl H194 (lturn len (Lane.take ⟨len, L⟩ (Lane.txOf ⟨len, L⟩ c) c.now).1.L f1 hT1 (Lane.txOf ⟨len, L⟩ c).round b h u (H194.sep.all _ (by repeat (first | exact Mh | apply Mt))) (H194.sep.all _ (by repeat (first | exact Mh | apply Mt)))) ?_
          clear H194; intro a195 wx195 H195
          refine plain (y_move rfl rfl) rfl rfl rfl H195 ?_
          clear H195; intro a196 H196
          refine plain (y_add rfl rfl rfl (by first | exact w64 (by omega) (by omega) | rfl)) rfl rfl rfl H196 ?_
          clear H196; intro a197 H197
          refine plain (y_eql rfl rfl rfl) rfl rfl rfl H197 ?_
          clear H197; intro a198 H198
          refine plain (y_move rfl rfl) rfl rfl rfl H198 ?_
          clear H198; intro a199 H199
          have H201 := H199.know (d := 108) (v := .bool true) rfl (congrArg Value.bool (decide_eq_true (hag.2)))
          clear H199
          refine plain (y_move rfl rfl) rfl rfl rfl H201 ?_
          clear H201; intro a202 H202
          refine plain (y_loadAB rfl z_agg50 z_size50 rfl (by repeat (first | exact Mh | apply Mt)) (q_ld_c8b32b32_0_72 (by assumption) (by assumption)) (q_len_c8b32b32 (by assumption) (by assumption))) rfl rfl rfl H202 ?_
          clear H202; intro a203 H203
          refine plain (y_fieldB rfl z_field52_4 rfl (by first | (simp only [Nat.zero_add, Nat.add_zero, Nat.reduceAdd]; rfl) | rfl)) rfl rfl rfl H203 ?_
          clear H203; intro a204 H204
          refine plain (y_loadB rfl z_agg3 rfl (by repeat (first | exact Mh | apply Mt)) q_ix_c15b32b32_4) rfl rfl rfl H204 ?_
          clear H204; intro a205 H205
          refine st_callg rfl z_call27 rfl rfl rfl rfl H205 (lcheck len (Lane.take ⟨len, L⟩ (Lane.txOf ⟨len, L⟩ c) c.now).1.L f1 (Lane.good_take2 hg _ _) hT1 (Lane.txOf ⟨len, L⟩ c) wfx c.now wcc.now b h u (H205.sep.all _ (by repeat (first | exact Mh | apply Mt))) (H205.sep.all _ (by repeat (first | exact Mh | apply Mt))) (H205.sep.all _ (by repeat (first | exact Mh | apply Mt))) (hG.frm H205.sep.frm (by simp))) ?_
          clear H205; intro a206 wx206 H206
          refine plain (y_eql rfl rfl rfl) rfl rfl rfl H206 ?_
          clear H206; intro a207 H207
          refine plain (y_pick_t rfl rfl rfl) rfl rfl rfl H207 ?_
          clear H207; intro a208 H208
          refine plain (y_assign rfl rfl) rfl rfl rfl H208 ?_
          clear H208; intro a209 H209
          refine fin ?_
          refine then_n ?_
          refine wp_ret ?_
          -- return 4
          refine ret1 rfl H209 rfl ?_
          first | (exact ⟨_, [], rfl, ⟨congrArg Value.bool (decide_eq_true (by rw [Lane.take_no hno])), rfl⟩, H209.sep.sub (List.nil_sublist _)⟩) | (exact ⟨_, [], rfl, ⟨congrArg Value.bool (decide_eq_true hag.1), rfl⟩, H209.sep.sub (List.nil_sublist _)⟩)
set_option maxRecDepth 100000 in
set_option maxHeartbeats 1000000 in
theorem laneChecks0 (len : Int) (h1 : ¬ (1 ≤ len ∧ len ≤ 1099511627776)) (l : List Lane.Act) (A : Option Addr) (ca : Nat) (hl0 : l.length ≤ 9223372036854775807) (wl : ∀ z ∈ l, Lane.Act.Wf z) (c : Lane.Act) (wcc : Lane.Act.Wf c) {w : World} (hA : Rd w A (Lane.acs l)) (hG : Glob 0 Sha.K w) : Calls Tryd.prog 8 #[.int .i64 len, .slice A l.length ca, .agg (Lane.Act.cells c).toArray] w (Gives (.bool true) [] w) := by
  have whc := wcc.tx.hand
  have wtc := wcc.tx.tag
  have lz32 : (List.replicate 32 (0 : UInt8)).length = 32 := List.length_replicate
  have lz0 := wcc.tx.hand
  have lz1 := wcc.tx.tag
  refine enterL (args := [.int .i64 len, .slice A l.length ca, .agg (Lane.Act.cells c).toArray]) Tryd.func8 rfl rfl (l := []) (Sep.refl _) ?_
  intro a0 H0
  refine wp_seq ?_
  refine reg ?_
  refine st_box rfl rfl (agg_cells _) rfl rfl rfl H0 ?_
  clear H0; intro b1 a1 wx1 H1
  refine plain (y_assign rfl rfl) rfl rfl rfl H1 ?_
  clear H1; intro a2 H2
  refine fin ?_
  refine then_n ?_
  refine wp_seq ?_
  refine reg ?_
  refine plain (y_move rfl rfl) rfl rfl rfl H2 ?_
  clear H2; intro a3 H3
  refine st_callg rfl z_call17 rfl rfl rfl rfl H3 (lnewBad len h1 _) ?_
  clear H3; intro a4 wx4 H4
  refine plain (y_move rfl rfl) rfl rfl rfl H4 ?_
  clear H4; intro a5 H5
  refine plain (y_extract rfl rfl rfl) rfl rfl rfl H5 ?_
  clear H5; intro a6 H6
  refine plain (y_extract rfl rfl rfl) rfl rfl rfl H6 ?_
  clear H6; intro a7 H7
  refine plain (y_assign rfl rfl) rfl rfl rfl H7 ?_
  clear H7; intro a8 H8
  refine plain (y_assign rfl rfl) rfl rfl rfl H8 ?_
  clear H8; intro a9 H9
  refine fin ?_
  refine then_n ?_
  refine wp_seq ?_
  refine reg ?_
  refine plain (y_move rfl rfl) rfl rfl rfl H9 ?_
  clear H9; intro a10 H10
  refine st_callg rfl z_call20 rfl rfl rfl rfl H10 (xnewBad len h1 _) ?_
  clear H10; intro a11 wx11 H11
  refine plain (y_move rfl rfl) rfl rfl rfl H11 ?_
  clear H11; intro a12 H12
  refine plain (y_extract rfl rfl rfl) rfl rfl rfl H12 ?_
  clear H12; intro a13 H13
  refine plain (y_extract rfl rfl rfl) rfl rfl rfl H13 ?_
  clear H13; intro a14 H14
  refine plain (y_assign rfl rfl) rfl rfl rfl H14 ?_
  clear H14; intro a15 H15
  refine plain (y_assign rfl rfl) rfl rfl rfl H15 ?_
  clear H15; intro a16 H16
  refine fin ?_
  refine then_n ?_
  refine wp_seq ?_
  refine wp_seq ?_
  refine reg ?_
  refine st_callg rfl z_call18 rfl rfl rfl rfl H16 (lawake16 (hG.frm H16.sep.frm (by simp))) ?_
  clear H16; intro a17 wx17 H17
  refine plain (y_not rfl rfl) rfl rfl rfl H17 ?_
  clear H17; intro a18 H18
  refine plain (y_move rfl rfl) rfl rfl rfl H18 ?_
  clear H18; intro a19 H19
  refine plain (y_move rfl rfl) rfl rfl rfl H19 ?_
  clear H19; intro a20 H20
  refine plain (y_neq rfl rfl rfl) rfl rfl rfl H20 ?_
  clear H20; intro a21 H21
  refine plain (y_pick_f rfl rfl rfl) rfl rfl rfl H21 ?_
  clear H21; intro a22 H22
  refine plain (y_move rfl rfl) rfl rfl rfl H22 ?_
  clear H22; intro a23 H23
  have H25 := H23.know (d := 31) (v := .bool true) rfl (congrArg Value.bool (decide_eq_true (by decide)))
  clear H23
  refine skip rfl rfl rfl H25 ?_
  clear H25; intro a26 H26
  refine skip rfl rfl rfl H26 ?_
  clear H26; intro a27 H27
  refine plain (y_pick_t rfl rfl rfl) rfl rfl rfl H27 ?_
  clear H27; intro a28 H28
  refine plain (y_move rfl rfl) rfl rfl rfl H28 ?_
  clear H28; intro a29 H29
  refine skip rfl rfl rfl H29 ?_
  clear H29; intro a30 H30
  refine skip rfl rfl rfl H30 ?_
  clear H30; intro a31 H31
  refine plain (y_pick_t rfl rfl rfl) rfl rfl rfl H31 ?_
  clear H31; intro a32 H32
  refine fin ?_
  refine then_n ?_
  refine cnd_t H32 rfl ?_
  refine wp_seq ?_
  refine reg ?_
  refine st_callg rfl z_call18 rfl rfl rfl rfl H32 (lawake16 (hG.frm H32.sep.frm (by simp))) ?_
  clear H32; intro a34 wx34 H34
  refine plain (y_assign rfl rfl) rfl rfl rfl H34 ?_
  clear H34; intro a35 H35
  refine fin ?_
  refine then_n ?_
  refine wp_ret ?_
  refine then_r ?_
  -- return 1
  refine ret1 rfl H35 rfl ?_
  exact ⟨_, [], rfl, ⟨rfl, rfl⟩, H35.sep.sub (List.nil_sublist _)⟩
theorem laneChecks (len : Int) (l : List Lane.Act) (A : Option Addr) (ca : Nat) (hl0 : l.length ≤ 9223372036854775807) (wl : ∀ z ∈ l, Lane.Act.Wf z) (c : Lane.Act) (wcc : Lane.Act.Wf c) {w : World} (hA : Rd w A (Lane.acs l)) (hG : Glob 0 Sha.K w) : Calls Tryd.prog 8 #[.int .i64 len, .slice A l.length ca, .agg (Lane.Act.cells c).toArray] w (Gives (.bool true) [] w) := by
  by_cases h1 : 1 ≤ len ∧ len ≤ 1099511627776
  · exact laneChecks1 len h1 l A ca hl0 wl c wcc hA hG
  · exact laneChecks0 len h1 l A ca hl0 wl c wcc hA hG

end Go.Proofs.YtaeahloenahelaaDoor.A_L7

set_option linter.unusedVariables false
set_option linter.unusedSimpArgs false
namespace Go.Proofs.YtaeahloenahelaaDoor.A_RdL
open Go.Sx Go.RowKit

theorem rd_Tx {H : Type} {enc : TypeId × Value → H} {W : World} {sp : Nat → Bool} {held : Bool} {cs : List Value} (h : Trw enc Tryd.prog W sp held 50 cs) : ∃ (x : Txs.Tx), cs = Txs.Tx.cells x ∧ Txs.Tx.Wf x := by
  have hp := h.pieces Tryd.underlying50 [1, 1, 1, 1, 1, 1, 1, 1, 32, 32] (by kernel_rfl)
  obtain ⟨v0, e0, w0⟩ := (h.field Tryd.underlying50 0 rfl (o := 0) rfl (T := 3) rfl (k := 1) (by kernel_rfl)).i64 Tryd.underlying3
  obtain ⟨v1, e1, w1⟩ := (h.field Tryd.underlying50 1 rfl (o := 1) rfl (T := 3) rfl (k := 1) (by kernel_rfl)).i64 Tryd.underlying3
  obtain ⟨v2, e2, w2⟩ := (h.field Tryd.underlying50 2 rfl (o := 2) rfl (T := 3) rfl (k := 1) (by kernel_rfl)).i64 Tryd.underlying3
  obtain ⟨v3, e3, w3⟩ := (h.field Tryd.underlying50 3 rfl (o := 3) rfl (T := 3) rfl (k := 1) (by kernel_rfl)).i64 Tryd.underlying3
  obtain ⟨v4, e4, w4⟩ := (h.field Tryd.underlying50 4 rfl (o := 4) rfl (T := 9) rfl (k := 1) (by kernel_rfl)).str Tryd.underlying9
  obtain ⟨v5, e5⟩ := (h.field Tryd.underlying50 5 rfl (o := 5) rfl (T := 4) rfl (k := 1) (by kernel_rfl)).bool Tryd.underlying4
  obtain ⟨v6, e6, w6⟩ := (h.field Tryd.underlying50 6 rfl (o := 6) rfl (T := 3) rfl (k := 1) (by kernel_rfl)).i64 Tryd.underlying3
  obtain ⟨v7, e7, w7⟩ := (h.field Tryd.underlying50 7 rfl (o := 7) rfl (T := 3) rfl (k := 1) (by kernel_rfl)).i64 Tryd.underlying3
  obtain ⟨v8, e8, w8⟩ := (h.field Tryd.underlying50 8 rfl (o := 8) rfl (T := 28) rfl (k := 32) (by kernel_rfl)).bytes Tryd.underlying28 Tryd.underlying5 (by kernel_rfl) (by kernel_rfl)
  obtain ⟨v9, e9, w9⟩ := (h.field Tryd.underlying50 9 rfl (o := 40) rfl (T := 28) rfl (k := 32) (by kernel_rfl)).bytes Tryd.underlying28 Tryd.underlying5 (by kernel_rfl) (by kernel_rfl)
  refine ⟨⟨v0, v1, v2, v3, v4, v5, v6, v7, v8, v9⟩, ?_, w0, w1, w2, w3, w4, w6, w7, w8, w9⟩
  rw [hp]
  simp only [Sx.pieces, Nat.zero_add, Nat.reduceAdd, e0, e1, e2, e3, e4, e5, e6, e7, e8, e9]
  first | rfl | simp [Txs.Tx.cells]
theorem rd_Act {H : Type} {enc : TypeId × Value → H} {W : World} {sp : Nat → Bool} {held : Bool} {cs : List Value} (h : Trw enc Tryd.prog W sp held 52 cs) : ∃ (x : Lane.Act), cs = Lane.Act.cells x ∧ Lane.Act.Wf x := by
  have hp := h.pieces Tryd.underlying52 [1, 1, 1, 1, 1, 1, 1, 72] (by kernel_rfl)
  obtain ⟨v0, e0, w0⟩ := (h.field Tryd.underlying52 0 rfl (o := 0) rfl (T := 3) rfl (k := 1) (by kernel_rfl)).i64 Tryd.underlying3
  obtain ⟨v1, e1, w1⟩ := (h.field Tryd.underlying52 1 rfl (o := 1) rfl (T := 3) rfl (k := 1) (by kernel_rfl)).i64 Tryd.underlying3
  obtain ⟨v2, e2, w2⟩ := (h.field Tryd.underlying52 2 rfl (o := 2) rfl (T := 3) rfl (k := 1) (by kernel_rfl)).i64 Tryd.underlying3
  obtain ⟨v3, e3, w3⟩ := (h.field Tryd.underlying52 3 rfl (o := 3) rfl (T := 3) rfl (k := 1) (by kernel_rfl)).i64 Tryd.underlying3
  obtain ⟨v4, e4, w4⟩ := (h.field Tryd.underlying52 4 rfl (o := 4) rfl (T := 3) rfl (k := 1) (by kernel_rfl)).i64 Tryd.underlying3
  obtain ⟨v5, e5, w5⟩ := (h.field Tryd.underlying52 5 rfl (o := 5) rfl (T := 3) rfl (k := 1) (by kernel_rfl)).i64 Tryd.underlying3
  obtain ⟨v6, e6⟩ := (h.field Tryd.underlying52 6 rfl (o := 6) rfl (T := 4) rfl (k := 1) (by kernel_rfl)).bool Tryd.underlying4
  obtain ⟨v7, e7, w7⟩ := rd_Tx (h.field Tryd.underlying52 7 rfl (o := 7) rfl (T := 50) rfl (k := 72) (by kernel_rfl))
  refine ⟨⟨v0, v1, v2, v3, v4, v5, v6, v7⟩, ?_, w0, w1, w2, w3, w4, w5, w7⟩
  rw [hp]
  simp only [Sx.pieces, Nat.zero_add, Nat.reduceAdd, e0, e1, e2, e3, e4, e5, e6, e7]
  first | rfl | (simp [Lane.Act.cells]; rfl)

end Go.Proofs.YtaeahloenahelaaDoor.A_RdL
