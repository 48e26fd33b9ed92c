/- Part of a proof about given Go functions: contracts of functions, or plain laws. -/
import Derived.Test.YtaeahloenahelaaDoorLaneV
import Derived.Test.YtaeahloenahelaaDoorSxI
import Derived.Test.YtaeahloenahelaaDoorSxN
import Derived.Test.YtaeahloenahelaaDoorSxK
import Derived.Test.YtaeahloenahelaaDoorSxM
import Derived.Test.YtaeahloenahelaaDoorProg
import Derived.Test.YtaeahloenahelaaDoorW1
import Derived.Test.YtaeahloenahelaaDoorW3
import Derived.Test.YtaeahloenahelaaDoorW2
import Derived.Test.YtaeahloenahelaaDoorW4
import Derived.Test.YtaeahloenahelaaDoorSxTx
set_option linter.unusedVariables false
set_option linter.unusedSimpArgs false
namespace Go.Proofs.YtaeahloenahelaaDoor.A_L6
open Go.Sx Go.RowKit Go.Proofs.YtaeahloenahelaaDoor.A_Block Go.Proofs.YtaeahloenahelaaDoor.A_Sum Go.Proofs.YtaeahloenahelaaDoor.A_Ref Go.Proofs.YtaeahloenahelaaDoor.A_RSum Go.Proofs.YtaeahloenahelaaDoor.A_Ln1 Go.Proofs.YtaeahloenahelaaDoor.A_Ln2 Go.Proofs.YtaeahloenahelaaDoor.A_Ln3 Go.Proofs.YtaeahloenahelaaDoor.A_Tx Go.Proofs.YtaeahloenahelaaDoor.A_Body Go.Proofs.YtaeahloenahelaaDoor.A_RBody Go.Proofs.YtaeahloenahelaaDoor.A_RHand Go.Proofs.YtaeahloenahelaaDoor.A_Chk Go.Proofs.YtaeahloenahelaaDoor.A_Leaf Go.Proofs.YtaeahloenahelaaDoor.A_Key Go.Proofs.YtaeahloenahelaaDoor.A_Tag Go.Proofs.YtaeahloenahelaaDoor.A_X1 Go.Proofs.YtaeahloenahelaaDoor.A_X2 Go.Proofs.YtaeahloenahelaaDoor.A_X3 Go.Proofs.YtaeahloenahelaaDoor.A_Ltx Go.Proofs.YtaeahloenahelaaDoor.A_Ldo Go.Proofs.YtaeahloenahelaaDoor.A_Ln4

theorem z_call17 : callB Tryd.prog 17 = true := by kernel_rfl
theorem z_call20 : callB Tryd.prog 20 = true := by kernel_rfl
theorem z_call18 : callB Tryd.prog 18 = true := by kernel_rfl
theorem z_size52 : sizeB Tryd.prog 52 = some 79 := by kernel_rfl
theorem z_agg52 : aggB Tryd.prog 52 = some true := by kernel_rfl
theorem z_zeroN52 : zeroL Tryd.prog 52 = some ((.int .i64 0 :: (.int .i64 0 :: (.int .i64 0 :: (.int .i64 0 :: (.int .i64 0 :: (.int .i64 0 :: (.bool false :: (.int .i64 0 :: (.int .i64 0 :: (.int .i64 0 :: (.int .i64 0 :: (.string ⟨#[]⟩ :: (.bool false :: (.int .i64 0 :: (.int .i64 0 :: ((List.replicate 32 (0 : UInt8)).map u8 ++ (List.replicate 32 (0 : UInt8)).map u8))))))))))))))))) := by kernel_rfl
theorem q_one_c15b32b32 {a0 a1 a2 a3 a4 a5 a6 a7 a8 a9 a10 a11 a12 a13 a14 : Value} {t15 t16 : List UInt8} (o0 : a0.oneCell' = true) (o1 : a1.oneCell' = true) (o2 : a2.oneCell' = true) (o3 : a3.oneCell' = true) (o4 : a4.oneCell' = true) (o5 : a5.oneCell' = true) (o6 : a6.oneCell' = true) (o7 : a7.oneCell' = true) (o8 : a8.oneCell' = true) (o9 : a9.oneCell' = true) (o10 : a10.oneCell' = true) (o11 : a11.oneCell' = true) (o12 : a12.oneCell' = true) (o13 : a13.oneCell' = true) (o14 : a14.oneCell' = true) : (a0 :: a1 :: a2 :: a3 :: a4 :: a5 :: a6 :: a7 :: a8 :: a9 :: a10 :: a11 :: a12 :: a13 :: a14 :: (t15.map u8 ++ (t16.map u8))).all (·.oneCell') = true := (one_c o0 (one_c o1 (one_c o2 (one_c o3 (one_c o4 (one_c o5 (one_c o6 (one_c o7 (one_c o8 (one_c o9 (one_c o10 (one_c o11 (one_c o12 (one_c o13 (one_c o14 (one_b (one_u8 _)))))))))))))))))
theorem q_len_c15b32b32 {a0 a1 a2 a3 a4 a5 a6 a7 a8 a9 a10 a11 a12 a13 a14 : Value} {t15 t16 : List UInt8} (h15 : t15.length = 32) (h16 : t16.length = 32) : (a0 :: a1 :: a2 :: a3 :: a4 :: a5 :: a6 :: a7 :: a8 :: a9 :: a10 :: a11 :: a12 :: a13 :: a14 :: (t15.map u8 ++ (t16.map u8))).length = 79 := (len_c (n := 78) (len_c (n := 77) (len_c (n := 76) (len_c (n := 75) (len_c (n := 74) (len_c (n := 73) (len_c (n := 72) (len_c (n := 71) (len_c (n := 70) (len_c (n := 69) (len_c (n := 68) (len_c (n := 67) (len_c (n := 66) (len_c (n := 65) (len_c (n := 64) (len_b (k := 32) (n := 32) h15 (len_e (k := 32) h16)))))))))))))))))
theorem q_spl_c15b32b32_0_c15b32b32 {a0 a1 a2 a3 a4 a5 a6 a7 a8 a9 a10 a11 a12 a13 a14 : Value} {t15 t16 : List UInt8} {b0 b1 b2 b3 b4 b5 b6 b7 b8 b9 b10 b11 b12 b13 b14 : Value} {s15 s16 : List UInt8} (h15 : t15.length = 32) (h16 : t16.length = 32) (g15 : s15.length = 32) (g16 : s16.length = 32) : spl (a0 :: a1 :: a2 :: a3 :: a4 :: a5 :: a6 :: a7 :: a8 :: a9 :: a10 :: a11 :: a12 :: a13 :: a14 :: (t15.map u8 ++ (t16.map u8))) 0 (b0 :: b1 :: b2 :: b3 :: b4 :: b5 :: b6 :: b7 :: b8 :: b9 :: b10 :: b11 :: b12 :: b13 :: b14 :: (s15.map u8 ++ (s16.map u8))) = b0 :: b1 :: b2 :: b3 :: b4 :: b5 :: b6 :: b7 :: b8 :: b9 :: b10 :: b11 :: b12 :: b13 :: b14 :: (s15.map u8 ++ (s16.map u8)) := (spl_a (z := 79) (len_c (n := 78) (len_c (n := 77) (len_c (n := 76) (len_c (n := 75) (len_c (n := 74) (len_c (n := 73) (len_c (n := 72) (len_c (n := 71) (len_c (n := 70) (len_c (n := 69) (len_c (n := 68) (len_c (n := 67) (len_c (n := 66) (len_c (n := 65) (len_c (n := 64) (len_b (k := 32) (n := 32) h15 (len_e (k := 32) h16))))))))))))))))) (len_c (n := 78) (len_c (n := 77) (len_c (n := 76) (len_c (n := 75) (len_c (n := 74) (len_c (n := 73) (len_c (n := 72) (len_c (n := 71) (len_c (n := 70) (len_c (n := 69) (len_c (n := 68) (len_c (n := 67) (len_c (n := 66) (len_c (n := 65) (len_c (n := 64) (len_b (k := 32) (n := 32) g15 (len_e (k := 32) g16))))))))))))))))))
theorem q_ld_c15b32b32_0_79 {a0 a1 a2 a3 a4 a5 a6 a7 a8 a9 a10 a11 a12 a13 a14 : Value} {t15 t16 : List UInt8} (h15 : t15.length = 32) (h16 : t16.length = 32) : ((a0 :: a1 :: a2 :: a3 :: a4 :: a5 :: a6 :: a7 :: a8 :: a9 :: a10 :: a11 :: a12 :: a13 :: a14 :: (t15.map u8 ++ (t16.map u8))).drop 0).take 79 = a0 :: a1 :: a2 :: a3 :: a4 :: a5 :: a6 :: a7 :: a8 :: a9 :: a10 :: a11 :: a12 :: a13 :: a14 :: (t15.map u8 ++ (t16.map u8)) := (ld_a (len_c (n := 78) (len_c (n := 77) (len_c (n := 76) (len_c (n := 75) (len_c (n := 74) (len_c (n := 73) (len_c (n := 72) (len_c (n := 71) (len_c (n := 70) (len_c (n := 69) (len_c (n := 68) (len_c (n := 67) (len_c (n := 66) (len_c (n := 65) (len_c (n := 64) (len_b (k := 32) (n := 32) h15 (len_e (k := 32) h16))))))))))))))))))
theorem z_call21 : callB Tryd.prog 21 = true := by kernel_rfl
theorem z_field52_4 : fieldB Tryd.prog 52 4 = some 4 := by kernel_rfl
theorem z_agg3 : aggB Tryd.prog 3 = some false := by kernel_rfl
theorem q_ix_c15b32b32_4 {a0 a1 a2 a3 a4 a5 a6 a7 a8 a9 a10 a11 a12 a13 a14 : Value} {t15 t16 : List UInt8} : (a0 :: a1 :: a2 :: a3 :: a4 :: a5 :: a6 :: a7 :: a8 :: a9 :: a10 :: a11 :: a12 :: a13 :: a14 :: (t15.map u8 ++ (t16.map u8)))[4]? = some a4 := (ix_c (o := 3) (ix_c (o := 2) (ix_c (o := 1) (ix_c (o := 0) ix_0))))
theorem z_call19 : callB Tryd.prog 19 = true := by kernel_rfl
theorem z_call22 : callB Tryd.prog 22 = true := by kernel_rfl
theorem z_field52_1 : fieldB Tryd.prog 52 1 = some 1 := by kernel_rfl
theorem q_ix_c15b32b32_1 {a0 a1 a2 a3 a4 a5 a6 a7 a8 a9 a10 a11 a12 a13 a14 : Value} {t15 t16 : List UInt8} : (a0 :: a1 :: a2 :: a3 :: a4 :: a5 :: a6 :: a7 :: a8 :: a9 :: a10 :: a11 :: a12 :: a13 :: a14 :: (t15.map u8 ++ (t16.map u8)))[1]? = some a1 := (ix_c (o := 0) ix_0)
theorem z_call23 : callB Tryd.prog 23 = true := by kernel_rfl
theorem z_call24 : callB Tryd.prog 24 = true := by kernel_rfl
theorem z_field60_1 : fieldB Tryd.prog 60 1 = some 1 := by kernel_rfl
theorem z_agg58 : aggB Tryd.prog 58 = some false := by kernel_rfl
theorem q_ix_c2_1 {a0 a1 : Value} : (a0 :: a1 :: [])[1]? = some a1 := (ix_c (o := 0) ix_0)
theorem z_size57 : sizeB Tryd.prog 57 = some 3 := by kernel_rfl
theorem z_field57_1 : fieldB Tryd.prog 57 1 = some 1 := by kernel_rfl
theorem z_call25 : callB Tryd.prog 25 = true := by kernel_rfl
theorem z_field57_2 : fieldB Tryd.prog 57 2 = some 2 := by kernel_rfl

set_option maxRecDepth 100000 in
set_option maxHeartbeats 4000000 in
theorem laneDoes1 (len : Int) (h1 : 1 ≤ len ∧ len ≤ 1099511627776) (l : List Lane.Act) (A : Option Addr) (ca : Nat) (hl0 : l.length ≤ 9223372036854775807) (wl : ∀ z ∈ l, Lane.Act.Wf z) {w : World} (hA : Rd w A (Lane.acs l)) (hG : Glob 0 Sha.K w) : Calls Tryd.prog 7 #[.int .i64 len, .slice A l.length ca] w (Gives (.bool true) [] w) := by
  have lz32 : (List.replicate 32 (0 : UInt8)).length = 32 := List.length_replicate
  refine enterL (args := [.int .i64 len, .slice A l.length ca]) Tryd.func7 rfl rfl (l := []) (Sep.refl _) ?_
  intro a0 H0
  refine wp_seq ?_
  refine reg ?_
  refine plain (y_assign rfl rfl) rfl rfl rfl H0 ?_
  clear H0; intro a1 H1
  refine fin ?_
  refine then_n ?_
  refine wp_seq ?_
  refine reg ?_
  refine plain (y_move rfl rfl) rfl rfl rfl H1 ?_
  clear H1; intro a2 H2
  refine st_call rfl z_call17 rfl rfl rfl rfl H2 (lnew len h1 _) ?_
  clear H2; intro v3 l3 a3 wx3 hf3 H3
  obtain ⟨b, h, u, rfl, rfl⟩ := hf3
  simp only [List.cons_append, List.nil_append] at H3
  refine plain (y_move rfl rfl) rfl rfl rfl H3 ?_
  clear H3; intro a4 H4
  refine plain (y_extract rfl rfl rfl) rfl rfl rfl H4 ?_
  clear H4; intro a5 H5
  refine plain (y_extract rfl rfl rfl) rfl rfl rfl H5 ?_
  clear H5; intro a6 H6
  refine plain (y_assign rfl rfl) rfl rfl rfl H6 ?_
  clear H6; intro a7 H7
  refine plain (y_assign rfl rfl) rfl rfl rfl H7 ?_
  clear H7; intro a8 H8
  refine fin ?_
  refine then_n ?_
  refine wp_seq ?_
  refine reg ?_
  refine plain (y_move rfl rfl) rfl rfl rfl H8 ?_
  clear H8; intro a9 H9
  refine st_call rfl z_call20 rfl rfl rfl rfl H9 (xnew len h1 _) ?_
  clear H9; intro v10 l10 a10 wx10 hf10 H10
  obtain ⟨x, rfl, rfl⟩ := hf10
  simp only [List.cons_append, List.nil_append] at H10
  refine plain (y_move rfl rfl) rfl rfl rfl H10 ?_
  clear H10; intro a11 H11
  refine plain (y_extract rfl rfl rfl) rfl rfl rfl H11 ?_
  clear H11; intro a12 H12
  refine plain (y_extract rfl rfl rfl) rfl rfl rfl H12 ?_
  clear H12; intro a13 H13
  refine plain (y_assign rfl rfl) rfl rfl rfl H13 ?_
  clear H13; intro a14 H14
  refine plain (y_assign rfl rfl) rfl rfl rfl H14 ?_
  clear H14; intro a15 H15
  refine fin ?_
  refine then_n ?_
  refine wp_seq ?_
  refine wp_seq ?_
  refine reg ?_
  refine plain (y_move rfl rfl) rfl rfl rfl H15 ?_
  clear H15; intro a16 H16
  refine plain (y_move rfl rfl) rfl rfl rfl H16 ?_
  clear H16; intro a17 H17
  refine plain (y_neq rfl rfl rfl) rfl rfl rfl H17 ?_
  clear H17; intro a18 H18
  refine plain (y_move rfl rfl) rfl rfl rfl H18 ?_
  clear H18; intro a19 H19
  have H21 := H19.know (d := 27) (v := .bool false) rfl (congrArg Value.bool (decide_eq_false (by decide)))
  clear H19
  refine plain (y_move rfl rfl) rfl rfl rfl H21 ?_
  clear H21; intro a22 H22
  refine plain (y_peql rfl Tryd.underlying39 rfl rfl) rfl rfl rfl H22 ?_
  clear H22; intro a23 H23
  refine plain (y_move rfl rfl) rfl rfl rfl H23 ?_
  clear H23; intro a24 H24
  refine plain (y_peql rfl Tryd.underlying46 rfl rfl) rfl rfl rfl H24 ?_
  clear H24; intro a25 H25
  refine plain (y_bneq rfl Tryd.underlying4 rfl rfl) rfl rfl rfl H25 ?_
  clear H25; intro a26 H26
  refine plain (y_pick_f rfl rfl rfl) rfl rfl rfl H26 ?_
  clear H26; intro a27 H27
  refine plain (y_move rfl rfl) rfl rfl rfl H27 ?_
  clear H27; intro a28 H28
  have H30 := H28.know (d := 34) (v := .bool false) rfl (rfl)
  clear H28
  refine st_callg rfl z_call18 rfl rfl rfl rfl H30 (lawake16 (hG.frm H30.sep.frm (by simp))) ?_
  clear H30; intro a31 wx31 H31
  refine plain (y_not rfl rfl) rfl rfl rfl H31 ?_
  clear H31; intro a32 H32
  refine plain (y_pick_f rfl rfl rfl) rfl rfl rfl H32 ?_
  clear H32; intro a33 H33
  refine fin ?_
  refine then_n ?_
  refine cnd_f H33 rfl ?_
  refine wp_skip ?_
  refine then_n ?_
  refine wp_seq ?_
  refine wp_seq ?_
  refine reg ?_
  refine plain (y_move rfl rfl) rfl rfl rfl H33 ?_
  clear H33; intro a35 H35
  refine plain (y_peql rfl Tryd.underlying46 rfl rfl) rfl rfl rfl H35 ?_
  clear H35; intro a36 H36
  refine fin ?_
  refine then_n ?_
  refine cnd_f H36 rfl ?_
  refine wp_skip ?_
  refine then_n ?_
  refine wp_seq ?_
  refine wp_seq ?_
  refine reg ?_
  refine plain (y_assign rfl rfl) rfl rfl rfl H36 ?_
  clear H36; intro a38 H38
  refine fin ?_
  refine then_n ?_
  refine wp_block ?_
  refine loop (ι := Nat × (List Lane.Held × ((Int → Option Value) × Value))) (fun y => [(1, .slice A l.length ca), (5, .pointer (some ⟨b, 0, none⟩)), (7, .pointer (some ⟨x, 0, none⟩)), (9, .int .i64 (y.1 : Int))]) (fun y => [It.row 57 3 y.2.2.2 y.2.1.length (Lane.hc y.2.1), It.blk x 60 [i64 len, y.2.2.2], It.blk b 101 (Lane.lc len h u), It.mp h (Lane.hm y.2.1), It.mp u y.2.2.1]) (fun y => y.1 ≤ 60 ∧ Lane.Good ⟨len, y.2.1⟩ ∧ Lane.Turns y.2.1 y.2.2.1 ∧ y.2.1.length ≤ y.1) (fun y => 60 - y.1) ((0, (([] : List Lane.Held), ((fun _ => none : Int → Option Value), (.slice none 0 0 : Value))))) ⟨Nat.zero_le _, Lane.good_new h1, Lane.turns_nil, Nat.le_refl _⟩ (H38.weak ⟨rfl, rfl, rfl, rfl, trivial⟩ rfl) ?_
  clear H38; intro y a39 wx39 hok39 H39
  obtain ⟨k, L, f, v⟩ := y
  dsimp only at hok39 H39
  obtain ⟨hk, hg, hT, hL⟩ := hok39
  have hlL : L.length ≤ 1000000 := by omega
  have hdm := Lane.doo_more len L (l.getD k Lane.Act.zero)
  have hlL1 : (Lane.doo ⟨len, L⟩ (l.getD k Lane.Act.zero)).L.length ≤ 1000000 := by omega
  refine wp_seq ?_
  refine wp_seq ?_
  refine reg ?_
  refine plain (y_move rfl rfl) rfl rfl rfl H39 ?_
  clear H39; intro a40 H40
  refine plain (y_move rfl rfl) rfl rfl rfl H40 ?_
  clear H40; intro a41 H41
  refine plain (y_len rfl Tryd.underlying45 rfl) rfl rfl rfl H41 ?_
  clear H41; intro a42 H42
  refine plain (y_lss rfl rfl rfl) rfl rfl rfl H42 ?_
  clear H42; intro a43 H43
  refine plain (y_move rfl rfl) rfl rfl rfl H43 ?_
  clear H43; intro a44 H44
  refine Sx.part (d := 44) H44 rfl (fun hg45 => ?_) (fun hg45 => ?_)
  · first
    | fail
    | skip
      clear H44; intro H46
      try simp only [decide_eq_true_eq, decide_eq_false_iff_not, Bool.not_eq_true', Bool.not_eq_false', Bool.and_eq_true, Bool.not_eq_true, Bool.not_eq_false] at hg45
      refine plain (y_move rfl rfl) rfl rfl rfl H46 ?_
      clear H46; intro a47 H47
      refine plain (y_lss rfl rfl rfl) rfl rfl rfl H47 ?_
      clear H47; intro a48 H48
      refine plain (y_pick_t rfl rfl rfl) rfl rfl rfl H48 ?_
      clear H48; intro a49 H49
      refine fin ?_
      refine then_n ?_
      refine cnd H49 rfl (fun hc50 => ?_) (fun hc50 => ?_) -- cond 3
      · skip
        try simp only [decide_eq_true_eq, decide_eq_false_iff_not, Bool.not_eq_true', Bool.not_eq_false', Bool.and_eq_true, Bool.not_eq_true, Bool.not_eq_false] at hc50
        refine wp_skip ?_
        refine then_n ?_
        refine wp_seq ?_
        refine wp_block ?_
        refine wp_seq ?_
        have hkl : k < l.length := by omega
        have wc := Lane.actD wl hkl
        have whd := wc.tx.hand
        have wtg := wc.tx.tag
        refine reg ?_
        refine plain (y_move rfl rfl) rfl rfl rfl H49 ?_
        clear H49; intro a51 H51
        refine plain (y_move rfl rfl) rfl rfl rfl H51 ?_
        clear H51; intro a52 H52
        refine plain (y_ixR rfl Tryd.underlying45 z_size52 rfl rfl (by omega) (by omega) (rd_old hA (by simp)) (by first | (rw [Lane.acs_len wl]; omega) | (rw [Lane.hc_len]; omega))) rfl rfl rfl H52 ?_
        clear H52; intro a53 H53
        refine plain (y_loadAS rfl z_agg52 z_size52 rfl (rd_old hA (by simp)) (show _ = Lane.Act.cells (l.getD k Lane.Act.zero) from Lane.acs_take wl k (by omega)) (Lane.Act.cells_len whd wtg) (by decide)) rfl rfl rfl H53 ?_
        clear H53; intro a54 H54
        refine st_alloc rfl z_zeroN52 rfl rfl rfl H54 ?_
        clear H54; intro b55 a55 wx55 H55
        refine st_storeN rfl z_size52 rfl rfl (agg_cells _) (by repeat (first | exact Uh | apply Ut)) (q_one_c15b32b32 rfl rfl rfl rfl rfl rfl rfl rfl rfl rfl rfl rfl rfl rfl rfl) (q_len_c15b32b32 (by assumption) (by assumption)) (q_len_c15b32b32 (by assumption) (by assumption)) (q_spl_c15b32b32_0_c15b32b32 (by assumption) (by assumption) (by assumption) (by assumption)) (by decide) rfl rfl H55 ?_
        clear H55; intro wx56 H56
        refine fin ?_
        refine then_n ?_
        refine wp_seq ?_
        refine wp_seq ?_
        refine hreg [It.blk b55 52 (Lane.Act.cells (l.getD k Lane.Act.zero))] (fun _ h => (h.sub (by first | exact S0 | exact S1 | repeat (first | exact S1 | exact S0 | apply S2 | apply S3)))) (by kernel_rfl) H56 ?_
        clear H56; intro wx57 H57
        refine htake 0 rfl (by kernel_rfl) (y_move rfl rfl) rfl rfl rfl (fun _ h => (h.sub (by first | exact S0 | exact S1 | repeat (first | exact S1 | exact S0 | apply S2 | apply S3)))) H57 ?_
        clear H57; intro a58 H58
        refine htake 1 rfl (by kernel_rfl) (y_move rfl rfl) rfl rfl rfl (fun _ h => (h.sub (by first | exact S0 | exact S1 | repeat (first | exact S1 | exact S0 | apply S2 | apply S3)))) H58 ?_
        clear H58; intro a59 H59
        refine htake 2 rfl (by kernel_rfl) (y_loadAB rfl z_agg52 z_size52 rfl (by repeat (first | exact Mh | apply Mt)) (q_ld_c15b32b32_0_79 (by assumption) (by assumption)) (q_len_c15b32b32 (by assumption) (by assumption))) rfl rfl rfl (fun _ h => (h.sub (by first | exact S0 | exact S1 | repeat (first | exact S1 | exact S0 | apply S2 | apply S3)))) H59 ?_
        clear H59; intro a60 H60
        refine hgo 3 rfl (by kernel_rfl) ?_
        refine st_callk2 (is := [It.row 57 3 v L.length (Lane.hc L), It.blk x 60 [i64 len, v], It.blk b 101 (Lane.lc len h u), It.mp h (Lane.hm L), It.mp u f]) (enters_call rfl z_call21 rfl) rfl rfl rfl H60 (.cons (by repeat (first | exact Ph | apply Pt)) (.cons (by repeat (first | exact Ph | apply Pt)) (.cons (by repeat (first | exact Ph | apply Pt)) (.cons (by repeat (first | exact Ph | apply Pt)) (.cons (by repeat (first | exact Ph | apply Pt)) (.nil _)))))) (fun hs => ldo len L f hlL hg hT (l.getD k Lane.Act.zero) wc b h u x v hs (hG.frm H60.sep.frm (by simp)) (fps_new H60.sep (.cons (by repeat (first | exact Ph | apply Pt)) (.cons (by repeat (first | exact Ph | apply Pt)) (.cons (by repeat (first | exact Ph | apply Pt)) (.cons (by repeat (first | exact Ph | apply Pt)) (.cons (by repeat (first | exact Ph | apply Pt)) (.nil _)))))) hG (by decide))) ?_
        clear H60; intro v61 l61 a61 wx61 hf61 H61
        obtain ⟨rfl, f1, v1, hT1, rfl⟩ := hf61
        simp only [List.cons_append, List.nil_append] at H61
        obtain ⟨A1, c1, rfl, hR1, hm1⟩ := row_shape (v := v1) H61.sep (by repeat (first | exact Mh | apply Mt))
        refine hfin (H61.sep.sub (by first | exact S0 | exact S1 | repeat (first | exact S1 | exact S0 | apply S2 | apply S3))) ?_
        refine htake 4 rfl (by kernel_rfl) (y_not rfl rfl) rfl rfl rfl (fun _ h => (h.sub (by first | exact S0 | exact S1 | repeat (first | exact S1 | exact S0 | apply S2 | apply S3)))) H61 ?_
        clear H61; intro a62 H62
        refine htake 5 rfl (by kernel_rfl) (y_move rfl rfl) rfl rfl rfl (fun _ h => (h.sub (by first | exact S0 | exact S1 | repeat (first | exact S1 | exact S0 | apply S2 | apply S3)))) H62 ?_
        clear H62; intro a63 H63
        refine htake 6 rfl (by kernel_rfl) (y_move rfl rfl) rfl rfl rfl (fun _ h => (h.sub (by first | exact S0 | exact S1 | repeat (first | exact S1 | exact S0 | apply S2 | apply S3)))) H63 ?_
        clear H63; intro a64 H64
        refine htake 7 rfl (by kernel_rfl) (y_fieldB rfl z_field52_4 rfl (by first | (simp only [Nat.zero_add, Nat.add_zero, Nat.reduceAdd]; rfl) | rfl)) rfl rfl rfl (fun _ h => (h.sub (by first | exact S0 | exact S1 | repeat (first | exact S1 | exact S0 | apply S2 | apply S3)))) H64 ?_
        clear H64; intro a65 H65
        refine htake 8 rfl (by kernel_rfl) (y_loadB rfl z_agg3 rfl (by repeat (first | exact Mh | apply Mt)) q_ix_c15b32b32_4) rfl rfl rfl (fun _ h => (h.sub (by first | exact S0 | exact S1 | repeat (first | exact S1 | exact S0 | apply S2 | apply S3)))) H65 ?_
        clear H65; intro a66 H66
        refine htake 10 rfl (by kernel_rfl) (y_move rfl rfl) rfl rfl rfl (fun _ h => (h.sub (by first | exact S0 | exact S1 | repeat (first | exact S1 | exact S0 | apply S2 | apply S3)))) H66 ?_
        clear H66; intro a67 H67
        refine htake 11 rfl (by kernel_rfl) (y_fieldB rfl z_field52_4 rfl (by first | (simp only [Nat.zero_add, Nat.add_zero, Nat.reduceAdd]; rfl) | rfl)) rfl rfl rfl (fun _ h => (h.sub (by first | exact S0 | exact S1 | repeat (first | exact S1 | exact S0 | apply S2 | apply S3)))) H67 ?_
        clear H67; intro a68 H68
        refine htake 12 rfl (by kernel_rfl) (y_loadB rfl z_agg3 rfl (by repeat (first | exact Mh | apply Mt)) q_ix_c15b32b32_4) rfl rfl rfl (fun _ h => (h.sub (by first | exact S0 | exact S1 | repeat (first | exact S1 | exact S0 | apply S2 | apply S3)))) H68 ?_
        clear H68; intro a69 H69
        refine hgo 9 rfl (by kernel_rfl) ?_
        refine st_callg rfl z_call19 rfl rfl rfl rfl H69 (lround len (l.getD k Lane.Act.zero).now h1.1 wc.now b h u (H69.sep.all _ (by repeat (first | exact Mh | apply Mt)))) ?_
        clear H69; intro a70 wx70 H70
        refine hfin (H70.sep.sub (by first | exact S0 | exact S1 | repeat (first | exact S1 | exact S0 | apply S2 | apply S3))) ?_
        refine hgo 13 rfl (by kernel_rfl) ?_
        refine st_callg rfl z_call22 rfl rfl rfl rfl H70 (xround len (l.getD k Lane.Act.zero).now h1.1 wc.now x (.slice A1 (Lane.doo ⟨len, L⟩ (l.getD k Lane.Act.zero)).L.length c1) (H70.sep.all _ (by repeat (first | exact Mh | apply Mt)))) ?_
        clear H70; intro a71 wx71 H71
        refine hfin (H71.sep.sub (by first | exact S0 | exact S1 | repeat (first | exact S1 | exact S0 | apply S2 | apply S3))) ?_
        refine htake 14 rfl (by kernel_rfl) (y_neq rfl rfl rfl) rfl rfl rfl (fun _ h => (h.sub (by first | exact S0 | exact S1 | repeat (first | exact S1 | exact S0 | apply S2 | apply S3)))) H71 ?_
        clear H71; intro a72 H72
        refine htake 15 rfl (by kernel_rfl) (y_pick_f rfl rfl rfl) rfl rfl rfl (fun _ h => (h.sub (by first | exact S0 | exact S1 | repeat (first | exact S1 | exact S0 | apply S2 | apply S3)))) H72 ?_
        clear H72; intro a73 H73
        refine hdone (by kernel_rfl) ?_
        refine then_n ?_
        refine cnd H73 rfl (fun hc74 => ?_) (fun hc74 => ?_) -- cond 4
        · (try simp only [decide_eq_true_eq, decide_eq_false_iff_not, Bool.not_eq_true', Bool.not_eq_false', Bool.and_eq_true, Bool.not_eq_true, Bool.not_eq_false] at hc74); (exfalso; exact hc74 rfl)
        · skip
          try simp only [decide_eq_true_eq, decide_eq_false_iff_not, Bool.not_eq_true', Bool.not_eq_false', Bool.and_eq_true, Bool.not_eq_true, Bool.not_eq_false] at hc74
          refine wp_skip ?_
          refine then_n ?_
          refine wp_seq ?_
          refine reg ?_
          refine plain (y_move rfl rfl) rfl rfl rfl H73 ?_
          clear H73; intro a75 H75
          refine plain (y_fieldB rfl z_field52_1 rfl (by first | (simp only [Nat.zero_add, Nat.add_zero, Nat.reduceAdd]; rfl) | rfl)) rfl rfl rfl H75 ?_
          clear H75; intro a76 H76
          refine plain (y_loadB rfl z_agg3 rfl (by repeat (first | exact Mh | apply Mt)) q_ix_c15b32b32_1) rfl rfl rfl H76 ?_
          clear H76; intro a77 H77
          refine st_callg rfl z_call23 rfl rfl rfl rfl H77 (lholder len (Lane.doo ⟨len, L⟩ (l.getD k Lane.Act.zero)).L (l.getD k Lane.Act.zero).round b h u (H77.sep.all _ (by repeat (first | exact Mh | apply Mt))) (H77.sep.all _ (by repeat (first | exact Mh | apply Mt)))) ?_
          clear H77; intro a78 wx78 H78
          refine plain (y_move rfl rfl) rfl rfl rfl H78 ?_
          clear H78; intro a79 H79
          refine plain (y_extract rfl rfl rfl) rfl rfl rfl H79 ?_
          clear H79; intro a80 H80
          refine plain (y_extract rfl rfl rfl) rfl rfl rfl H80 ?_
          clear H80; intro a81 H81
          refine plain (y_assign rfl rfl) rfl rfl rfl H81 ?_
          clear H81; intro a82 H82
          refine plain (y_assign rfl rfl) rfl rfl rfl H82 ?_
          clear H82; intro a83 H83
          refine fin ?_
          refine then_n ?_
          refine wp_seq ?_
          refine reg ?_
          refine plain (y_move rfl rfl) rfl rfl rfl H83 ?_
          clear H83; intro a84 H84
          refine plain (y_fieldB rfl z_field52_1 rfl (by first | (simp only [Nat.zero_add, Nat.add_zero, Nat.reduceAdd]; rfl) | rfl)) rfl rfl rfl H84 ?_
          clear H84; intro a85 H85
          refine plain (y_loadB rfl z_agg3 rfl (by repeat (first | exact Mh | apply Mt)) q_ix_c15b32b32_1) rfl rfl rfl H85 ?_
          clear H85; intro a86 H86
          refine st_callg rfl z_call24 rfl rfl rfl rfl H86 (xat len (Lane.doo ⟨len, L⟩ (l.getD k Lane.Act.zero)).L (l.getD k Lane.Act.zero).round x (.slice A1 (Lane.doo ⟨len, L⟩ (l.getD k Lane.Act.zero)).L.length c1) hlL1 (H86.sep.all _ (by repeat (first | exact Mh | apply Mt))) (H86.sep.all _ (by repeat (first | exact Mh | apply Mt)))) ?_
          clear H86; intro a87 wx87 H87
          refine plain (y_assign rfl rfl) rfl rfl rfl H87 ?_
          clear H87; intro a88 H88
          refine fin ?_
          refine then_n ?_
          refine wp_seq ?_
          refine qreg (by kernel_rfl) (by kernel_rfl) H88 ?_
          have F89 := H88.fr
          clear H88
          refine qplain (y_move rfl rfl) rfl rfl rfl F89 ?_
          clear F89; intro a90 H90
          refine qplain (y_move rfl rfl) rfl rfl rfl H90 ?_
          clear H90; intro a91 H91
          refine qplain (y_geq rfl rfl rfl) rfl rfl rfl H91 ?_
          clear H91; intro a92 H92
          refine qplain (y_bneq rfl Tryd.underlying4 rfl rfl) rfl rfl rfl H92 ?_
          clear H92; intro a93 H93
          refine qplain (y_move rfl rfl) rfl rfl rfl H93 ?_
          clear H93; intro a94 H94
          have H96 := H94.know (d := 85) (v := .bool false) rfl (congrArg Value.bool (by rw [Lane.who_two]; simp))
          clear H94
          refine qplain (y_move rfl rfl) rfl rfl rfl H96 ?_
          clear H96; intro a97 H97
          refine qplain (y_geq rfl rfl rfl) rfl rfl rfl H97 ?_
          clear H97; intro a98 H98
          refine qplain (y_move rfl rfl) rfl rfl rfl H98 ?_
          clear H98; intro a99 H99
          refine qpart (d := 88) H99 rfl (fun hg100 => ?_) (fun hg100 => ?_)
          · first
            | fail
            | skip
              clear H99; intro H101
              try simp only [decide_eq_true_eq, decide_eq_false_iff_not, Bool.not_eq_true', Bool.not_eq_false', Bool.and_eq_true, Bool.not_eq_true, Bool.not_eq_false] at hg100
              have hat := hg100
              obtain ⟨i, hi, hai, hpl, hlk⟩ := Lane.at_look (L := (Lane.doo ⟨len, L⟩ (l.getD k Lane.Act.zero)).L) (r := (l.getD k Lane.Act.zero).round) (by omega)
              have hwo := Lane.at_who hlk
              refine qplain (y_move rfl rfl) rfl rfl rfl H101 ?_
              clear H101; intro a102 H102
              refine qplain (y_move rfl rfl) rfl rfl rfl H102 ?_
              clear H102; intro a103 H103
              refine qplain (y_nilCheck rfl rfl) rfl rfl rfl H103 ?_
              clear H103; intro a104 H104
              refine qplain (y_fieldB rfl z_field60_1 rfl (by first | (simp only [Nat.zero_add, Nat.add_zero, Nat.reduceAdd]; rfl) | rfl)) rfl rfl rfl H104 ?_
              clear H104; intro a105 H105
              refine qplain (y_loadB rfl z_agg58 rfl (by repeat (first | exact Mh | apply Mt)) q_ix_c2_1) rfl rfl rfl H105 ?_
              clear H105; intro a106 H106
              refine qplain (y_move rfl rfl) rfl rfl rfl H106 ?_
              clear H106; intro a107 H107
              refine qplain (y_ixR rfl Tryd.underlying58 z_size57 rfl rfl (by omega) (by omega) (rd_row (by repeat (first | exact Mh | apply Mt))) (by first | (rw [Lane.acs_len wl]; omega) | (rw [Lane.hc_len]; omega))) rfl rfl rfl H107 ?_
              clear H107; intro a108 H108
              refine qplain (y_fieldS rfl z_field57_1 rfl (rd_row (by repeat (first | exact Mh | apply Mt))) (by first | (rw [Lane.acs_len wl]; omega) | (rw [Lane.hc_len]; omega))) rfl rfl rfl H108 ?_
              clear H108; intro a109 H109
              refine qplain (y_loadR rfl z_agg3 rfl (rd_row (by repeat (first | exact Mh | apply Mt))) (by simp only [hai, Int.toNat_natCast, Nat.zero_add, Nat.add_zero]; exact (show _ = some (i64 ((Lane.doo ⟨len, L⟩ (l.getD k Lane.Act.zero)).L.getD i Lane.Held.zero).who) from Lane.hc_at (c := 1) hi (by omega)))) rfl rfl rfl H109 ?_
              clear H109; intro a110 H110
              refine qplain (y_neq rfl rfl rfl) rfl rfl rfl H110 ?_
              clear H110; intro a111 H111
              refine qplain (y_move rfl rfl) rfl rfl rfl H111 ?_
              clear H111; intro a112 H112
              have H114 := H112.know (d := 99) (v := .bool false) rfl (congrArg Value.bool (decide_eq_false (fun z => z (by rw [hwo.1]))))
              clear H112
              refine qplain (y_move rfl rfl) rfl rfl rfl H114 ?_
              clear H114; intro a115 H115
              refine qplain (y_fieldB rfl z_field52_1 rfl (by first | (simp only [Nat.zero_add, Nat.add_zero, Nat.reduceAdd]; rfl) | rfl)) rfl rfl rfl H115 ?_
              clear H115; intro a116 H116
              refine qplain (y_loadB rfl z_agg3 rfl (by repeat (first | exact Mh | apply Mt)) q_ix_c15b32b32_1) rfl rfl rfl H116 ?_
              clear H116; intro a117 H117
              refine qcallg rfl z_call25 rfl rfl rfl rfl H117 (fun w hs => (lturn len (Lane.doo ⟨len, L⟩ (l.getD k Lane.Act.zero)).L f1 hT1 (l.getD k Lane.Act.zero).round b h u (hs.all _ (by repeat (first | exact Mh | apply Mt))) (hs.all _ (by repeat (first | exact Mh | apply Mt))))) ?_
              clear H117; intro a118 H118
              refine qplain (y_move rfl rfl) rfl rfl rfl H118 ?_
              clear H118; intro a119 H119
              refine qplain (y_nilCheck rfl rfl) rfl rfl rfl H119 ?_
              clear H119; intro a120 H120
              refine qplain (y_fieldB rfl z_field60_1 rfl (by first | (simp only [Nat.zero_add, Nat.add_zero, Nat.reduceAdd]; rfl) | rfl)) rfl rfl rfl H120 ?_
              clear H120; intro a121 H121
              refine qplain (y_loadB rfl z_agg58 rfl (by repeat (first | exact Mh | apply Mt)) q_ix_c2_1) rfl rfl rfl H121 ?_
              clear H121; intro a122 H122
              refine qplain (y_move rfl rfl) rfl rfl rfl H122 ?_
              clear H122; intro a123 H123
              refine qplain (y_ixR rfl Tryd.underlying58 z_size57 rfl rfl (by omega) (by omega) (rd_row (by repeat (first | exact Mh | apply Mt))) (by first | (rw [Lane.acs_len wl]; omega) | (rw [Lane.hc_len]; omega))) rfl rfl rfl H123 ?_
              clear H123; intro a124 H124
              refine qplain (y_fieldS rfl z_field57_2 rfl (rd_row (by repeat (first | exact Mh | apply Mt))) (by first | (rw [Lane.acs_len wl]; omega) | (rw [Lane.hc_len]; omega))) rfl rfl rfl H124 ?_
              clear H124; intro a125 H125
              refine qplain (y_loadR rfl z_agg3 rfl (rd_row (by repeat (first | exact Mh | apply Mt))) (by simp only [hai, Int.toNat_natCast, Nat.zero_add, Nat.add_zero]; exact (show _ = some (i64 ((Lane.doo ⟨len, L⟩ (l.getD k Lane.Act.zero)).L.getD i Lane.Held.zero).turn) from Lane.hc_at (c := 2) hi (by omega)))) rfl rfl rfl H125 ?_
              clear H125; intro a126 H126
              refine qplain (y_neq rfl rfl rfl) rfl rfl rfl H126 ?_
              clear H126; intro a127 H127
              refine qplain (y_pick_f rfl rfl rfl) rfl rfl rfl H127 ?_
              clear H127; intro a128 H128
              refine qplain (y_pick_t rfl rfl rfl) rfl rfl rfl H128 ?_
              clear H128; intro a129 H129
              refine qplain (y_pick_f rfl rfl rfl) rfl rfl rfl H129 ?_
              clear H129; intro a130 H130
              refine qplain (y_move rfl rfl) rfl rfl rfl H130 ?_
              clear H130; intro a131 H131
              have H133 := H131.know (d := 116) (v := .bool false) rfl (congrArg Value.bool (decide_eq_false (fun z => z hwo.2)))
              clear H131
              refine qplain (y_move rfl rfl) rfl rfl rfl H133 ?_
              clear H133; intro a134 H134
              refine qplain (y_lss rfl rfl rfl) rfl rfl rfl H134 ?_
              clear H134; intro a135 H135
              refine qplain (y_move rfl rfl) rfl rfl rfl H135 ?_
              clear H135; intro a136 H136
              refine qpart (d := 119) H136 rfl (fun hg137 => ?_) (fun hg137 => ?_)
              · first
                | (exfalso; simp only [decide_eq_true_eq, decide_eq_false_iff_not] at hg137; omega)
                | skip
                  clear H136; intro H138
                  try simp only [decide_eq_true_eq, decide_eq_false_iff_not, Bool.not_eq_true', Bool.not_eq_false', Bool.and_eq_true, Bool.not_eq_true, Bool.not_eq_false] at hg137
                  refine qplain (y_move rfl rfl) rfl rfl rfl H138 ?_
                  clear H138; intro a139 H139
                  refine qplain (y_neq rfl rfl rfl) rfl rfl rfl H139 ?_
                  clear H139; intro a140 H140
                  refine qplain (y_move rfl rfl) rfl rfl rfl H140 ?_
                  clear H140; intro a141 H141
                  have H143 := H141.know (d := 122) (v := .bool false) rfl (congrArg Value.bool (decide_eq_false (fun z => z (by rw [hno.1]))))
                  clear H141
                  refine qplain (y_move rfl rfl) rfl rfl rfl H143 ?_
                  clear H143; intro a144 H144
                  refine qplain (y_fieldB rfl z_field52_1 rfl (by first | (simp only [Nat.zero_add, Nat.add_zero, Nat.reduceAdd]; rfl) | rfl)) rfl rfl rfl H144 ?_
                  clear H144; intro a145 H145
                  refine qplain (y_loadB rfl z_agg3 rfl (by repeat (first | exact Mh | apply Mt)) q_ix_c15b32b32_1) rfl rfl rfl H145 ?_
                  clear H145; intro a146 H146
                  refine qcallg rfl z_call25 rfl rfl rfl rfl H146 (fun w hs => (lturn len (Lane.doo ⟨len, L⟩ (l.getD k Lane.Act.zero)).L f1 hT1 (l.getD k Lane.Act.zero).round b h u (hs.all _ (by repeat (first | exact Mh | apply Mt))) (hs.all _ (by repeat (first | exact Mh | apply Mt))))) ?_
                  clear H146; intro a147 H147
                  refine qplain (y_neq rfl rfl rfl) rfl rfl rfl H147 ?_
                  clear H147; intro a148 H148
                  refine qplain (y_pick_f rfl rfl rfl) rfl rfl rfl H148 ?_
                  clear H148; intro a149 H149
                  refine qplain (y_pick_t rfl rfl rfl) rfl rfl rfl H149 ?_
                  clear H149; intro a150 H150
                  refine qplain (y_pick_f rfl rfl rfl) rfl rfl rfl H150 ?_
                  clear H150; intro a151 H151
                  refine qfin H151 ?_
                  clear H151; intro wx152 H152
                  refine then_n ?_
                  refine cnd H152 rfl (fun hc153 => ?_) (fun hc153 => ?_) -- cond 5
                  · (try simp only [decide_eq_true_eq, decide_eq_false_iff_not, Bool.not_eq_true', Bool.not_eq_false', Bool.and_eq_true, Bool.not_eq_true, Bool.not_eq_false] at hc153); (exfalso; exact hc153 hno.2)
                  · skip
                    try simp only [decide_eq_true_eq, decide_eq_false_iff_not, Bool.not_eq_true', Bool.not_eq_false', Bool.and_eq_true, Bool.not_eq_true, Bool.not_eq_false] at hc153
                    refine wp_skip ?_
                    refine inb_n ?_
                    refine then_n ?_
                    refine reg ?_
                    refine plain (y_move rfl rfl) rfl rfl rfl H152 ?_
                    clear H152; intro a154 H154
                    refine plain (y_add rfl rfl rfl (by first | exact w64 (by omega) (by omega) | rfl)) rfl rfl rfl H154 ?_
                    clear H154; intro a155 H155
                    refine plain (y_assign rfl rfl) rfl rfl rfl H155 ?_
                    clear H155; intro a156 H156
                    refine fin ?_
                    refine then_n ?_
                    refine ⟨(k + 1, ((Lane.doo ⟨len, L⟩ (l.getD k Lane.Act.zero)).L, (f1, (.slice A1 (Lane.doo ⟨len, L⟩ (l.getD k Lane.Act.zero)).L.length c1)))), by dsimp only; omega, ⟨by dsimp only; omega, Lane.good_doo2 hg _, hT1, by dsimp only; omega⟩, (H156.drop (by first | exact S0 | exact S1 | repeat (first | exact S1 | exact S0 | apply S2 | apply S3))).weak ⟨rfl, rfl, rfl, fi rfl (by dsimp only; omega), trivial⟩ rfl⟩
              · first
                | (exfalso; simp only [decide_eq_true_eq, decide_eq_false_iff_not] at hg137; omega)
                | skip
                  clear H136; intro H157
                  try simp only [decide_eq_true_eq, decide_eq_false_iff_not, Bool.not_eq_true', Bool.not_eq_false', Bool.and_eq_true, Bool.not_eq_true, Bool.not_eq_false] at hg137
                  refine qskip rfl rfl rfl H157 ?_
                  clear H157; intro a158 H158
                  refine qskip rfl rfl rfl H158 ?_
                  clear H158; intro a159 H159
                  refine qskip rfl rfl rfl H159 ?_
                  clear H159; intro a160 H160
                  refine qskip rfl rfl rfl H160 ?_
                  clear H160; intro a161 H161
                  refine qskip rfl rfl rfl H161 ?_
                  clear H161; intro a162 H162
                  refine qskip rfl rfl rfl H162 ?_
                  clear H162; intro a163 H163
                  refine qskip rfl rfl rfl H163 ?_
                  clear H163; intro a164 H164
                  refine qskip rfl rfl rfl H164 ?_
                  clear H164; intro a165 H165
                  refine qskip rfl rfl rfl H165 ?_
                  clear H165; intro a166 H166
                  refine qplain (y_pick_f rfl rfl rfl) rfl rfl rfl H166 ?_
                  clear H166; intro a167 H167
                  refine qplain (y_pick_f rfl rfl rfl) rfl rfl rfl H167 ?_
                  clear H167; intro a168 H168
                  refine qfin H168 ?_
                  clear H168; intro wx169 H169
                  refine then_n ?_
                  refine cnd_f H169 rfl ?_
                  refine wp_skip ?_
                  refine inb_n ?_
                  refine then_n ?_
                  refine reg ?_
                  refine plain (y_move rfl rfl) rfl rfl rfl H169 ?_
                  clear H169; intro a171 H171
                  refine plain (y_add rfl rfl rfl (by first | exact w64 (by omega) (by omega) | rfl)) rfl rfl rfl H171 ?_
                  clear H171; intro a172 H172
                  refine plain (y_assign rfl rfl) rfl rfl rfl H172 ?_
                  clear H172; intro a173 H173
                  refine fin ?_
                  refine then_n ?_
                  refine ⟨(k + 1, ((Lane.doo ⟨len, L⟩ (l.getD k Lane.Act.zero)).L, (f1, (.slice A1 (Lane.doo ⟨len, L⟩ (l.getD k Lane.Act.zero)).L.length c1)))), by dsimp only; omega, ⟨by dsimp only; omega, Lane.good_doo2 hg _, hT1, by dsimp only; omega⟩, (H173.drop (by first | exact S0 | exact S1 | repeat (first | exact S1 | exact S0 | apply S2 | apply S3))).weak ⟨rfl, rfl, rfl, fi rfl (by dsimp only; omega), trivial⟩ rfl⟩
          · first
            | fail
            | skip
              clear H99; intro H174
              try simp only [decide_eq_true_eq, decide_eq_false_iff_not, Bool.not_eq_true', Bool.not_eq_false', Bool.and_eq_true, Bool.not_eq_true, Bool.not_eq_false] at hg100
              have hat := hg100
              have hno := Lane.who_at (L := (Lane.doo ⟨len, L⟩ (l.getD k Lane.Act.zero)).L) (r := (l.getD k Lane.Act.zero).round) (by omega)
              refine qskip rfl rfl rfl H174 ?_
              clear H174; intro a175 H175
              refine qskip rfl rfl rfl H175 ?_
              clear H175; intro a176 H176
              refine qskip rfl rfl rfl H176 ?_
              clear H176; intro a177 H177
              refine qskip rfl rfl rfl H177 ?_
              clear H177; intro a178 H178
              refine qskip rfl rfl rfl H178 ?_
              clear H178; intro a179 H179
              refine qskip rfl rfl rfl H179 ?_
              clear H179; intro a180 H180
              refine qskip rfl rfl rfl H180 ?_
              clear H180; intro a181 H181
              refine qskip rfl rfl rfl H181 ?_
              clear H181; intro a182 H182
              refine qskip rfl rfl rfl H182 ?_
              clear H182; intro a183 H183
              refine qskip rfl rfl rfl H183 ?_
              clear H183; intro a184 H184
              refine qskip rfl rfl rfl H184 ?_
              clear H184; intro a185 H185
              refine qskip rfl rfl rfl H185 ?_
              clear H185; intro a186 H186
              refine qskip rfl rfl rfl H186 ?_
              clear H186; intro a187 H187
              refine qskip rfl rfl rfl H187 ?_
              clear H187; intro a188 H188
              refine qskip rfl rfl rfl H188 ?_
              clear H188; intro a189 H189
              refine qskip rfl rfl rfl H189 ?_
              clear H189; intro a190 H190
              refine qskip rfl rfl rfl H190 ?_
              clear H190; intro a191 H191
              refine qskip rfl rfl rfl H191 ?_
              clear H191; intro a192 H192
              refine qskip rfl rfl rfl H192 ?_
              clear H192; intro a193 H193
              refine qskip rfl rfl rfl H193 ?_
              clear H193; intro a194 H194
              refine qskip rfl rfl rfl H194 ?_
              clear H194; intro a195 H195
              refine qskip rfl rfl rfl H195 ?_
              clear H195; intro a196 H196
              refine qskip rfl rfl rfl H196 ?_
              clear H196; intro a197 H197
              refine qskip rfl rfl rfl H197 ?_
              clear H197; intro a198 H198
              refine qskip rfl rfl rfl H198 ?_
              clear H198; intro a199 H199
              refine qplain (y_pick_f rfl rfl rfl) rfl rfl rfl H199 ?_
              clear H199; intro a200 H200
              refine qplain (y_pick_f rfl rfl rfl) rfl rfl rfl H200 ?_
              clear H200; intro a201 H201
              refine qplain (y_move rfl rfl) rfl rfl rfl H201 ?_
              clear H201; intro a202 H202
              refine qplain (y_move rfl rfl) rfl rfl rfl H202 ?_
              clear H202; intro a203 H203
              refine qplain (y_lss rfl rfl rfl) rfl rfl rfl H203 ?_
              clear H203; intro a204 H204
              refine qplain (y_move rfl rfl) rfl rfl rfl H204 ?_
              clear H204; intro a205 H205
              refine qpart (d := 119) H205 rfl (fun hg206 => ?_) (fun hg206 => ?_)
              · first
                | (exfalso; simp only [decide_eq_true_eq, decide_eq_false_iff_not] at hg206; omega)
                | skip
                  clear H205; intro H207
                  try simp only [decide_eq_true_eq, decide_eq_false_iff_not, Bool.not_eq_true', Bool.not_eq_false', Bool.and_eq_true, Bool.not_eq_true, Bool.not_eq_false] at hg206
                  refine qplain (y_move rfl rfl) rfl rfl rfl H207 ?_
                  clear H207; intro a208 H208
                  refine qplain (y_neq rfl rfl rfl) rfl rfl rfl H208 ?_
                  clear H208; intro a209 H209
                  refine qplain (y_move rfl rfl) rfl rfl rfl H209 ?_
                  clear H209; intro a210 H210
                  have H212 := H210.know (d := 122) (v := .bool false) rfl (congrArg Value.bool (decide_eq_false (fun z => z (by rw [hno.1]))))
                  clear H210
                  refine qplain (y_move rfl rfl) rfl rfl rfl H212 ?_
                  clear H212; intro a213 H213
                  refine qplain (y_fieldB rfl z_field52_1 rfl (by first | (simp only [Nat.zero_add, Nat.add_zero, Nat.reduceAdd]; rfl) | rfl)) rfl rfl rfl H213 ?_
                  clear H213; intro a214 H214
                  refine qplain (y_loadB rfl z_agg3 rfl (by repeat (first | exact Mh | apply Mt)) q_ix_c15b32b32_1) rfl rfl rfl H214 ?_
                  clear H214; intro a215 H215
                  refine qcallg rfl z_call25 rfl rfl rfl rfl H215 (fun w hs => (lturn len (Lane.doo ⟨len, L⟩ (l.getD k Lane.Act.zero)).L f1 hT1 (l.getD k Lane.Act.zero).round b h u (hs.all _ (by repeat (first | exact Mh | apply Mt))) (hs.all _ (by repeat (first | exact Mh | apply Mt))))) ?_
                  clear H215; intro a216 H216
                  refine qplain (y_neq rfl rfl rfl) rfl rfl rfl H216 ?_
                  clear H216; intro a217 H217
                  refine qplain (y_pick_f rfl rfl rfl) rfl rfl rfl H217 ?_
                  clear H217; intro a218 H218
                  refine qplain (y_pick_t rfl rfl rfl) rfl rfl rfl H218 ?_
                  clear H218; intro a219 H219
                  refine qplain (y_pick_f rfl rfl rfl) rfl rfl rfl H219 ?_
                  clear H219; intro a220 H220
                  refine qfin H220 ?_
                  clear H220; intro wx221 H221
                  refine then_n ?_
                  refine cnd H221 rfl (fun hc222 => ?_) (fun hc222 => ?_) -- cond 7
                  · (try simp only [decide_eq_true_eq, decide_eq_false_iff_not, Bool.not_eq_true', Bool.not_eq_false', Bool.and_eq_true, Bool.not_eq_true, Bool.not_eq_false] at hc222); (exfalso; exact hc222 hno.2)
                  · skip
                    try simp only [decide_eq_true_eq, decide_eq_false_iff_not, Bool.not_eq_true', Bool.not_eq_false', Bool.and_eq_true, Bool.not_eq_true, Bool.not_eq_false] at hc222
                    refine wp_skip ?_
                    refine inb_n ?_
                    refine then_n ?_
                    refine reg ?_
                    refine plain (y_move rfl rfl) rfl rfl rfl H221 ?_
                    clear H221; intro a223 H223
                    refine plain (y_add rfl rfl rfl (by first | exact w64 (by omega) (by omega) | rfl)) rfl rfl rfl H223 ?_
                    clear H223; intro a224 H224
                    refine plain (y_assign rfl rfl) rfl rfl rfl H224 ?_
                    clear H224; intro a225 H225
                    refine fin ?_
                    refine then_n ?_
                    refine ⟨(k + 1, ((Lane.doo ⟨len, L⟩ (l.getD k Lane.Act.zero)).L, (f1, (.slice A1 (Lane.doo ⟨len, L⟩ (l.getD k Lane.Act.zero)).L.length c1)))), by dsimp only; omega, ⟨by dsimp only; omega, Lane.good_doo2 hg _, hT1, by dsimp only; omega⟩, (H225.drop (by first | exact S0 | exact S1 | repeat (first | exact S1 | exact S0 | apply S2 | apply S3))).weak ⟨rfl, rfl, rfl, fi rfl (by dsimp only; omega), trivial⟩ rfl⟩
              · first
                | (exfalso; simp only [decide_eq_true_eq, decide_eq_false_iff_not] at hg206; omega)
                | skip
                  clear H205; intro H226
                  try simp only [decide_eq_true_eq, decide_eq_false_iff_not, Bool.not_eq_true', Bool.not_eq_false', Bool.and_eq_true, Bool.not_eq_true, Bool.not_eq_false] at hg206
                  refine qskip rfl rfl rfl H226 ?_
                  clear H226; intro a227 H227
                  refine qskip rfl rfl rfl H227 ?_
                  clear H227; intro a228 H228
                  refine qskip rfl rfl rfl H228 ?_
                  clear H228; intro a229 H229
                  refine qskip rfl rfl rfl H229 ?_
                  clear H229; intro a230 H230
                  refine qskip rfl rfl rfl H230 ?_
                  clear H230; intro a231 H231
                  refine qskip rfl rfl rfl H231 ?_
                  clear H231; intro a232 H232
                  refine qskip rfl rfl rfl H232 ?_
                  clear H232; intro a233 H233
                  refine qskip rfl rfl rfl H233 ?_
                  clear H233; intro a234 H234
                  refine qskip rfl rfl rfl H234 ?_
                  clear H234; intro a235 H235
                  refine qplain (y_pick_f rfl rfl rfl) rfl rfl rfl H235 ?_
                  clear H235; intro a236 H236
                  refine qplain (y_pick_f rfl rfl rfl) rfl rfl rfl H236 ?_
                  clear H236; intro a237 H237
                  refine qfin H237 ?_
                  clear H237; intro wx238 H238
                  refine then_n ?_
                  refine cnd_f H238 rfl ?_
                  refine wp_skip ?_
                  refine inb_n ?_
                  refine then_n ?_
                  refine reg ?_
                  refine plain (y_move rfl rfl) rfl rfl rfl H238 ?_
                  clear H238; intro a240 H240
                  refine plain (y_add rfl rfl rfl (by first | exact w64 (by omega) (by omega) | rfl)) rfl rfl rfl H240 ?_
                  clear H240; intro a241 H241
                  refine plain (y_assign rfl rfl) rfl rfl rfl H241 ?_
                  clear H241; intro a242 H242
                  refine fin ?_
                  refine then_n ?_
                  refine ⟨(k + 1, ((Lane.doo ⟨len, L⟩ (l.getD k Lane.Act.zero)).L, (f1, (.slice A1 (Lane.doo ⟨len, L⟩ (l.getD k Lane.Act.zero)).L.length c1)))), by dsimp only; omega, ⟨by dsimp only; omega, Lane.good_doo2 hg _, hT1, by dsimp only; omega⟩, (H242.drop (by first | exact S0 | exact S1 | repeat (first | exact S1 | exact S0 | apply S2 | apply S3))).weak ⟨rfl, rfl, rfl, fi rfl (by dsimp only; omega), trivial⟩ rfl⟩
      · skip
        try simp only [decide_eq_true_eq, decide_eq_false_iff_not, Bool.not_eq_true', Bool.not_eq_false', Bool.and_eq_true, Bool.not_eq_true, Bool.not_eq_false] at hc50
        refine wp_exit ?_
        refine then_x ?_
        refine then_x ?_
        refine inb_hit ?_
        refine then_n ?_
        refine wp_seq ?_
        refine reg ?_
        refine plain (y_assign rfl rfl) rfl rfl rfl H49 ?_
        clear H49; intro a243 H243
        refine fin ?_
        refine then_n ?_
        refine wp_ret ?_
        -- return 1
        refine ret1 rfl H243 rfl ?_
        exact ⟨_, [], rfl, ⟨rfl, rfl⟩, H243.sep.sub (List.nil_sublist _)⟩
  · first
    | fail
    | skip
      clear H44; intro H244
      try simp only [decide_eq_true_eq, decide_eq_false_iff_not, Bool.not_eq_true', Bool.not_eq_false', Bool.and_eq_true, Bool.not_eq_true, Bool.not_eq_false] at hg45
      refine skip rfl rfl rfl H244 ?_
      clear H244; intro a245 H245
      refine skip rfl rfl rfl H245 ?_
      clear H245; intro a246 H246
      refine plain (y_pick_f rfl rfl rfl) rfl rfl rfl H246 ?_
      clear H246; intro a247 H247
      refine fin ?_
      refine then_n ?_
      refine cnd_f H247 rfl ?_
      refine wp_exit ?_
      refine then_x ?_
      refine then_x ?_
      refine inb_hit ?_
      refine then_n ?_
      refine wp_seq ?_
      refine reg ?_
      refine plain (y_assign rfl rfl) rfl rfl rfl H247 ?_
      clear H247; intro a249 H249
      refine fin ?_
      refine then_n ?_
      refine wp_ret ?_
      -- return 2
      refine ret1 rfl H249 rfl ?_
      exact ⟨_, [], rfl, ⟨rfl, rfl⟩, H249.sep.sub (List.nil_sublist _)⟩
set_option maxRecDepth 100000 in
set_option maxHeartbeats 1000000 in
theorem laneDoes0 (len : Int) (h1 : ¬ (1 ≤ len ∧ len ≤ 1099511627776)) (l : List Lane.Act) (A : Option Addr) (ca : Nat) (hl0 : l.length ≤ 9223372036854775807) (wl : ∀ z ∈ l, Lane.Act.Wf z) {w : World} (hA : Rd w A (Lane.acs l)) (hG : Glob 0 Sha.K w) : Calls Tryd.prog 7 #[.int .i64 len, .slice A l.length ca] w (Gives (.bool true) [] w) := by
  have lz32 : (List.replicate 32 (0 : UInt8)).length = 32 := List.length_replicate
  refine enterL (args := [.int .i64 len, .slice A l.length ca]) Tryd.func7 rfl rfl (l := []) (Sep.refl _) ?_
  intro a0 H0
  refine wp_seq ?_
  refine reg ?_
  refine plain (y_assign rfl rfl) rfl rfl rfl H0 ?_
  clear H0; intro a1 H1
  refine fin ?_
  refine then_n ?_
  refine wp_seq ?_
  refine reg ?_
  refine plain (y_move rfl rfl) rfl rfl rfl H1 ?_
  clear H1; intro a2 H2
  refine st_callg rfl z_call17 rfl rfl rfl rfl H2 (lnewBad len h1 _) ?_
  clear H2; intro a3 wx3 H3
  refine plain (y_move rfl rfl) rfl rfl rfl H3 ?_
  clear H3; intro a4 H4
  refine plain (y_extract rfl rfl rfl) rfl rfl rfl H4 ?_
  clear H4; intro a5 H5
  refine plain (y_extract rfl rfl rfl) rfl rfl rfl H5 ?_
  clear H5; intro a6 H6
  refine plain (y_assign rfl rfl) rfl rfl rfl H6 ?_
  clear H6; intro a7 H7
  refine plain (y_assign rfl rfl) rfl rfl rfl H7 ?_
  clear H7; intro a8 H8
  refine fin ?_
  refine then_n ?_
  refine wp_seq ?_
  refine reg ?_
  refine plain (y_move rfl rfl) rfl rfl rfl H8 ?_
  clear H8; intro a9 H9
  refine st_callg rfl z_call20 rfl rfl rfl rfl H9 (xnewBad len h1 _) ?_
  clear H9; intro a10 wx10 H10
  refine plain (y_move rfl rfl) rfl rfl rfl H10 ?_
  clear H10; intro a11 H11
  refine plain (y_extract rfl rfl rfl) rfl rfl rfl H11 ?_
  clear H11; intro a12 H12
  refine plain (y_extract rfl rfl rfl) rfl rfl rfl H12 ?_
  clear H12; intro a13 H13
  refine plain (y_assign rfl rfl) rfl rfl rfl H13 ?_
  clear H13; intro a14 H14
  refine plain (y_assign rfl rfl) rfl rfl rfl H14 ?_
  clear H14; intro a15 H15
  refine fin ?_
  refine then_n ?_
  refine wp_seq ?_
  refine wp_seq ?_
  refine reg ?_
  refine plain (y_move rfl rfl) rfl rfl rfl H15 ?_
  clear H15; intro a16 H16
  refine plain (y_move rfl rfl) rfl rfl rfl H16 ?_
  clear H16; intro a17 H17
  refine plain (y_neq rfl rfl rfl) rfl rfl rfl H17 ?_
  clear H17; intro a18 H18
  refine plain (y_move rfl rfl) rfl rfl rfl H18 ?_
  clear H18; intro a19 H19
  have H21 := H19.know (d := 27) (v := .bool false) rfl (congrArg Value.bool (decide_eq_false (by decide)))
  clear H19
  refine plain (y_move rfl rfl) rfl rfl rfl H21 ?_
  clear H21; intro a22 H22
  refine plain (y_peql rfl Tryd.underlying39 rfl rfl) rfl rfl rfl H22 ?_
  clear H22; intro a23 H23
  refine plain (y_move rfl rfl) rfl rfl rfl H23 ?_
  clear H23; intro a24 H24
  refine plain (y_peql rfl Tryd.underlying46 rfl rfl) rfl rfl rfl H24 ?_
  clear H24; intro a25 H25
  refine plain (y_bneq rfl Tryd.underlying4 rfl rfl) rfl rfl rfl H25 ?_
  clear H25; intro a26 H26
  refine plain (y_pick_f rfl rfl rfl) rfl rfl rfl H26 ?_
  clear H26; intro a27 H27
  refine plain (y_move rfl rfl) rfl rfl rfl H27 ?_
  clear H27; intro a28 H28
  have H30 := H28.know (d := 34) (v := .bool false) rfl (rfl)
  clear H28
  refine st_callg rfl z_call18 rfl rfl rfl rfl H30 (lawake16 (hG.frm H30.sep.frm (by simp))) ?_
  clear H30; intro a31 wx31 H31
  refine plain (y_not rfl rfl) rfl rfl rfl H31 ?_
  clear H31; intro a32 H32
  refine plain (y_pick_f rfl rfl rfl) rfl rfl rfl H32 ?_
  clear H32; intro a33 H33
  refine fin ?_
  refine then_n ?_
  refine cnd_f H33 rfl ?_
  refine wp_skip ?_
  refine then_n ?_
  refine wp_seq ?_
  refine wp_seq ?_
  refine reg ?_
  refine plain (y_move rfl rfl) rfl rfl rfl H33 ?_
  clear H33; intro a35 H35
  refine plain (y_peql rfl Tryd.underlying46 rfl rfl) rfl rfl rfl H35 ?_
  clear H35; intro a36 H36
  refine fin ?_
  refine then_n ?_
  refine cnd_t H36 rfl ?_
  refine wp_seq ?_
  refine reg ?_
  refine plain (y_assign rfl rfl) rfl rfl rfl H36 ?_
  clear H36; intro a38 H38
  refine fin ?_
  refine then_n ?_
  refine wp_ret ?_
  refine then_r ?_
  -- return 1
  refine ret1 rfl H38 rfl ?_
  exact ⟨_, [], rfl, ⟨rfl, rfl⟩, H38.sep.sub (List.nil_sublist _)⟩
theorem laneDoes (len : Int) (l : List Lane.Act) (A : Option Addr) (ca : Nat) (hl0 : l.length ≤ 9223372036854775807) (wl : ∀ z ∈ l, Lane.Act.Wf z) {w : World} (hA : Rd w A (Lane.acs l)) (hG : Glob 0 Sha.K w) : Calls Tryd.prog 7 #[.int .i64 len, .slice A l.length ca] w (Gives (.bool true) [] w) := by
  by_cases h1 : 1 ≤ len ∧ len ≤ 1099511627776
  · exact laneDoes1 len h1 l A ca hl0 wl hA hG
  · exact laneDoes0 len h1 l A ca hl0 wl hA hG

end Go.Proofs.YtaeahloenahelaaDoor.A_L6

set_option linter.unusedVariables false
set_option linter.unusedSimpArgs false
namespace Go.Proofs.YtaeahloenahelaaDoor.A_RdL
open Go.Sx Go.RowKit

theorem rd_Tx {H : Type} {enc : TypeId × Value → H} {W : World} {sp : Nat → Bool} {held : Bool} {cs : List Value} (h : Trw enc Tryd.prog W sp held 50 cs) : ∃ (x : Txs.Tx), cs = Txs.Tx.cells x ∧ Txs.Tx.Wf x := by
  have hp := h.pieces Tryd.underlying50 [1, 1, 1, 1, 1, 1, 1, 1, 32, 32] (by kernel_rfl)
  obtain ⟨v0, e0, w0⟩ := (h.field Tryd.underlying50 0 rfl (o := 0) rfl (T := 3) rfl (k := 1) (by kernel_rfl)).i64 Tryd.underlying3
  obtain ⟨v1, e1, w1⟩ := (h.field Tryd.underlying50 1 rfl (o := 1) rfl (T := 3) rfl (k := 1) (by kernel_rfl)).i64 Tryd.underlying3
  obtain ⟨v2, e2, w2⟩ := (h.field Tryd.underlying50 2 rfl (o := 2) rfl (T := 3) rfl (k := 1) (by kernel_rfl)).i64 Tryd.underlying3
  obtain ⟨v3, e3, w3⟩ := (h.field Tryd.underlying50 3 rfl (o := 3) rfl (T := 3) rfl (k := 1) (by kernel_rfl)).i64 Tryd.underlying3
  obtain ⟨v4, e4, w4⟩ := (h.field Tryd.underlying50 4 rfl (o := 4) rfl (T := 9) rfl (k := 1) (by kernel_rfl)).str Tryd.underlying9
  obtain ⟨v5, e5⟩ := (h.field Tryd.underlying50 5 rfl (o := 5) rfl (T := 4) rfl (k := 1) (by kernel_rfl)).bool Tryd.underlying4
  obtain ⟨v6, e6, w6⟩ := (h.field Tryd.underlying50 6 rfl (o := 6) rfl (T := 3) rfl (k := 1) (by kernel_rfl)).i64 Tryd.underlying3
  obtain ⟨v7, e7, w7⟩ := (h.field Tryd.underlying50 7 rfl (o := 7) rfl (T := 3) rfl (k := 1) (by kernel_rfl)).i64 Tryd.underlying3
  obtain ⟨v8, e8, w8⟩ := (h.field Tryd.underlying50 8 rfl (o := 8) rfl (T := 28) rfl (k := 32) (by kernel_rfl)).bytes Tryd.underlying28 Tryd.underlying5 (by kernel_rfl) (by kernel_rfl)
  obtain ⟨v9, e9, w9⟩ := (h.field Tryd.underlying50 9 rfl (o := 40) rfl (T := 28) rfl (k := 32) (by kernel_rfl)).bytes Tryd.underlying28 Tryd.underlying5 (by kernel_rfl) (by kernel_rfl)
  refine ⟨⟨v0, v1, v2, v3, v4, v5, v6, v7, v8, v9⟩, ?_, w0, w1, w2, w3, w4, w6, w7, w8, w9⟩
  rw [hp]
  simp only [Sx.pieces, Nat.zero_add, Nat.reduceAdd, e0, e1, e2, e3, e4, e5, e6, e7, e8, e9]
  first | rfl | simp [Txs.Tx.cells]
theorem rd_Act {H : Type} {enc : TypeId × Value → H} {W : World} {sp : Nat → Bool} {held : Bool} {cs : List Value} (h : Trw enc Tryd.prog W sp held 52 cs) : ∃ (x : Lane.Act), cs = Lane.Act.cells x ∧ Lane.Act.Wf x := by
  have hp := h.pieces Tryd.underlying52 [1, 1, 1, 1, 1, 1, 1, 72] (by kernel_rfl)
  obtain ⟨v0, e0, w0⟩ := (h.field Tryd.underlying52 0 rfl (o := 0) rfl (T := 3) rfl (k := 1) (by kernel_rfl)).i64 Tryd.underlying3
  obtain ⟨v1, e1, w1⟩ := (h.field Tryd.underlying52 1 rfl (o := 1) rfl (T := 3) rfl (k := 1) (by kernel_rfl)).i64 Tryd.underlying3
  obtain ⟨v2, e2, w2⟩ := (h.field Tryd.underlying52 2 rfl (o := 2) rfl (T := 3) rfl (k := 1) (by kernel_rfl)).i64 Tryd.underlying3
  obtain ⟨v3, e3, w3⟩ := (h.field Tryd.underlying52 3 rfl (o := 3) rfl (T := 3) rfl (k := 1) (by kernel_rfl)).i64 Tryd.underlying3
  obtain ⟨v4, e4, w4⟩ := (h.field Tryd.underlying52 4 rfl (o := 4) rfl (T := 3) rfl (k := 1) (by kernel_rfl)).i64 Tryd.underlying3
  obtain ⟨v5, e5, w5⟩ := (h.field Tryd.underlying52 5 rfl (o := 5) rfl (T := 3) rfl (k := 1) (by kernel_rfl)).i64 Tryd.underlying3
  obtain ⟨v6, e6⟩ := (h.field Tryd.underlying52 6 rfl (o := 6) rfl (T := 4) rfl (k := 1) (by kernel_rfl)).bool Tryd.underlying4
  obtain ⟨v7, e7, w7⟩ := rd_Tx (h.field Tryd.underlying52 7 rfl (o := 7) rfl (T := 50) rfl (k := 72) (by kernel_rfl))
  refine ⟨⟨v0, v1, v2, v3, v4, v5, v6, v7⟩, ?_, w0, w1, w2, w3, w4, w5, w7⟩
  rw [hp]
  simp only [Sx.pieces, Nat.zero_add, Nat.reduceAdd, e0, e1, e2, e3, e4, e5, e6, e7]
  first | rfl | (simp [Lane.Act.cells]; rfl)

end Go.Proofs.YtaeahloenahelaaDoor.A_RdL
