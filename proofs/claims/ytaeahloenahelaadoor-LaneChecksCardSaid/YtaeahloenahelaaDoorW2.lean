/- Part of a proof about given Go functions: contracts of functions, or plain laws. -/
import Derived.Test.YtaeahloenahelaaDoorLaneV
import Derived.Test.YtaeahloenahelaaDoorSxI
import Derived.Test.YtaeahloenahelaaDoorSxN
import Derived.Test.YtaeahloenahelaaDoorSxK
import Derived.Test.YtaeahloenahelaaDoorSxM
import Derived.Test.YtaeahloenahelaaDoorProg
import Derived.Test.YtaeahloenahelaaDoorW1
import Derived.Test.YtaeahloenahelaaDoorSxG
import Derived.Test.YtaeahloenahelaaDoorOct
import Derived.Test.YtaeahloenahelaaDoorSxW
import Derived.Test.YtaeahloenahelaaDoorSha
import Derived.Test.YtaeahloenahelaaDoorShaAbc
import Derived.Test.YtaeahloenahelaaDoorSxX
import Derived.Test.YtaeahloenahelaaDoorSxY
import Derived.Test.YtaeahloenahelaaDoorSeal
import Derived.Test.YtaeahloenahelaaDoorShaKey
import Derived.Test.YtaeahloenahelaaDoorOct2
set_option linter.unusedVariables false
set_option linter.unusedSimpArgs false
namespace Go.Proofs.YtaeahloenahelaaDoor.A_Tx
open Go.Sx Go.RowKit Go.Proofs.YtaeahloenahelaaDoor.A_EqT

theorem z_field50_6 : fieldB Tryd.prog 50 6 = some 6 := by kernel_rfl
theorem z_agg3 : aggB Tryd.prog 3 = some false := by kernel_rfl
theorem q_ix_c8b32b32_6 {a0 a1 a2 a3 a4 a5 a6 a7 : Value} {t8 t9 : List UInt8} : (a0 :: a1 :: a2 :: a3 :: a4 :: a5 :: a6 :: a7 :: (t8.map u8 ++ (t9.map u8)))[6]? = some a6 := (ix_c (o := 5) (ix_c (o := 4) (ix_c (o := 3) (ix_c (o := 2) (ix_c (o := 1) (ix_c (o := 0) ix_0))))))
theorem z_field50_7 : fieldB Tryd.prog 50 7 = some 7 := by kernel_rfl
theorem q_ix_c8b32b32_7 {a0 a1 a2 a3 a4 a5 a6 a7 : Value} {t8 t9 : List UInt8} : (a0 :: a1 :: a2 :: a3 :: a4 :: a5 :: a6 :: a7 :: (t8.map u8 ++ (t9.map u8)))[7]? = some a7 := (ix_c (o := 6) (ix_c (o := 5) (ix_c (o := 4) (ix_c (o := 3) (ix_c (o := 2) (ix_c (o := 1) (ix_c (o := 0) ix_0)))))))
theorem z_field50_8 : fieldB Tryd.prog 50 8 = some 8 := by kernel_rfl
theorem z_agg28 : aggB Tryd.prog 28 = some true := by kernel_rfl
theorem z_size28 : sizeB Tryd.prog 28 = some 32 := by kernel_rfl
theorem q_ld_c8b32b32_8_32 {a0 a1 a2 a3 a4 a5 a6 a7 : Value} {t8 t9 : List UInt8} (h8 : t8.length = 32) : ((a0 :: a1 :: a2 :: a3 :: a4 :: a5 :: a6 :: a7 :: (t8.map u8 ++ (t9.map u8))).drop 8).take 32 = t8.map u8 := (ld_c (o := 7) (ld_c (o := 6) (ld_c (o := 5) (ld_c (o := 4) (ld_c (o := 3) (ld_c (o := 2) (ld_c (o := 1) (ld_c (o := 0) (ld_h h8)))))))))
theorem q_len_b32 {t0 : List UInt8} (h0 : t0.length = 32) : (t0.map u8).length = 32 := (len_e (k := 32) h0)
theorem z_zeroN126 : zeroL Tryd.prog 126 = some ((.int .i64 0 :: (.int .i64 0 :: (List.replicate 32 (0 : UInt8)).map u8))) := by kernel_rfl
theorem z_places126 : placesB Tryd.prog 126 = some [(0, 1), (1, 1), (2, 32)] := by kernel_rfl
theorem q_len_c2b32 {a0 a1 : Value} {t2 : List UInt8} (h2 : t2.length = 32) : (a0 :: a1 :: t2.map u8).length = 34 := (len_c (n := 33) (len_c (n := 32) (len_e (k := 32) h2)))
theorem q_spl_c2b32_0_c1 {a0 a1 : Value} {t2 : List UInt8} {b0 : Value} : spl (a0 :: a1 :: t2.map u8) 0 (b0 :: []) = b0 :: a1 :: t2.map u8 := spl_0
theorem q_spl_c2b32_1_c1 {a0 a1 : Value} {t2 : List UInt8} {b0 : Value} : spl (a0 :: a1 :: t2.map u8) 1 (b0 :: []) = a0 :: b0 :: t2.map u8 := (spl_c (o := 0) spl_0)
theorem q_spl_c2b32_2_b32 {a0 a1 : Value} {t2 : List UInt8} {s0 : List UInt8} (h2 : t2.length = 32) (g0 : s0.length = 32) : spl (a0 :: a1 :: t2.map u8) 2 (s0.map u8) = a0 :: a1 :: s0.map u8 := (spl_c (o := 1) (spl_c (o := 0) (spl_a (z := 32) (len_e (k := 32) h2) (len_e (k := 32) g0))))
theorem z_size126 : sizeB Tryd.prog 126 = some 34 := by kernel_rfl
theorem q_one_c2b32 {a0 a1 : Value} {t2 : List UInt8} (o0 : a0.oneCell' = true) (o1 : a1.oneCell' = true) : (a0 :: a1 :: t2.map u8).all (·.oneCell') = true := (one_c o0 (one_c o1 (one_u8 _)))
theorem q_spl_c2b32_0_c2b32 {a0 a1 : Value} {t2 : List UInt8} {b0 b1 : Value} {s2 : List UInt8} (h2 : t2.length = 32) (g2 : s2.length = 32) : spl (a0 :: a1 :: t2.map u8) 0 (b0 :: b1 :: s2.map u8) = b0 :: b1 :: s2.map u8 := (spl_a (z := 34) (len_c (n := 33) (len_c (n := 32) (len_e (k := 32) h2))) (len_c (n := 33) (len_c (n := 32) (len_e (k := 32) g2))))
theorem z_field50_0 : fieldB Tryd.prog 50 0 = some 0 := by kernel_rfl
theorem q_ix_c8b32b32_0 {a0 a1 a2 a3 a4 a5 a6 a7 : Value} {t8 t9 : List UInt8} : (a0 :: a1 :: a2 :: a3 :: a4 :: a5 :: a6 :: a7 :: (t8.map u8 ++ (t9.map u8)))[0]? = some a0 := ix_0
theorem z_field50_3 : fieldB Tryd.prog 50 3 = some 3 := by kernel_rfl
theorem q_ix_c8b32b32_3 {a0 a1 a2 a3 a4 a5 a6 a7 : Value} {t8 t9 : List UInt8} : (a0 :: a1 :: a2 :: a3 :: a4 :: a5 :: a6 :: a7 :: (t8.map u8 ++ (t9.map u8)))[3]? = some a3 := (ix_c (o := 2) (ix_c (o := 1) (ix_c (o := 0) ix_0)))
theorem z_field50_1 : fieldB Tryd.prog 50 1 = some 1 := by kernel_rfl
theorem q_ix_c8b32b32_1 {a0 a1 a2 a3 a4 a5 a6 a7 : Value} {t8 t9 : List UInt8} : (a0 :: a1 :: a2 :: a3 :: a4 :: a5 :: a6 :: a7 :: (t8.map u8 ++ (t9.map u8)))[1]? = some a1 := (ix_c (o := 0) ix_0)
theorem z_call80 : callB Tryd.prog 80 = true := by kernel_rfl
theorem z_field50_2 : fieldB Tryd.prog 50 2 = some 2 := by kernel_rfl
theorem q_ix_c8b32b32_2 {a0 a1 a2 a3 a4 a5 a6 a7 : Value} {t8 t9 : List UInt8} : (a0 :: a1 :: a2 :: a3 :: a4 :: a5 :: a6 :: a7 :: (t8.map u8 ++ (t9.map u8)))[2]? = some a2 := (ix_c (o := 1) (ix_c (o := 0) ix_0))
theorem z_field50_4 : fieldB Tryd.prog 50 4 = some 4 := by kernel_rfl
theorem z_agg9 : aggB Tryd.prog 9 = some false := by kernel_rfl
theorem q_ix_c8b32b32_4 {a0 a1 a2 a3 a4 a5 a6 a7 : Value} {t8 t9 : List UInt8} : (a0 :: a1 :: a2 :: a3 :: a4 :: a5 :: a6 :: a7 :: (t8.map u8 ++ (t9.map u8)))[4]? = some a4 := (ix_c (o := 3) (ix_c (o := 2) (ix_c (o := 1) (ix_c (o := 0) ix_0))))
theorem z_field50_5 : fieldB Tryd.prog 50 5 = some 5 := by kernel_rfl
theorem z_agg4 : aggB Tryd.prog 4 = some false := by kernel_rfl
theorem q_ix_c8b32b32_5 {a0 a1 a2 a3 a4 a5 a6 a7 : Value} {t8 t9 : List UInt8} : (a0 :: a1 :: a2 :: a3 :: a4 :: a5 :: a6 :: a7 :: (t8.map u8 ++ (t9.map u8)))[5]? = some a5 := (ix_c (o := 4) (ix_c (o := 3) (ix_c (o := 2) (ix_c (o := 1) (ix_c (o := 0) ix_0)))))
theorem z_agg126 : aggB Tryd.prog 126 = some true := by kernel_rfl
theorem q_ld_c2b32_0_34 {a0 a1 : Value} {t2 : List UInt8} (h2 : t2.length = 32) : ((a0 :: a1 :: t2.map u8).drop 0).take 34 = a0 :: a1 :: t2.map u8 := (ld_a (len_c (n := 33) (len_c (n := 32) (len_e (k := 32) h2))))
theorem z_call78 : callB Tryd.prog 78 = true := by kernel_rfl
theorem z_zeroN28 : zeroL Tryd.prog 28 = some ((List.replicate 32 (0 : UInt8)).map u8) := by kernel_rfl
theorem z_size5 : sizeB Tryd.prog 5 = some 1 := by kernel_rfl

set_option maxRecDepth 100000 in
set_option maxHeartbeats 1000000 in
theorem tnumber (n : Int) (w : World) : Calls Tryd.prog 80 #[.int .i64 n] w (Gives (.bool (decide (Txs.within n 1099511627776))) [] w) := by
  have lz32 : (List.replicate 32 (0 : UInt8)).length = 32 := List.length_replicate
  refine enterL (args := [.int .i64 n]) Tryd.func80 rfl rfl (l := []) (Sep.refl _) ?_
  intro a0 H0
  refine wp_seq ?_
  refine reg ?_
  refine plain (y_assign rfl rfl) rfl rfl rfl H0 ?_
  clear H0; intro a1 H1
  refine fin ?_
  refine then_n ?_
  refine wp_seq ?_
  refine reg ?_
  refine plain (y_move rfl rfl) rfl rfl rfl H1 ?_
  clear H1; intro a2 H2
  refine plain (y_geq rfl rfl rfl) rfl rfl rfl H2 ?_
  clear H2; intro a3 H3
  refine plain (y_move rfl rfl) rfl rfl rfl H3 ?_
  clear H3; intro a4 H4
  refine Sx.part (d := 5) H4 rfl (fun hg5 => ?_) (fun hg5 => ?_)
  · first
    | fail
    | skip
      clear H4; intro H6
      try simp only [decide_eq_true_eq, decide_eq_false_iff_not, Bool.not_eq_true', Bool.not_eq_false', Bool.and_eq_true, Bool.not_eq_true, Bool.not_eq_false] at hg5
      refine plain (y_move rfl rfl) rfl rfl rfl H6 ?_
      clear H6; intro a7 H7
      refine plain (y_leq rfl rfl rfl) rfl rfl rfl H7 ?_
      clear H7; intro a8 H8
      refine plain (y_pick_t rfl rfl rfl) rfl rfl rfl H8 ?_
      clear H8; intro a9 H9
      refine plain (y_assign rfl rfl) rfl rfl rfl H9 ?_
      clear H9; intro a10 H10
      refine fin ?_
      refine then_n ?_
      refine wp_ret ?_
      -- return 1
      refine ret1 rfl H10 rfl ?_
      refine ⟨_, [], rfl, ⟨?_, rfl⟩, H10.sep.sub (List.nil_sublist _)⟩
      clear H10
      first | exact congrArg Value.bool (decide_eq_decide.2 (by unfold Txs.within; omega)) | exact congrArg Value.bool (decide_eq_false (by unfold Txs.within; omega)).symm
  · first
    | fail
    | skip
      clear H4; intro H11
      try simp only [decide_eq_true_eq, decide_eq_false_iff_not, Bool.not_eq_true', Bool.not_eq_false', Bool.and_eq_true, Bool.not_eq_true, Bool.not_eq_false] at hg5
      refine skip rfl rfl rfl H11 ?_
      clear H11; intro a12 H12
      refine skip rfl rfl rfl H12 ?_
      clear H12; intro a13 H13
      refine plain (y_pick_f rfl rfl rfl) rfl rfl rfl H13 ?_
      clear H13; intro a14 H14
      refine plain (y_assign rfl rfl) rfl rfl rfl H14 ?_
      clear H14; intro a15 H15
      refine fin ?_
      refine then_n ?_
      refine wp_ret ?_
      -- return 2
      refine ret1 rfl H15 rfl ?_
      refine ⟨_, [], rfl, ⟨?_, rfl⟩, H15.sep.sub (List.nil_sublist _)⟩
      clear H15
      first | exact congrArg Value.bool (decide_eq_decide.2 (by unfold Txs.within; omega)) | exact congrArg Value.bool (decide_eq_false (by unfold Txs.within; omega)).symm
set_option maxRecDepth 100000 in
set_option maxHeartbeats 4000000 in
theorem tcheck (t : Txs.Tx) (wf : Txs.Tx.Wf t) (w : World) : Calls Tryd.prog 57 #[.agg (Txs.Tx.cells t).toArray] w (Gives (.int .i64 (Txs.check t)) [] w) := by
  have whd := wf.hand
  have wtg := wf.tag
  have lz32 : (List.replicate 32 (0 : UInt8)).length = 32 := List.length_replicate
  have lz0 := wf.hand
  have lz1 := wf.tag
  refine enterL (args := [.agg (Txs.Tx.cells t).toArray]) Tryd.func57 rfl rfl (l := []) (Sep.refl _) ?_
  intro a0 H0
  refine wp_seq ?_
  refine reg ?_
  refine st_box rfl rfl (agg_cells _) rfl rfl rfl H0 ?_
  clear H0; intro b1 a1 wx1 H1
  refine plain (y_assign rfl rfl) rfl rfl rfl H1 ?_
  clear H1; intro a2 H2
  refine fin ?_
  refine then_n ?_
  refine wp_seq ?_
  refine reg ?_
  refine plain (y_fieldB rfl z_field50_6 rfl (by first | (simp only [Nat.zero_add, Nat.add_zero, Nat.reduceAdd]; rfl) | rfl)) rfl rfl rfl H2 ?_
  clear H2; intro a3 H3
  refine plain (y_loadB rfl z_agg3 rfl (by repeat (first | exact Mh | apply Mt)) q_ix_c8b32b32_6) rfl rfl rfl H3 ?_
  clear H3; intro a4 H4
  refine plain (y_fieldB rfl z_field50_7 rfl (by first | (simp only [Nat.zero_add, Nat.add_zero, Nat.reduceAdd]; rfl) | rfl)) rfl rfl rfl H4 ?_
  clear H4; intro a5 H5
  refine plain (y_loadB rfl z_agg3 rfl (by repeat (first | exact Mh | apply Mt)) q_ix_c8b32b32_7) rfl rfl rfl H5 ?_
  clear H5; intro a6 H6
  refine plain (y_fieldB rfl z_field50_8 rfl (by first | (simp only [Nat.zero_add, Nat.add_zero, Nat.reduceAdd]; rfl) | rfl)) rfl rfl rfl H6 ?_
  clear H6; intro a7 H7
  refine plain (y_loadAB rfl z_agg28 z_size28 rfl (by repeat (first | exact Mh | apply Mt)) (q_ld_c8b32b32_8_32 (by assumption)) (q_len_b32 (by assumption))) rfl rfl rfl H7 ?_
  clear H7; intro a8 H8
  refine plain (y_build rfl z_zeroN126 z_places126 rfl (lay_1 (off := 0) (n := 34) rfl (q_len_c2b32 (by assumption)) (by decide) q_spl_c2b32_0_c1 (lay_1 (off := 1) (n := 34) rfl (q_len_c2b32 (by assumption)) (by decide) q_spl_c2b32_1_c1 (lay_f (off := 2) (z := 32) (n := 34) rfl (agg_cells _) (q_len_b32 (by assumption)) (q_len_c2b32 (by assumption)) (by decide) (q_spl_c2b32_2_b32 (by assumption) (by assumption)) lay_n) (by rfl)) (by rfl))) rfl rfl rfl H8 ?_
  clear H8; intro a9 H9
  refine st_alloc rfl z_zeroN126 rfl rfl rfl H9 ?_
  clear H9; intro b10 a10 wx10 H10
  refine st_storeN rfl z_size126 rfl rfl (agg_cells _) (by repeat (first | exact Uh | apply Ut)) (q_one_c2b32 rfl rfl) (q_len_c2b32 (by assumption)) (q_len_c2b32 (by assumption)) (q_spl_c2b32_0_c2b32 (by assumption) (by assumption)) (by decide) rfl rfl H10 ?_
  clear H10; intro wx11 H11
  refine fin ?_
  refine then_n ?_
  refine wp_seq ?_
  refine wp_block ?_
  refine wp_seq ?_
  refine reg ?_
  refine plain (y_fieldB rfl z_field50_0 rfl (by first | (simp only [Nat.zero_add, Nat.add_zero, Nat.reduceAdd]; rfl) | rfl)) rfl rfl rfl H11 ?_
  clear H11; intro a12 H12
  refine plain (y_loadB rfl z_agg3 rfl (by repeat (first | exact Mh | apply Mt)) q_ix_c8b32b32_0) rfl rfl rfl H12 ?_
  clear H12; intro a13 H13
  refine plain (y_lss rfl rfl rfl) rfl rfl rfl H13 ?_
  clear H13; intro a14 H14
  refine plain (y_move rfl rfl) rfl rfl rfl H14 ?_
  clear H14; intro a15 H15
  refine Sx.part (d := 15) H15 rfl (fun hg16 => ?_) (fun hg16 => ?_)
  · first
    | fail
    | skip
      clear H15; intro H17
      try simp only [decide_eq_true_eq, decide_eq_false_iff_not, Bool.not_eq_true', Bool.not_eq_false', Bool.and_eq_true, Bool.not_eq_true, Bool.not_eq_false] at hg16
      refine skip rfl rfl rfl H17 ?_
      clear H17; intro a18 H18
      refine skip rfl rfl rfl H18 ?_
      clear H18; intro a19 H19
      refine skip rfl rfl rfl H19 ?_
      clear H19; intro a20 H20
      refine plain (y_pick_t rfl rfl rfl) rfl rfl rfl H20 ?_
      clear H20; intro a21 H21
      refine plain (y_move rfl rfl) rfl rfl rfl H21 ?_
      clear H21; intro a22 H22
      refine skip rfl rfl rfl H22 ?_
      clear H22; intro a23 H23
      refine skip rfl rfl rfl H23 ?_
      clear H23; intro a24 H24
      refine skip rfl rfl rfl H24 ?_
      clear H24; intro a25 H25
      refine plain (y_pick_t rfl rfl rfl) rfl rfl rfl H25 ?_
      clear H25; intro a26 H26
      refine plain (y_move rfl rfl) rfl rfl rfl H26 ?_
      clear H26; intro a27 H27
      refine skip rfl rfl rfl H27 ?_
      clear H27; intro a28 H28
      refine skip rfl rfl rfl H28 ?_
      clear H28; intro a29 H29
      refine skip rfl rfl rfl H29 ?_
      clear H29; intro a30 H30
      refine plain (y_pick_t rfl rfl rfl) rfl rfl rfl H30 ?_
      clear H30; intro a31 H31
      refine plain (y_assign rfl rfl) rfl rfl rfl H31 ?_
      clear H31; intro a32 H32
      refine fin ?_
      refine then_n ?_
      refine cnd_t H32 rfl ?_
      refine wp_seq ?_
      refine reg ?_
      refine plain (y_assign rfl rfl) rfl rfl rfl H32 ?_
      clear H32; intro a34 H34
      refine fin ?_
      refine then_n ?_
      refine wp_ret ?_
      refine inb_r ?_
      refine then_r ?_
      -- return 1
      refine ret1 rfl H34 rfl ?_
      refine ⟨_, [], rfl, ⟨?_, rfl⟩, H34.sep.sub (List.nil_sublist _)⟩
      clear H34
      try simp only [Decidable.not_not, show List.replicate 32 (0 : UInt8) = Note.Z from rfl] at *
      first | (exact congrArg (Value.int .i64) (Txs.check_who (by first | (unfold Txs.okWho Txs.within; omega) | exact ⟨by assumption, by assumption⟩ | (unfold Txs.okWho; simp_all; done))).symm) | (exact congrArg (Value.int .i64) (Txs.check_arg (by first | (unfold Txs.okWho Txs.within; omega) | exact ⟨by assumption, by assumption⟩ | (unfold Txs.okWho; simp_all; done)) (by intro hh; obtain ⟨⟨a1, a2⟩, a3, a4⟩ := hh; first | exact absurd a1 (by assumption) | exact absurd a2 (by assumption) | exact absurd (a3 (by assumption)).1 (by assumption) | exact absurd (a3 (by assumption)).2 (by assumption) | (obtain ⟨b1, b2, b3⟩ := a4 (by assumption); simp_all))).symm) | (exact congrArg (Value.int .i64) (Txs.check_big (by first | (unfold Txs.okWho Txs.within; omega) | exact ⟨by assumption, by assumption⟩ | (unfold Txs.okWho; simp_all; done)) (by refine ⟨⟨by assumption, by assumption⟩, fun hl => ?_, fun hl => ?_⟩ <;> simp_all) (by omega)).symm) | (exact congrArg (Value.int .i64) (Txs.check_ok (by first | (unfold Txs.okWho Txs.within; omega) | exact ⟨by assumption, by assumption⟩ | (unfold Txs.okWho; simp_all; done)) (by refine ⟨⟨by assumption, by assumption⟩, fun hl => ?_, fun hl => ?_⟩ <;> simp_all) (by omega)).symm)
  · first
    | fail
    | skip
      clear H15; intro H35
      try simp only [decide_eq_true_eq, decide_eq_false_iff_not, Bool.not_eq_true', Bool.not_eq_false', Bool.and_eq_true, Bool.not_eq_true, Bool.not_eq_false] at hg16
      refine plain (y_fieldB rfl z_field50_0 rfl (by first | (simp only [Nat.zero_add, Nat.add_zero, Nat.reduceAdd]; rfl) | rfl)) rfl rfl rfl H35 ?_
      clear H35; intro a36 H36
      refine plain (y_loadB rfl z_agg3 rfl (by repeat (first | exact Mh | apply Mt)) q_ix_c8b32b32_0) rfl rfl rfl H36 ?_
      clear H36; intro a37 H37
      refine plain (y_geq rfl rfl rfl) rfl rfl rfl H37 ?_
      clear H37; intro a38 H38
      refine plain (y_pick_f rfl rfl rfl) rfl rfl rfl H38 ?_
      clear H38; intro a39 H39
      refine plain (y_move rfl rfl) rfl rfl rfl H39 ?_
      clear H39; intro a40 H40
      refine Sx.part (d := 20) H40 rfl (fun hg41 => ?_) (fun hg41 => ?_)
      · first
        | fail
        | skip
          clear H40; intro H42
          try simp only [decide_eq_true_eq, decide_eq_false_iff_not, Bool.not_eq_true', Bool.not_eq_false', Bool.and_eq_true, Bool.not_eq_true, Bool.not_eq_false] at hg41
          refine skip rfl rfl rfl H42 ?_
          clear H42; intro a43 H43
          refine skip rfl rfl rfl H43 ?_
          clear H43; intro a44 H44
          refine skip rfl rfl rfl H44 ?_
          clear H44; intro a45 H45
          refine plain (y_pick_t rfl rfl rfl) rfl rfl rfl H45 ?_
          clear H45; intro a46 H46
          refine plain (y_move rfl rfl) rfl rfl rfl H46 ?_
          clear H46; intro a47 H47
          refine skip rfl rfl rfl H47 ?_
          clear H47; intro a48 H48
          refine skip rfl rfl rfl H48 ?_
          clear H48; intro a49 H49
          refine skip rfl rfl rfl H49 ?_
          clear H49; intro a50 H50
          refine plain (y_pick_t rfl rfl rfl) rfl rfl rfl H50 ?_
          clear H50; intro a51 H51
          refine plain (y_assign rfl rfl) rfl rfl rfl H51 ?_
          clear H51; intro a52 H52
          refine fin ?_
          refine then_n ?_
          refine cnd_t H52 rfl ?_
          refine wp_seq ?_
          refine reg ?_
          refine plain (y_assign rfl rfl) rfl rfl rfl H52 ?_
          clear H52; intro a54 H54
          refine fin ?_
          refine then_n ?_
          refine wp_ret ?_
          refine inb_r ?_
          refine then_r ?_
          -- return 2
          refine ret1 rfl H54 rfl ?_
          refine ⟨_, [], rfl, ⟨?_, rfl⟩, H54.sep.sub (List.nil_sublist _)⟩
          clear H54
          try simp only [Decidable.not_not, show List.replicate 32 (0 : UInt8) = Note.Z from rfl] at *
          first | (exact congrArg (Value.int .i64) (Txs.check_who (by first | (unfold Txs.okWho Txs.within; omega) | exact ⟨by assumption, by assumption⟩ | (unfold Txs.okWho; simp_all; done))).symm) | (exact congrArg (Value.int .i64) (Txs.check_arg (by first | (unfold Txs.okWho Txs.within; omega) | exact ⟨by assumption, by assumption⟩ | (unfold Txs.okWho; simp_all; done)) (by intro hh; obtain ⟨⟨a1, a2⟩, a3, a4⟩ := hh; first | exact absurd a1 (by assumption) | exact absurd a2 (by assumption) | exact absurd (a3 (by assumption)).1 (by assumption) | exact absurd (a3 (by assumption)).2 (by assumption) | (obtain ⟨b1, b2, b3⟩ := a4 (by assumption); simp_all))).symm) | (exact congrArg (Value.int .i64) (Txs.check_big (by first | (unfold Txs.okWho Txs.within; omega) | exact ⟨by assumption, by assumption⟩ | (unfold Txs.okWho; simp_all; done)) (by refine ⟨⟨by assumption, by assumption⟩, fun hl => ?_, fun hl => ?_⟩ <;> simp_all) (by omega)).symm) | (exact congrArg (Value.int .i64) (Txs.check_ok (by first | (unfold Txs.okWho Txs.within; omega) | exact ⟨by assumption, by assumption⟩ | (unfold Txs.okWho; simp_all; done)) (by refine ⟨⟨by assumption, by assumption⟩, fun hl => ?_, fun hl => ?_⟩ <;> simp_all) (by omega)).symm)
      · first
        | fail
        | skip
          clear H40; intro H55
          try simp only [decide_eq_true_eq, decide_eq_false_iff_not, Bool.not_eq_true', Bool.not_eq_false', Bool.and_eq_true, Bool.not_eq_true, Bool.not_eq_false] at hg41
          refine plain (y_fieldB rfl z_field50_3 rfl (by first | (simp only [Nat.zero_add, Nat.add_zero, Nat.reduceAdd]; rfl) | rfl)) rfl rfl rfl H55 ?_
          clear H55; intro a56 H56
          refine plain (y_loadB rfl z_agg3 rfl (by repeat (first | exact Mh | apply Mt)) q_ix_c8b32b32_3) rfl rfl rfl H56 ?_
          clear H56; intro a57 H57
          refine plain (y_lss rfl rfl rfl) rfl rfl rfl H57 ?_
          clear H57; intro a58 H58
          refine plain (y_pick_f rfl rfl rfl) rfl rfl rfl H58 ?_
          clear H58; intro a59 H59
          refine plain (y_move rfl rfl) rfl rfl rfl H59 ?_
          clear H59; intro a60 H60
          refine Sx.part (d := 25) H60 rfl (fun hg61 => ?_) (fun hg61 => ?_)
          · first
            | fail
            | skip
              clear H60; intro H62
              try simp only [decide_eq_true_eq, decide_eq_false_iff_not, Bool.not_eq_true', Bool.not_eq_false', Bool.and_eq_true, Bool.not_eq_true, Bool.not_eq_false] at hg61
              refine skip rfl rfl rfl H62 ?_
              clear H62; intro a63 H63
              refine skip rfl rfl rfl H63 ?_
              clear H63; intro a64 H64
              refine skip rfl rfl rfl H64 ?_
              clear H64; intro a65 H65
              refine plain (y_pick_t rfl rfl rfl) rfl rfl rfl H65 ?_
              clear H65; intro a66 H66
              refine plain (y_assign rfl rfl) rfl rfl rfl H66 ?_
              clear H66; intro a67 H67
              refine fin ?_
              refine then_n ?_
              refine cnd_t H67 rfl ?_
              refine wp_seq ?_
              refine reg ?_
              refine plain (y_assign rfl rfl) rfl rfl rfl H67 ?_
              clear H67; intro a69 H69
              refine fin ?_
              refine then_n ?_
              refine wp_ret ?_
              refine inb_r ?_
              refine then_r ?_
              -- return 3
              refine ret1 rfl H69 rfl ?_
              refine ⟨_, [], rfl, ⟨?_, rfl⟩, H69.sep.sub (List.nil_sublist _)⟩
              clear H69
              try simp only [Decidable.not_not, show List.replicate 32 (0 : UInt8) = Note.Z from rfl] at *
              first | (exact congrArg (Value.int .i64) (Txs.check_who (by first | (unfold Txs.okWho Txs.within; omega) | exact ⟨by assumption, by assumption⟩ | (unfold Txs.okWho; simp_all; done))).symm) | (exact congrArg (Value.int .i64) (Txs.check_arg (by first | (unfold Txs.okWho Txs.within; omega) | exact ⟨by assumption, by assumption⟩ | (unfold Txs.okWho; simp_all; done)) (by intro hh; obtain ⟨⟨a1, a2⟩, a3, a4⟩ := hh; first | exact absurd a1 (by assumption) | exact absurd a2 (by assumption) | exact absurd (a3 (by assumption)).1 (by assumption) | exact absurd (a3 (by assumption)).2 (by assumption) | (obtain ⟨b1, b2, b3⟩ := a4 (by assumption); simp_all))).symm) | (exact congrArg (Value.int .i64) (Txs.check_big (by first | (unfold Txs.okWho Txs.within; omega) | exact ⟨by assumption, by assumption⟩ | (unfold Txs.okWho; simp_all; done)) (by refine ⟨⟨by assumption, by assumption⟩, fun hl => ?_, fun hl => ?_⟩ <;> simp_all) (by omega)).symm) | (exact congrArg (Value.int .i64) (Txs.check_ok (by first | (unfold Txs.okWho Txs.within; omega) | exact ⟨by assumption, by assumption⟩ | (unfold Txs.okWho; simp_all; done)) (by refine ⟨⟨by assumption, by assumption⟩, fun hl => ?_, fun hl => ?_⟩ <;> simp_all) (by omega)).symm)
          · first
            | fail
            | skip
              clear H60; intro H70
              try simp only [decide_eq_true_eq, decide_eq_false_iff_not, Bool.not_eq_true', Bool.not_eq_false', Bool.and_eq_true, Bool.not_eq_true, Bool.not_eq_false] at hg61
              refine plain (y_fieldB rfl z_field50_3 rfl (by first | (simp only [Nat.zero_add, Nat.add_zero, Nat.reduceAdd]; rfl) | rfl)) rfl rfl rfl H70 ?_
              clear H70; intro a71 H71
              refine plain (y_loadB rfl z_agg3 rfl (by repeat (first | exact Mh | apply Mt)) q_ix_c8b32b32_3) rfl rfl rfl H71 ?_
              clear H71; intro a72 H72
              refine plain (y_geq rfl rfl rfl) rfl rfl rfl H72 ?_
              clear H72; intro a73 H73
              refine plain (y_pick_f rfl rfl rfl) rfl rfl rfl H73 ?_
              clear H73; intro a74 H74
              refine plain (y_assign rfl rfl) rfl rfl rfl H74 ?_
              clear H74; intro a75 H75
              refine fin ?_
              refine then_n ?_
              refine cnd H75 rfl (fun hc76 => ?_) (fun hc76 => ?_) -- cond 4
              · skip
                try simp only [decide_eq_true_eq, decide_eq_false_iff_not, Bool.not_eq_true', Bool.not_eq_false', Bool.and_eq_true, Bool.not_eq_true, Bool.not_eq_false] at hc76
                refine wp_seq ?_
                refine reg ?_
                refine plain (y_assign rfl rfl) rfl rfl rfl H75 ?_
                clear H75; intro a77 H77
                refine fin ?_
                refine then_n ?_
                refine wp_ret ?_
                refine inb_r ?_
                refine then_r ?_
                -- return 4
                refine ret1 rfl H77 rfl ?_
                refine ⟨_, [], rfl, ⟨?_, rfl⟩, H77.sep.sub (List.nil_sublist _)⟩
                clear H77
                try simp only [Decidable.not_not, show List.replicate 32 (0 : UInt8) = Note.Z from rfl] at *
                first | (exact congrArg (Value.int .i64) (Txs.check_who (by first | (unfold Txs.okWho Txs.within; omega) | exact ⟨by assumption, by assumption⟩ | (unfold Txs.okWho; simp_all; done))).symm) | (exact congrArg (Value.int .i64) (Txs.check_arg (by first | (unfold Txs.okWho Txs.within; omega) | exact ⟨by assumption, by assumption⟩ | (unfold Txs.okWho; simp_all; done)) (by intro hh; obtain ⟨⟨a1, a2⟩, a3, a4⟩ := hh; first | exact absurd a1 (by assumption) | exact absurd a2 (by assumption) | exact absurd (a3 (by assumption)).1 (by assumption) | exact absurd (a3 (by assumption)).2 (by assumption) | (obtain ⟨b1, b2, b3⟩ := a4 (by assumption); simp_all))).symm) | (exact congrArg (Value.int .i64) (Txs.check_big (by first | (unfold Txs.okWho Txs.within; omega) | exact ⟨by assumption, by assumption⟩ | (unfold Txs.okWho; simp_all; done)) (by refine ⟨⟨by assumption, by assumption⟩, fun hl => ?_, fun hl => ?_⟩ <;> simp_all) (by omega)).symm) | (exact congrArg (Value.int .i64) (Txs.check_ok (by first | (unfold Txs.okWho Txs.within; omega) | exact ⟨by assumption, by assumption⟩ | (unfold Txs.okWho; simp_all; done)) (by refine ⟨⟨by assumption, by assumption⟩, fun hl => ?_, fun hl => ?_⟩ <;> simp_all) (by omega)).symm)
              · skip
                try simp only [decide_eq_true_eq, decide_eq_false_iff_not, Bool.not_eq_true', Bool.not_eq_false', Bool.and_eq_true, Bool.not_eq_true, Bool.not_eq_false] at hc76
                refine wp_seq ?_
                refine wp_seq ?_
                refine reg ?_
                refine plain (y_fieldB rfl z_field50_1 rfl (by first | (simp only [Nat.zero_add, Nat.add_zero, Nat.reduceAdd]; rfl) | rfl)) rfl rfl rfl H75 ?_
                clear H75; intro a78 H78
                refine plain (y_loadB rfl z_agg3 rfl (by repeat (first | exact Mh | apply Mt)) q_ix_c8b32b32_1) rfl rfl rfl H78 ?_
                clear H78; intro a79 H79
                refine st_callg rfl z_call80 rfl rfl rfl rfl H79 (tnumber _ _) ?_
                clear H79; intro a80 wx80 H80
                refine plain ((by first | exact y_not_d rfl rfl | exact y_not rfl rfl)) rfl rfl rfl H80 ?_
                clear H80; intro a81 H81
                refine plain (y_move rfl rfl) rfl rfl rfl H81 ?_
                clear H81; intro a82 H82
                refine Sx.part (d := 35) H82 rfl (fun hg83 => ?_) (fun hg83 => ?_)
                · first
                  | fail
                  | skip
                    clear H82; intro H84
                    try simp only [decide_eq_true_eq, decide_eq_false_iff_not, Bool.not_eq_true', Bool.not_eq_false', Bool.and_eq_true, Bool.not_eq_true, Bool.not_eq_false] at hg83
                    refine skip rfl rfl rfl H84 ?_
                    clear H84; intro a85 H85
                    refine skip rfl rfl rfl H85 ?_
                    clear H85; intro a86 H86
                    refine skip rfl rfl rfl H86 ?_
                    clear H86; intro a87 H87
                    refine skip rfl rfl rfl H87 ?_
                    clear H87; intro a88 H88
                    refine plain (y_pick_t rfl rfl rfl) rfl rfl rfl H88 ?_
                    clear H88; intro a89 H89
                    refine plain (y_assign rfl rfl) rfl rfl rfl H89 ?_
                    clear H89; intro a90 H90
                    refine fin ?_
                    refine then_n ?_
                    refine cnd_t H90 rfl ?_
                    refine wp_skip ?_
                    refine then_n ?_
                    refine cnd_t H90 rfl ?_
                    refine wp_seq ?_
                    refine reg ?_
                    refine plain (y_assign rfl rfl) rfl rfl rfl H90 ?_
                    clear H90; intro a93 H93
                    refine fin ?_
                    refine then_n ?_
                    refine wp_ret ?_
                    refine inb_r ?_
                    refine then_r ?_
                    -- return 5
                    refine ret1 rfl H93 rfl ?_
                    refine ⟨_, [], rfl, ⟨?_, rfl⟩, H93.sep.sub (List.nil_sublist _)⟩
                    clear H93
                    try simp only [Decidable.not_not, show List.replicate 32 (0 : UInt8) = Note.Z from rfl] at *
                    first | (exact congrArg (Value.int .i64) (Txs.check_who (by first | (unfold Txs.okWho Txs.within; omega) | exact ⟨by assumption, by assumption⟩ | (unfold Txs.okWho; simp_all; done))).symm) | (exact congrArg (Value.int .i64) (Txs.check_arg (by first | (unfold Txs.okWho Txs.within; omega) | exact ⟨by assumption, by assumption⟩ | (unfold Txs.okWho; simp_all; done)) (by intro hh; obtain ⟨⟨a1, a2⟩, a3, a4⟩ := hh; first | exact absurd a1 (by assumption) | exact absurd a2 (by assumption) | exact absurd (a3 (by assumption)).1 (by assumption) | exact absurd (a3 (by assumption)).2 (by assumption) | (obtain ⟨b1, b2, b3⟩ := a4 (by assumption); simp_all))).symm) | (exact congrArg (Value.int .i64) (Txs.check_big (by first | (unfold Txs.okWho Txs.within; omega) | exact ⟨by assumption, by assumption⟩ | (unfold Txs.okWho; simp_all; done)) (by refine ⟨⟨by assumption, by assumption⟩, fun hl => ?_, fun hl => ?_⟩ <;> simp_all) (by omega)).symm) | (exact congrArg (Value.int .i64) (Txs.check_ok (by first | (unfold Txs.okWho Txs.within; omega) | exact ⟨by assumption, by assumption⟩ | (unfold Txs.okWho; simp_all; done)) (by refine ⟨⟨by assumption, by assumption⟩, fun hl => ?_, fun hl => ?_⟩ <;> simp_all) (by omega)).symm)
                · first
                  | fail
                  | skip
                    clear H82; intro H94
                    try simp only [decide_eq_true_eq, decide_eq_false_iff_not, Bool.not_eq_true', Bool.not_eq_false', Bool.and_eq_true, Bool.not_eq_true, Bool.not_eq_false] at hg83
                    refine plain (y_fieldB rfl z_field50_2 rfl (by first | (simp only [Nat.zero_add, Nat.add_zero, Nat.reduceAdd]; rfl) | rfl)) rfl rfl rfl H94 ?_
                    clear H94; intro a95 H95
                    refine plain (y_loadB rfl z_agg3 rfl (by repeat (first | exact Mh | apply Mt)) q_ix_c8b32b32_2) rfl rfl rfl H95 ?_
                    clear H95; intro a96 H96
                    refine st_callg rfl z_call80 rfl rfl rfl rfl H96 (tnumber _ _) ?_
                    clear H96; intro a97 wx97 H97
                    refine plain ((by first | exact y_not_d rfl rfl | exact y_not rfl rfl)) rfl rfl rfl H97 ?_
                    clear H97; intro a98 H98
                    refine plain (y_pick_f rfl rfl rfl) rfl rfl rfl H98 ?_
                    clear H98; intro a99 H99
                    refine plain (y_assign rfl rfl) rfl rfl rfl H99 ?_
                    clear H99; intro a100 H100
                    refine fin ?_
                    refine then_n ?_
                    refine cnd H100 rfl (fun hc101 => ?_) (fun hc101 => ?_) -- cond 7
                    · first
                      | (exfalso; simp_all; done)
                      | skip
                        try simp only [decide_eq_true_eq, decide_eq_false_iff_not, Bool.not_eq_true', Bool.not_eq_false', Bool.and_eq_true, Bool.not_eq_true, Bool.not_eq_false] at hc101
                        refine wp_skip ?_
                        refine then_n ?_
                        refine cnd H100 rfl (fun hc102 => ?_) (fun hc102 => ?_) -- cond 8
                        · first
                          | (exfalso; simp_all; done)
                          | skip
                            try simp only [decide_eq_true_eq, decide_eq_false_iff_not, Bool.not_eq_true', Bool.not_eq_false', Bool.and_eq_true, Bool.not_eq_true, Bool.not_eq_false] at hc102
                            refine wp_seq ?_
                            refine reg ?_
                            refine plain (y_assign rfl rfl) rfl rfl rfl H100 ?_
                            clear H100; intro a103 H103
                            refine fin ?_
                            refine then_n ?_
                            refine wp_ret ?_
                            refine inb_r ?_
                            refine then_r ?_
                            -- return 6
                            refine ret1 rfl H103 rfl ?_
                            refine ⟨_, [], rfl, ⟨?_, rfl⟩, H103.sep.sub (List.nil_sublist _)⟩
                            clear H103
                            try simp only [Decidable.not_not, show List.replicate 32 (0 : UInt8) = Note.Z from rfl] at *
                            first | (exact congrArg (Value.int .i64) (Txs.check_who (by first | (unfold Txs.okWho Txs.within; omega) | exact ⟨by assumption, by assumption⟩ | (unfold Txs.okWho; simp_all; done))).symm) | (exact congrArg (Value.int .i64) (Txs.check_arg (by first | (unfold Txs.okWho Txs.within; omega) | exact ⟨by assumption, by assumption⟩ | (unfold Txs.okWho; simp_all; done)) (by intro hh; obtain ⟨⟨a1, a2⟩, a3, a4⟩ := hh; first | exact absurd a1 (by assumption) | exact absurd a2 (by assumption) | exact absurd (a3 (by assumption)).1 (by assumption) | exact absurd (a3 (by assumption)).2 (by assumption) | (obtain ⟨b1, b2, b3⟩ := a4 (by assumption); simp_all))).symm) | (exact congrArg (Value.int .i64) (Txs.check_big (by first | (unfold Txs.okWho Txs.within; omega) | exact ⟨by assumption, by assumption⟩ | (unfold Txs.okWho; simp_all; done)) (by refine ⟨⟨by assumption, by assumption⟩, fun hl => ?_, fun hl => ?_⟩ <;> simp_all) (by omega)).symm) | (exact congrArg (Value.int .i64) (Txs.check_ok (by first | (unfold Txs.okWho Txs.within; omega) | exact ⟨by assumption, by assumption⟩ | (unfold Txs.okWho; simp_all; done)) (by refine ⟨⟨by assumption, by assumption⟩, fun hl => ?_, fun hl => ?_⟩ <;> simp_all) (by omega)).symm)
                        · first
                          | (exfalso; simp_all; done)
                          | skip
                            try simp only [decide_eq_true_eq, decide_eq_false_iff_not, Bool.not_eq_true', Bool.not_eq_false', Bool.and_eq_true, Bool.not_eq_true, Bool.not_eq_false] at hc102
                            refine wp_seq ?_
                            refine reg ?_
                            refine plain (y_fieldB rfl z_field50_4 rfl (by first | (simp only [Nat.zero_add, Nat.add_zero, Nat.reduceAdd]; rfl) | rfl)) rfl rfl rfl H100 ?_
                            clear H100; intro a104 H104
                            refine plain (y_loadB rfl z_agg9 rfl (by repeat (first | exact Mh | apply Mt)) q_ix_c8b32b32_4) rfl rfl rfl H104 ?_
                            clear H104; intro a105 H105
                            refine plain (y_slen rfl Tryd.underlying9 rfl) rfl rfl rfl H105 ?_
                            clear H105; intro a106 H106
                            refine plain (y_gtr rfl rfl rfl) rfl rfl rfl H106 ?_
                            clear H106; intro a107 H107
                            refine plain (y_assign rfl rfl) rfl rfl rfl H107 ?_
                            clear H107; intro a108 H108
                            refine fin ?_
                            refine then_n ?_
                            refine cnd H108 rfl (fun hc109 => ?_) (fun hc109 => ?_) -- cond 9
                            · skip
                              try simp only [decide_eq_true_eq, decide_eq_false_iff_not, Bool.not_eq_true', Bool.not_eq_false', Bool.and_eq_true, Bool.not_eq_true, Bool.not_eq_false] at hc109
                              refine wp_seq ?_
                              refine reg ?_
                              refine plain (y_assign rfl rfl) rfl rfl rfl H108 ?_
                              clear H108; intro a110 H110
                              refine fin ?_
                              refine then_n ?_
                              refine wp_ret ?_
                              refine inb_r ?_
                              refine then_r ?_
                              -- return 7
                              refine ret1 rfl H110 rfl ?_
                              refine ⟨_, [], rfl, ⟨?_, rfl⟩, H110.sep.sub (List.nil_sublist _)⟩
                              clear H110
                              try simp only [Decidable.not_not, show List.replicate 32 (0 : UInt8) = Note.Z from rfl] at *
                              first | (exact congrArg (Value.int .i64) (Txs.check_who (by first | (unfold Txs.okWho Txs.within; omega) | exact ⟨by assumption, by assumption⟩ | (unfold Txs.okWho; simp_all; done))).symm) | (exact congrArg (Value.int .i64) (Txs.check_arg (by first | (unfold Txs.okWho Txs.within; omega) | exact ⟨by assumption, by assumption⟩ | (unfold Txs.okWho; simp_all; done)) (by intro hh; obtain ⟨⟨a1, a2⟩, a3, a4⟩ := hh; first | exact absurd a1 (by assumption) | exact absurd a2 (by assumption) | exact absurd (a3 (by assumption)).1 (by assumption) | exact absurd (a3 (by assumption)).2 (by assumption) | (obtain ⟨b1, b2, b3⟩ := a4 (by assumption); simp_all))).symm) | (exact congrArg (Value.int .i64) (Txs.check_big (by first | (unfold Txs.okWho Txs.within; omega) | exact ⟨by assumption, by assumption⟩ | (unfold Txs.okWho; simp_all; done)) (by refine ⟨⟨by assumption, by assumption⟩, fun hl => ?_, fun hl => ?_⟩ <;> simp_all) (by omega)).symm) | (exact congrArg (Value.int .i64) (Txs.check_ok (by first | (unfold Txs.okWho Txs.within; omega) | exact ⟨by assumption, by assumption⟩ | (unfold Txs.okWho; simp_all; done)) (by refine ⟨⟨by assumption, by assumption⟩, fun hl => ?_, fun hl => ?_⟩ <;> simp_all) (by omega)).symm)
                            · skip
                              try simp only [decide_eq_true_eq, decide_eq_false_iff_not, Bool.not_eq_true', Bool.not_eq_false', Bool.and_eq_true, Bool.not_eq_true, Bool.not_eq_false] at hc109
                              refine wp_skip ?_
                              refine inb_n ?_
                              refine then_n ?_
                              refine wp_seq ?_
                              refine reg ?_
                              refine plain (y_assign rfl rfl) rfl rfl rfl H108 ?_
                              clear H108; intro a111 H111
                              refine fin ?_
                              refine then_n ?_
                              refine wp_ret ?_
                              -- return 8
                              refine ret1 rfl H111 rfl ?_
                              refine ⟨_, [], rfl, ⟨?_, rfl⟩, H111.sep.sub (List.nil_sublist _)⟩
                              clear H111
                              try simp only [Decidable.not_not, show List.replicate 32 (0 : UInt8) = Note.Z from rfl] at *
                              first | (exact congrArg (Value.int .i64) (Txs.check_who (by first | (unfold Txs.okWho Txs.within; omega) | exact ⟨by assumption, by assumption⟩ | (unfold Txs.okWho; simp_all; done))).symm) | (exact congrArg (Value.int .i64) (Txs.check_arg (by first | (unfold Txs.okWho Txs.within; omega) | exact ⟨by assumption, by assumption⟩ | (unfold Txs.okWho; simp_all; done)) (by intro hh; obtain ⟨⟨a1, a2⟩, a3, a4⟩ := hh; first | exact absurd a1 (by assumption) | exact absurd a2 (by assumption) | exact absurd (a3 (by assumption)).1 (by assumption) | exact absurd (a3 (by assumption)).2 (by assumption) | (obtain ⟨b1, b2, b3⟩ := a4 (by assumption); simp_all))).symm) | (exact congrArg (Value.int .i64) (Txs.check_big (by first | (unfold Txs.okWho Txs.within; omega) | exact ⟨by assumption, by assumption⟩ | (unfold Txs.okWho; simp_all; done)) (by refine ⟨⟨by assumption, by assumption⟩, fun hl => ?_, fun hl => ?_⟩ <;> simp_all) (by omega)).symm) | (exact congrArg (Value.int .i64) (Txs.check_ok (by first | (unfold Txs.okWho Txs.within; omega) | exact ⟨by assumption, by assumption⟩ | (unfold Txs.okWho; simp_all; done)) (by refine ⟨⟨by assumption, by assumption⟩, fun hl => ?_, fun hl => ?_⟩ <;> simp_all) (by omega)).symm)
                    · first
                      | (exfalso; simp_all; done)
                      | skip
                        try simp only [decide_eq_true_eq, decide_eq_false_iff_not, Bool.not_eq_true', Bool.not_eq_false', Bool.and_eq_true, Bool.not_eq_true, Bool.not_eq_false] at hc101
                        refine wp_seq ?_
                        refine reg ?_
                        refine plain (y_fieldB rfl z_field50_5 rfl (by first | (simp only [Nat.zero_add, Nat.add_zero, Nat.reduceAdd]; rfl) | rfl)) rfl rfl rfl H100 ?_
                        clear H100; intro a112 H112
                        refine plain (y_loadB rfl z_agg4 rfl (by repeat (first | exact Mh | apply Mt)) q_ix_c8b32b32_5) rfl rfl rfl H112 ?_
                        clear H112; intro a113 H113
                        refine plain (y_move rfl rfl) rfl rfl rfl H113 ?_
                        clear H113; intro a114 H114
                        refine Sx.part (d := 43) H114 rfl (fun hg115 => ?_) (fun hg115 => ?_)
                        · first
                          | fail
                          | skip
                            clear H114; intro H116
                            try simp only [decide_eq_true_eq, decide_eq_false_iff_not, Bool.not_eq_true', Bool.not_eq_false', Bool.and_eq_true, Bool.not_eq_true, Bool.not_eq_false] at hg115
                            refine plain (y_fieldB rfl z_field50_6 rfl (by first | (simp only [Nat.zero_add, Nat.add_zero, Nat.reduceAdd]; rfl) | rfl)) rfl rfl rfl H116 ?_
                            clear H116; intro a117 H117
                            refine plain (y_loadB rfl z_agg3 rfl (by repeat (first | exact Mh | apply Mt)) q_ix_c8b32b32_6) rfl rfl rfl H117 ?_
                            clear H117; intro a118 H118
                            refine st_callg rfl z_call80 rfl rfl rfl rfl H118 (tnumber _ _) ?_
                            clear H118; intro a119 wx119 H119
                            refine plain ((by first | exact y_not_d rfl rfl | exact y_not rfl rfl)) rfl rfl rfl H119 ?_
                            clear H119; intro a120 H120
                            refine plain (y_move rfl rfl) rfl rfl rfl H120 ?_
                            clear H120; intro a121 H121
                            refine Sx.part (d := 48) H121 rfl (fun hg122 => ?_) (fun hg122 => ?_)
                            · first
                              | fail
                              | skip
                                clear H121; intro H123
                                try simp only [decide_eq_true_eq, decide_eq_false_iff_not, Bool.not_eq_true', Bool.not_eq_false', Bool.and_eq_true, Bool.not_eq_true, Bool.not_eq_false] at hg122
                                refine skip rfl rfl rfl H123 ?_
                                clear H123; intro a124 H124
                                refine skip rfl rfl rfl H124 ?_
                                clear H124; intro a125 H125
                                refine skip rfl rfl rfl H125 ?_
                                clear H125; intro a126 H126
                                refine skip rfl rfl rfl H126 ?_
                                clear H126; intro a127 H127
                                refine plain (y_pick_t rfl rfl rfl) rfl rfl rfl H127 ?_
                                clear H127; intro a128 H128
                                refine plain (y_pick_t rfl rfl rfl) rfl rfl rfl H128 ?_
                                clear H128; intro a129 H129
                                refine plain (y_assign rfl rfl) rfl rfl rfl H129 ?_
                                clear H129; intro a130 H130
                                refine fin ?_
                                refine then_n ?_
                                refine cnd_t H130 rfl ?_
                                refine wp_skip ?_
                                refine then_n ?_
                                refine cnd_t H130 rfl ?_
                                refine wp_seq ?_
                                refine reg ?_
                                refine plain (y_assign rfl rfl) rfl rfl rfl H130 ?_
                                clear H130; intro a133 H133
                                refine fin ?_
                                refine then_n ?_
                                refine wp_ret ?_
                                refine inb_r ?_
                                refine then_r ?_
                                -- return 9
                                refine ret1 rfl H133 rfl ?_
                                refine ⟨_, [], rfl, ⟨?_, rfl⟩, H133.sep.sub (List.nil_sublist _)⟩
                                clear H133
                                try simp only [Decidable.not_not, show List.replicate 32 (0 : UInt8) = Note.Z from rfl] at *
                                first | (exact congrArg (Value.int .i64) (Txs.check_who (by first | (unfold Txs.okWho Txs.within; omega) | exact ⟨by assumption, by assumption⟩ | (unfold Txs.okWho; simp_all; done))).symm) | (exact congrArg (Value.int .i64) (Txs.check_arg (by first | (unfold Txs.okWho Txs.within; omega) | exact ⟨by assumption, by assumption⟩ | (unfold Txs.okWho; simp_all; done)) (by intro hh; obtain ⟨⟨a1, a2⟩, a3, a4⟩ := hh; first | exact absurd a1 (by assumption) | exact absurd a2 (by assumption) | exact absurd (a3 (by assumption)).1 (by assumption) | exact absurd (a3 (by assumption)).2 (by assumption) | (obtain ⟨b1, b2, b3⟩ := a4 (by assumption); simp_all))).symm) | (exact congrArg (Value.int .i64) (Txs.check_big (by first | (unfold Txs.okWho Txs.within; omega) | exact ⟨by assumption, by assumption⟩ | (unfold Txs.okWho; simp_all; done)) (by refine ⟨⟨by assumption, by assumption⟩, fun hl => ?_, fun hl => ?_⟩ <;> simp_all) (by omega)).symm) | (exact congrArg (Value.int .i64) (Txs.check_ok (by first | (unfold Txs.okWho Txs.within; omega) | exact ⟨by assumption, by assumption⟩ | (unfold Txs.okWho; simp_all; done)) (by refine ⟨⟨by assumption, by assumption⟩, fun hl => ?_, fun hl => ?_⟩ <;> simp_all) (by omega)).symm)
                            · first
                              | fail
                              | skip
                                clear H121; intro H134
                                try simp only [decide_eq_true_eq, decide_eq_false_iff_not, Bool.not_eq_true', Bool.not_eq_false', Bool.and_eq_true, Bool.not_eq_true, Bool.not_eq_false] at hg122
                                refine plain (y_fieldB rfl z_field50_7 rfl (by first | (simp only [Nat.zero_add, Nat.add_zero, Nat.reduceAdd]; rfl) | rfl)) rfl rfl rfl H134 ?_
                                clear H134; intro a135 H135
                                refine plain (y_loadB rfl z_agg3 rfl (by repeat (first | exact Mh | apply Mt)) q_ix_c8b32b32_7) rfl rfl rfl H135 ?_
                                clear H135; intro a136 H136
                                refine st_callg rfl z_call80 rfl rfl rfl rfl H136 (tnumber _ _) ?_
                                clear H136; intro a137 wx137 H137
                                refine plain ((by first | exact y_not_d rfl rfl | exact y_not rfl rfl)) rfl rfl rfl H137 ?_
                                clear H137; intro a138 H138
                                refine plain (y_pick_f rfl rfl rfl) rfl rfl rfl H138 ?_
                                clear H138; intro a139 H139
                                refine plain (y_pick_t rfl rfl rfl) rfl rfl rfl H139 ?_
                                clear H139; intro a140 H140
                                refine plain (y_assign rfl rfl) rfl rfl rfl H140 ?_
                                clear H140; intro a141 H141
                                refine fin ?_
                                refine then_n ?_
                                refine cnd H141 rfl (fun hc142 => ?_) (fun hc142 => ?_) -- cond 12
                                · first
                                  | (exfalso; simp_all; done)
                                  | skip
                                    try simp only [decide_eq_true_eq, decide_eq_false_iff_not, Bool.not_eq_true', Bool.not_eq_false', Bool.and_eq_true, Bool.not_eq_true, Bool.not_eq_false] at hc142
                                    refine wp_skip ?_
                                    refine then_n ?_
                                    refine cnd H141 rfl (fun hc143 => ?_) (fun hc143 => ?_) -- cond 13
                                    · first
                                      | (exfalso; simp_all; done)
                                      | skip
                                        try simp only [decide_eq_true_eq, decide_eq_false_iff_not, Bool.not_eq_true', Bool.not_eq_false', Bool.and_eq_true, Bool.not_eq_true, Bool.not_eq_false] at hc143
                                        refine wp_seq ?_
                                        refine reg ?_
                                        refine plain (y_assign rfl rfl) rfl rfl rfl H141 ?_
                                        clear H141; intro a144 H144
                                        refine fin ?_
                                        refine then_n ?_
                                        refine wp_ret ?_
                                        refine inb_r ?_
                                        refine then_r ?_
                                        -- return 10
                                        refine ret1 rfl H144 rfl ?_
                                        refine ⟨_, [], rfl, ⟨?_, rfl⟩, H144.sep.sub (List.nil_sublist _)⟩
                                        clear H144
                                        try simp only [Decidable.not_not, show List.replicate 32 (0 : UInt8) = Note.Z from rfl] at *
                                        first | (exact congrArg (Value.int .i64) (Txs.check_who (by first | (unfold Txs.okWho Txs.within; omega) | exact ⟨by assumption, by assumption⟩ | (unfold Txs.okWho; simp_all; done))).symm) | (exact congrArg (Value.int .i64) (Txs.check_arg (by first | (unfold Txs.okWho Txs.within; omega) | exact ⟨by assumption, by assumption⟩ | (unfold Txs.okWho; simp_all; done)) (by intro hh; obtain ⟨⟨a1, a2⟩, a3, a4⟩ := hh; first | exact absurd a1 (by assumption) | exact absurd a2 (by assumption) | exact absurd (a3 (by assumption)).1 (by assumption) | exact absurd (a3 (by assumption)).2 (by assumption) | (obtain ⟨b1, b2, b3⟩ := a4 (by assumption); simp_all))).symm) | (exact congrArg (Value.int .i64) (Txs.check_big (by first | (unfold Txs.okWho Txs.within; omega) | exact ⟨by assumption, by assumption⟩ | (unfold Txs.okWho; simp_all; done)) (by refine ⟨⟨by assumption, by assumption⟩, fun hl => ?_, fun hl => ?_⟩ <;> simp_all) (by omega)).symm) | (exact congrArg (Value.int .i64) (Txs.check_ok (by first | (unfold Txs.okWho Txs.within; omega) | exact ⟨by assumption, by assumption⟩ | (unfold Txs.okWho; simp_all; done)) (by refine ⟨⟨by assumption, by assumption⟩, fun hl => ?_, fun hl => ?_⟩ <;> simp_all) (by omega)).symm)
                                    · first
                                      | (exfalso; simp_all; done)
                                      | skip
                                        try simp only [decide_eq_true_eq, decide_eq_false_iff_not, Bool.not_eq_true', Bool.not_eq_false', Bool.and_eq_true, Bool.not_eq_true, Bool.not_eq_false] at hc143
                                        refine wp_seq ?_
                                        refine reg ?_
                                        refine plain (y_fieldB rfl z_field50_4 rfl (by first | (simp only [Nat.zero_add, Nat.add_zero, Nat.reduceAdd]; rfl) | rfl)) rfl rfl rfl H141 ?_
                                        clear H141; intro a145 H145
                                        refine plain (y_loadB rfl z_agg9 rfl (by repeat (first | exact Mh | apply Mt)) q_ix_c8b32b32_4) rfl rfl rfl H145 ?_
                                        clear H145; intro a146 H146
                                        refine plain (y_slen rfl Tryd.underlying9 rfl) rfl rfl rfl H146 ?_
                                        clear H146; intro a147 H147
                                        refine plain (y_gtr rfl rfl rfl) rfl rfl rfl H147 ?_
                                        clear H147; intro a148 H148
                                        refine plain (y_assign rfl rfl) rfl rfl rfl H148 ?_
                                        clear H148; intro a149 H149
                                        refine fin ?_
                                        refine then_n ?_
                                        refine cnd H149 rfl (fun hc150 => ?_) (fun hc150 => ?_) -- cond 14
                                        · skip
                                          try simp only [decide_eq_true_eq, decide_eq_false_iff_not, Bool.not_eq_true', Bool.not_eq_false', Bool.and_eq_true, Bool.not_eq_true, Bool.not_eq_false] at hc150
                                          refine wp_seq ?_
                                          refine reg ?_
                                          refine plain (y_assign rfl rfl) rfl rfl rfl H149 ?_
                                          clear H149; intro a151 H151
                                          refine fin ?_
                                          refine then_n ?_
                                          refine wp_ret ?_
                                          refine inb_r ?_
                                          refine then_r ?_
                                          -- return 11
                                          refine ret1 rfl H151 rfl ?_
                                          refine ⟨_, [], rfl, ⟨?_, rfl⟩, H151.sep.sub (List.nil_sublist _)⟩
                                          clear H151
                                          try simp only [Decidable.not_not, show List.replicate 32 (0 : UInt8) = Note.Z from rfl] at *
                                          first | (exact congrArg (Value.int .i64) (Txs.check_who (by first | (unfold Txs.okWho Txs.within; omega) | exact ⟨by assumption, by assumption⟩ | (unfold Txs.okWho; simp_all; done))).symm) | (exact congrArg (Value.int .i64) (Txs.check_arg (by first | (unfold Txs.okWho Txs.within; omega) | exact ⟨by assumption, by assumption⟩ | (unfold Txs.okWho; simp_all; done)) (by intro hh; obtain ⟨⟨a1, a2⟩, a3, a4⟩ := hh; first | exact absurd a1 (by assumption) | exact absurd a2 (by assumption) | exact absurd (a3 (by assumption)).1 (by assumption) | exact absurd (a3 (by assumption)).2 (by assumption) | (obtain ⟨b1, b2, b3⟩ := a4 (by assumption); simp_all))).symm) | (exact congrArg (Value.int .i64) (Txs.check_big (by first | (unfold Txs.okWho Txs.within; omega) | exact ⟨by assumption, by assumption⟩ | (unfold Txs.okWho; simp_all; done)) (by refine ⟨⟨by assumption, by assumption⟩, fun hl => ?_, fun hl => ?_⟩ <;> simp_all) (by omega)).symm) | (exact congrArg (Value.int .i64) (Txs.check_ok (by first | (unfold Txs.okWho Txs.within; omega) | exact ⟨by assumption, by assumption⟩ | (unfold Txs.okWho; simp_all; done)) (by refine ⟨⟨by assumption, by assumption⟩, fun hl => ?_, fun hl => ?_⟩ <;> simp_all) (by omega)).symm)
                                        · skip
                                          try simp only [decide_eq_true_eq, decide_eq_false_iff_not, Bool.not_eq_true', Bool.not_eq_false', Bool.and_eq_true, Bool.not_eq_true, Bool.not_eq_false] at hc150
                                          refine wp_skip ?_
                                          refine inb_n ?_
                                          refine then_n ?_
                                          refine wp_seq ?_
                                          refine reg ?_
                                          refine plain (y_assign rfl rfl) rfl rfl rfl H149 ?_
                                          clear H149; intro a152 H152
                                          refine fin ?_
                                          refine then_n ?_
                                          refine wp_ret ?_
                                          -- return 12
                                          refine ret1 rfl H152 rfl ?_
                                          refine ⟨_, [], rfl, ⟨?_, rfl⟩, H152.sep.sub (List.nil_sublist _)⟩
                                          clear H152
                                          try simp only [Decidable.not_not, show List.replicate 32 (0 : UInt8) = Note.Z from rfl] at *
                                          first | (exact congrArg (Value.int .i64) (Txs.check_who (by first | (unfold Txs.okWho Txs.within; omega) | exact ⟨by assumption, by assumption⟩ | (unfold Txs.okWho; simp_all; done))).symm) | (exact congrArg (Value.int .i64) (Txs.check_arg (by first | (unfold Txs.okWho Txs.within; omega) | exact ⟨by assumption, by assumption⟩ | (unfold Txs.okWho; simp_all; done)) (by intro hh; obtain ⟨⟨a1, a2⟩, a3, a4⟩ := hh; first | exact absurd a1 (by assumption) | exact absurd a2 (by assumption) | exact absurd (a3 (by assumption)).1 (by assumption) | exact absurd (a3 (by assumption)).2 (by assumption) | (obtain ⟨b1, b2, b3⟩ := a4 (by assumption); simp_all))).symm) | (exact congrArg (Value.int .i64) (Txs.check_big (by first | (unfold Txs.okWho Txs.within; omega) | exact ⟨by assumption, by assumption⟩ | (unfold Txs.okWho; simp_all; done)) (by refine ⟨⟨by assumption, by assumption⟩, fun hl => ?_, fun hl => ?_⟩ <;> simp_all) (by omega)).symm) | (exact congrArg (Value.int .i64) (Txs.check_ok (by first | (unfold Txs.okWho Txs.within; omega) | exact ⟨by assumption, by assumption⟩ | (unfold Txs.okWho; simp_all; done)) (by refine ⟨⟨by assumption, by assumption⟩, fun hl => ?_, fun hl => ?_⟩ <;> simp_all) (by omega)).symm)
                                · first
                                  | (exfalso; simp_all; done)
                                  | skip
                                    try simp only [decide_eq_true_eq, decide_eq_false_iff_not, Bool.not_eq_true', Bool.not_eq_false', Bool.and_eq_true, Bool.not_eq_true, Bool.not_eq_false] at hc142
                                    refine reg ?_
                                    refine plain (y_fieldB rfl z_field50_5 rfl (by first | (simp only [Nat.zero_add, Nat.add_zero, Nat.reduceAdd]; rfl) | rfl)) rfl rfl rfl H141 ?_
                                    clear H141; intro a153 H153
                                    refine plain (y_loadB rfl z_agg4 rfl (by repeat (first | exact Mh | apply Mt)) q_ix_c8b32b32_5) rfl rfl rfl H153 ?_
                                    clear H153; intro a154 H154
                                    refine plain ((by first | exact y_not_d rfl rfl | exact y_not rfl rfl)) rfl rfl rfl H154 ?_
                                    clear H154; intro a155 H155
                                    refine plain (y_move rfl rfl) rfl rfl rfl H155 ?_
                                    clear H155; intro a156 H156
                                    refine Sx.part (d := 58) H156 rfl (fun hg157 => ?_) (fun hg157 => ?_)
                                    · first
                                      | fail
                                      | skip
                                        clear H156; intro H158
                                        try simp only [decide_eq_true_eq, decide_eq_false_iff_not, Bool.not_eq_true', Bool.not_eq_false', Bool.and_eq_true, Bool.not_eq_true, Bool.not_eq_false] at hg157
                                        refine plain (y_loadAB rfl z_agg126 z_size126 rfl (by repeat (first | exact Mh | apply Mt)) (q_ld_c2b32_0_34 (by assumption)) (q_len_c2b32 (by assumption))) rfl rfl rfl H158 ?_
                                        clear H158; intro a159 H159
                                        refine plain (y_build rfl z_zeroN126 z_places126 rfl lay_n) rfl rfl rfl H159 ?_
                                        clear H159; intro a160 H160
                                        refine plain (y_tneq rfl (by kernel_rfl) rfl rfl (eqr_Ln ⟨t.round, t.turn, t.hand⟩ ⟨0, 0, Note.Z⟩ wf.hand rfl)) rfl rfl rfl H160 ?_
                                        clear H160; intro a161 H161
                                        refine plain (y_pick_t rfl rfl rfl) rfl rfl rfl H161 ?_
                                        clear H161; intro a162 H162
                                        refine plain (y_assign rfl rfl) rfl rfl rfl H162 ?_
                                        clear H162; intro a163 H163
                                        refine fin ?_
                                        refine then_n ?_
                                        refine cnd H163 rfl (fun hc164 => ?_) (fun hc164 => ?_) -- cond 15
                                        · first
                                          | (exfalso; simp_all; done)
                                          | skip
                                            try simp only [decide_eq_true_eq, decide_eq_false_iff_not, Bool.not_eq_true', Bool.not_eq_false', Bool.and_eq_true, Bool.not_eq_true, Bool.not_eq_false] at hc164
                                            refine wp_seq ?_
                                            refine reg ?_
                                            refine plain (y_assign rfl rfl) rfl rfl rfl H163 ?_
                                            clear H163; intro a165 H165
                                            refine fin ?_
                                            refine then_n ?_
                                            refine wp_ret ?_
                                            refine inb_r ?_
                                            refine then_r ?_
                                            -- return 13
                                            refine ret1 rfl H165 rfl ?_
                                            refine ⟨_, [], rfl, ⟨?_, rfl⟩, H165.sep.sub (List.nil_sublist _)⟩
                                            clear H165
                                            try simp only [Decidable.not_not, show List.replicate 32 (0 : UInt8) = Note.Z from rfl] at *
                                            first | (exact congrArg (Value.int .i64) (Txs.check_who (by first | (unfold Txs.okWho Txs.within; omega) | exact ⟨by assumption, by assumption⟩ | (unfold Txs.okWho; simp_all; done))).symm) | (exact congrArg (Value.int .i64) (Txs.check_arg (by first | (unfold Txs.okWho Txs.within; omega) | exact ⟨by assumption, by assumption⟩ | (unfold Txs.okWho; simp_all; done)) (by intro hh; obtain ⟨⟨a1, a2⟩, a3, a4⟩ := hh; first | exact absurd a1 (by assumption) | exact absurd a2 (by assumption) | exact absurd (a3 (by assumption)).1 (by assumption) | exact absurd (a3 (by assumption)).2 (by assumption) | (obtain ⟨b1, b2, b3⟩ := a4 (by assumption); simp_all))).symm) | (exact congrArg (Value.int .i64) (Txs.check_big (by first | (unfold Txs.okWho Txs.within; omega) | exact ⟨by assumption, by assumption⟩ | (unfold Txs.okWho; simp_all; done)) (by refine ⟨⟨by assumption, by assumption⟩, fun hl => ?_, fun hl => ?_⟩ <;> simp_all) (by omega)).symm) | (exact congrArg (Value.int .i64) (Txs.check_ok (by first | (unfold Txs.okWho Txs.within; omega) | exact ⟨by assumption, by assumption⟩ | (unfold Txs.okWho; simp_all; done)) (by refine ⟨⟨by assumption, by assumption⟩, fun hl => ?_, fun hl => ?_⟩ <;> simp_all) (by omega)).symm)
                                        · first
                                          | (exfalso; simp_all; done)
                                          | skip
                                            try simp only [decide_eq_true_eq, decide_eq_false_iff_not, Bool.not_eq_true', Bool.not_eq_false', Bool.and_eq_true, Bool.not_eq_true, Bool.not_eq_false] at hc164
                                            refine wp_seq ?_
                                            refine reg ?_
                                            refine plain (y_fieldB rfl z_field50_4 rfl (by first | (simp only [Nat.zero_add, Nat.add_zero, Nat.reduceAdd]; rfl) | rfl)) rfl rfl rfl H163 ?_
                                            clear H163; intro a166 H166
                                            refine plain (y_loadB rfl z_agg9 rfl (by repeat (first | exact Mh | apply Mt)) q_ix_c8b32b32_4) rfl rfl rfl H166 ?_
                                            clear H166; intro a167 H167
                                            refine plain (y_slen rfl Tryd.underlying9 rfl) rfl rfl rfl H167 ?_
                                            clear H167; intro a168 H168
                                            refine plain (y_gtr rfl rfl rfl) rfl rfl rfl H168 ?_
                                            clear H168; intro a169 H169
                                            refine plain (y_assign rfl rfl) rfl rfl rfl H169 ?_
                                            clear H169; intro a170 H170
                                            refine fin ?_
                                            refine then_n ?_
                                            refine cnd H170 rfl (fun hc171 => ?_) (fun hc171 => ?_) -- cond 16
                                            · skip
                                              try simp only [decide_eq_true_eq, decide_eq_false_iff_not, Bool.not_eq_true', Bool.not_eq_false', Bool.and_eq_true, Bool.not_eq_true, Bool.not_eq_false] at hc171
                                              refine wp_seq ?_
                                              refine reg ?_
                                              refine plain (y_assign rfl rfl) rfl rfl rfl H170 ?_
                                              clear H170; intro a172 H172
                                              refine fin ?_
                                              refine then_n ?_
                                              refine wp_ret ?_
                                              refine inb_r ?_
                                              refine then_r ?_
                                              -- return 14
                                              refine ret1 rfl H172 rfl ?_
                                              refine ⟨_, [], rfl, ⟨?_, rfl⟩, H172.sep.sub (List.nil_sublist _)⟩
                                              clear H172
                                              try simp only [Decidable.not_not, show List.replicate 32 (0 : UInt8) = Note.Z from rfl] at *
                                              first | (exact congrArg (Value.int .i64) (Txs.check_who (by first | (unfold Txs.okWho Txs.within; omega) | exact ⟨by assumption, by assumption⟩ | (unfold Txs.okWho; simp_all; done))).symm) | (exact congrArg (Value.int .i64) (Txs.check_arg (by first | (unfold Txs.okWho Txs.within; omega) | exact ⟨by assumption, by assumption⟩ | (unfold Txs.okWho; simp_all; done)) (by intro hh; obtain ⟨⟨a1, a2⟩, a3, a4⟩ := hh; first | exact absurd a1 (by assumption) | exact absurd a2 (by assumption) | exact absurd (a3 (by assumption)).1 (by assumption) | exact absurd (a3 (by assumption)).2 (by assumption) | (obtain ⟨b1, b2, b3⟩ := a4 (by assumption); simp_all))).symm) | (exact congrArg (Value.int .i64) (Txs.check_big (by first | (unfold Txs.okWho Txs.within; omega) | exact ⟨by assumption, by assumption⟩ | (unfold Txs.okWho; simp_all; done)) (by refine ⟨⟨by assumption, by assumption⟩, fun hl => ?_, fun hl => ?_⟩ <;> simp_all) (by omega)).symm) | (exact congrArg (Value.int .i64) (Txs.check_ok (by first | (unfold Txs.okWho Txs.within; omega) | exact ⟨by assumption, by assumption⟩ | (unfold Txs.okWho; simp_all; done)) (by refine ⟨⟨by assumption, by assumption⟩, fun hl => ?_, fun hl => ?_⟩ <;> simp_all) (by omega)).symm)
                                            · skip
                                              try simp only [decide_eq_true_eq, decide_eq_false_iff_not, Bool.not_eq_true', Bool.not_eq_false', Bool.and_eq_true, Bool.not_eq_true, Bool.not_eq_false] at hc171
                                              refine wp_skip ?_
                                              refine inb_n ?_
                                              refine then_n ?_
                                              refine wp_seq ?_
                                              refine reg ?_
                                              refine plain (y_assign rfl rfl) rfl rfl rfl H170 ?_
                                              clear H170; intro a173 H173
                                              refine fin ?_
                                              refine then_n ?_
                                              refine wp_ret ?_
                                              -- return 15
                                              refine ret1 rfl H173 rfl ?_
                                              refine ⟨_, [], rfl, ⟨?_, rfl⟩, H173.sep.sub (List.nil_sublist _)⟩
                                              clear H173
                                              try simp only [Decidable.not_not, show List.replicate 32 (0 : UInt8) = Note.Z from rfl] at *
                                              first | (exact congrArg (Value.int .i64) (Txs.check_who (by first | (unfold Txs.okWho Txs.within; omega) | exact ⟨by assumption, by assumption⟩ | (unfold Txs.okWho; simp_all; done))).symm) | (exact congrArg (Value.int .i64) (Txs.check_arg (by first | (unfold Txs.okWho Txs.within; omega) | exact ⟨by assumption, by assumption⟩ | (unfold Txs.okWho; simp_all; done)) (by intro hh; obtain ⟨⟨a1, a2⟩, a3, a4⟩ := hh; first | exact absurd a1 (by assumption) | exact absurd a2 (by assumption) | exact absurd (a3 (by assumption)).1 (by assumption) | exact absurd (a3 (by assumption)).2 (by assumption) | (obtain ⟨b1, b2, b3⟩ := a4 (by assumption); simp_all))).symm) | (exact congrArg (Value.int .i64) (Txs.check_big (by first | (unfold Txs.okWho Txs.within; omega) | exact ⟨by assumption, by assumption⟩ | (unfold Txs.okWho; simp_all; done)) (by refine ⟨⟨by assumption, by assumption⟩, fun hl => ?_, fun hl => ?_⟩ <;> simp_all) (by omega)).symm) | (exact congrArg (Value.int .i64) (Txs.check_ok (by first | (unfold Txs.okWho Txs.within; omega) | exact ⟨by assumption, by assumption⟩ | (unfold Txs.okWho; simp_all; done)) (by refine ⟨⟨by assumption, by assumption⟩, fun hl => ?_, fun hl => ?_⟩ <;> simp_all) (by omega)).symm)
                                    · first
                                      | fail
                                      | skip
                                        clear H156; intro H174
                                        try simp only [decide_eq_true_eq, decide_eq_false_iff_not, Bool.not_eq_true', Bool.not_eq_false', Bool.and_eq_true, Bool.not_eq_true, Bool.not_eq_false] at hg157
                                        refine skip rfl rfl rfl H174 ?_
                                        clear H174; intro a175 H175
                                        refine skip rfl rfl rfl H175 ?_
                                        clear H175; intro a176 H176
                                        refine skip rfl rfl rfl H176 ?_
                                        clear H176; intro a177 H177
                                        refine plain (y_pick_f rfl rfl rfl) rfl rfl rfl H177 ?_
                                        clear H177; intro a178 H178
                                        refine plain (y_assign rfl rfl) rfl rfl rfl H178 ?_
                                        clear H178; intro a179 H179
                                        refine fin ?_
                                        refine then_n ?_
                                        refine cnd_f H179 rfl ?_
                                        refine wp_seq ?_
                                        refine reg ?_
                                        refine plain (y_fieldB rfl z_field50_4 rfl (by first | (simp only [Nat.zero_add, Nat.add_zero, Nat.reduceAdd]; rfl) | rfl)) rfl rfl rfl H179 ?_
                                        clear H179; intro a181 H181
                                        refine plain (y_loadB rfl z_agg9 rfl (by repeat (first | exact Mh | apply Mt)) q_ix_c8b32b32_4) rfl rfl rfl H181 ?_
                                        clear H181; intro a182 H182
                                        refine plain (y_slen rfl Tryd.underlying9 rfl) rfl rfl rfl H182 ?_
                                        clear H182; intro a183 H183
                                        refine plain (y_gtr rfl rfl rfl) rfl rfl rfl H183 ?_
                                        clear H183; intro a184 H184
                                        refine plain (y_assign rfl rfl) rfl rfl rfl H184 ?_
                                        clear H184; intro a185 H185
                                        refine fin ?_
                                        refine then_n ?_
                                        refine cnd H185 rfl (fun hc186 => ?_) (fun hc186 => ?_) -- cond 18
                                        · skip
                                          try simp only [decide_eq_true_eq, decide_eq_false_iff_not, Bool.not_eq_true', Bool.not_eq_false', Bool.and_eq_true, Bool.not_eq_true, Bool.not_eq_false] at hc186
                                          refine wp_seq ?_
                                          refine reg ?_
                                          refine plain (y_assign rfl rfl) rfl rfl rfl H185 ?_
                                          clear H185; intro a187 H187
                                          refine fin ?_
                                          refine then_n ?_
                                          refine wp_ret ?_
                                          refine inb_r ?_
                                          refine then_r ?_
                                          -- return 16
                                          refine ret1 rfl H187 rfl ?_
                                          refine ⟨_, [], rfl, ⟨?_, rfl⟩, H187.sep.sub (List.nil_sublist _)⟩
                                          clear H187
                                          try simp only [Decidable.not_not, show List.replicate 32 (0 : UInt8) = Note.Z from rfl] at *
                                          first | (exact congrArg (Value.int .i64) (Txs.check_who (by first | (unfold Txs.okWho Txs.within; omega) | exact ⟨by assumption, by assumption⟩ | (unfold Txs.okWho; simp_all; done))).symm) | (exact congrArg (Value.int .i64) (Txs.check_arg (by first | (unfold Txs.okWho Txs.within; omega) | exact ⟨by assumption, by assumption⟩ | (unfold Txs.okWho; simp_all; done)) (by intro hh; obtain ⟨⟨a1, a2⟩, a3, a4⟩ := hh; first | exact absurd a1 (by assumption) | exact absurd a2 (by assumption) | exact absurd (a3 (by assumption)).1 (by assumption) | exact absurd (a3 (by assumption)).2 (by assumption) | (obtain ⟨b1, b2, b3⟩ := a4 (by assumption); simp_all))).symm) | (exact congrArg (Value.int .i64) (Txs.check_big (by first | (unfold Txs.okWho Txs.within; omega) | exact ⟨by assumption, by assumption⟩ | (unfold Txs.okWho; simp_all; done)) (by refine ⟨⟨by assumption, by assumption⟩, fun hl => ?_, fun hl => ?_⟩ <;> simp_all) (by omega)).symm) | (exact congrArg (Value.int .i64) (Txs.check_ok (by first | (unfold Txs.okWho Txs.within; omega) | exact ⟨by assumption, by assumption⟩ | (unfold Txs.okWho; simp_all; done)) (by refine ⟨⟨by assumption, by assumption⟩, fun hl => ?_, fun hl => ?_⟩ <;> simp_all) (by omega)).symm)
                                        · skip
                                          try simp only [decide_eq_true_eq, decide_eq_false_iff_not, Bool.not_eq_true', Bool.not_eq_false', Bool.and_eq_true, Bool.not_eq_true, Bool.not_eq_false] at hc186
                                          refine wp_skip ?_
                                          refine inb_n ?_
                                          refine then_n ?_
                                          refine wp_seq ?_
                                          refine reg ?_
                                          refine plain (y_assign rfl rfl) rfl rfl rfl H185 ?_
                                          clear H185; intro a188 H188
                                          refine fin ?_
                                          refine then_n ?_
                                          refine wp_ret ?_
                                          -- return 17
                                          refine ret1 rfl H188 rfl ?_
                                          refine ⟨_, [], rfl, ⟨?_, rfl⟩, H188.sep.sub (List.nil_sublist _)⟩
                                          clear H188
                                          try simp only [Decidable.not_not, show List.replicate 32 (0 : UInt8) = Note.Z from rfl] at *
                                          first | (exact congrArg (Value.int .i64) (Txs.check_who (by first | (unfold Txs.okWho Txs.within; omega) | exact ⟨by assumption, by assumption⟩ | (unfold Txs.okWho; simp_all; done))).symm) | (exact congrArg (Value.int .i64) (Txs.check_arg (by first | (unfold Txs.okWho Txs.within; omega) | exact ⟨by assumption, by assumption⟩ | (unfold Txs.okWho; simp_all; done)) (by intro hh; obtain ⟨⟨a1, a2⟩, a3, a4⟩ := hh; first | exact absurd a1 (by assumption) | exact absurd a2 (by assumption) | exact absurd (a3 (by assumption)).1 (by assumption) | exact absurd (a3 (by assumption)).2 (by assumption) | (obtain ⟨b1, b2, b3⟩ := a4 (by assumption); simp_all))).symm) | (exact congrArg (Value.int .i64) (Txs.check_big (by first | (unfold Txs.okWho Txs.within; omega) | exact ⟨by assumption, by assumption⟩ | (unfold Txs.okWho; simp_all; done)) (by refine ⟨⟨by assumption, by assumption⟩, fun hl => ?_, fun hl => ?_⟩ <;> simp_all) (by omega)).symm) | (exact congrArg (Value.int .i64) (Txs.check_ok (by first | (unfold Txs.okWho Txs.within; omega) | exact ⟨by assumption, by assumption⟩ | (unfold Txs.okWho; simp_all; done)) (by refine ⟨⟨by assumption, by assumption⟩, fun hl => ?_, fun hl => ?_⟩ <;> simp_all) (by omega)).symm)
                        · first
                          | fail
                          | skip
                            clear H114; intro H189
                            try simp only [decide_eq_true_eq, decide_eq_false_iff_not, Bool.not_eq_true', Bool.not_eq_false', Bool.and_eq_true, Bool.not_eq_true, Bool.not_eq_false] at hg115
                            refine skip rfl rfl rfl H189 ?_
                            clear H189; intro a190 H190
                            refine skip rfl rfl rfl H190 ?_
                            clear H190; intro a191 H191
                            refine skip rfl rfl rfl H191 ?_
                            clear H191; intro a192 H192
                            refine skip rfl rfl rfl H192 ?_
                            clear H192; intro a193 H193
                            refine skip rfl rfl rfl H193 ?_
                            clear H193; intro a194 H194
                            refine skip rfl rfl rfl H194 ?_
                            clear H194; intro a195 H195
                            refine skip rfl rfl rfl H195 ?_
                            clear H195; intro a196 H196
                            refine skip rfl rfl rfl H196 ?_
                            clear H196; intro a197 H197
                            refine skip rfl rfl rfl H197 ?_
                            clear H197; intro a198 H198
                            refine skip rfl rfl rfl H198 ?_
                            clear H198; intro a199 H199
                            refine plain (y_pick_f rfl rfl rfl) rfl rfl rfl H199 ?_
                            clear H199; intro a200 H200
                            refine plain (y_assign rfl rfl) rfl rfl rfl H200 ?_
                            clear H200; intro a201 H201
                            refine fin ?_
                            refine then_n ?_
                            refine cnd_f H201 rfl ?_
                            refine reg ?_
                            refine plain (y_fieldB rfl z_field50_5 rfl (by first | (simp only [Nat.zero_add, Nat.add_zero, Nat.reduceAdd]; rfl) | rfl)) rfl rfl rfl H201 ?_
                            clear H201; intro a203 H203
                            refine plain (y_loadB rfl z_agg4 rfl (by repeat (first | exact Mh | apply Mt)) q_ix_c8b32b32_5) rfl rfl rfl H203 ?_
                            clear H203; intro a204 H204
                            refine plain ((by first | exact y_not_d rfl rfl | exact y_not rfl rfl)) rfl rfl rfl H204 ?_
                            clear H204; intro a205 H205
                            refine plain (y_move rfl rfl) rfl rfl rfl H205 ?_
                            clear H205; intro a206 H206
                            refine Sx.part (d := 58) H206 rfl (fun hg207 => ?_) (fun hg207 => ?_)
                            · first
                              | fail
                              | skip
                                clear H206; intro H208
                                try simp only [decide_eq_true_eq, decide_eq_false_iff_not, Bool.not_eq_true', Bool.not_eq_false', Bool.and_eq_true, Bool.not_eq_true, Bool.not_eq_false] at hg207
                                refine plain (y_loadAB rfl z_agg126 z_size126 rfl (by repeat (first | exact Mh | apply Mt)) (q_ld_c2b32_0_34 (by assumption)) (q_len_c2b32 (by assumption))) rfl rfl rfl H208 ?_
                                clear H208; intro a209 H209
                                refine plain (y_build rfl z_zeroN126 z_places126 rfl lay_n) rfl rfl rfl H209 ?_
                                clear H209; intro a210 H210
                                refine plain (y_tneq rfl (by kernel_rfl) rfl rfl (eqr_Ln ⟨t.round, t.turn, t.hand⟩ ⟨0, 0, Note.Z⟩ wf.hand rfl)) rfl rfl rfl H210 ?_
                                clear H210; intro a211 H211
                                refine plain (y_pick_t rfl rfl rfl) rfl rfl rfl H211 ?_
                                clear H211; intro a212 H212
                                refine plain (y_assign rfl rfl) rfl rfl rfl H212 ?_
                                clear H212; intro a213 H213
                                refine fin ?_
                                refine then_n ?_
                                refine cnd H213 rfl (fun hc214 => ?_) (fun hc214 => ?_) -- cond 20
                                · first
                                  | (exfalso; simp_all; done)
                                  | skip
                                    try simp only [decide_eq_true_eq, decide_eq_false_iff_not, Bool.not_eq_true', Bool.not_eq_false', Bool.and_eq_true, Bool.not_eq_true, Bool.not_eq_false] at hc214
                                    refine wp_seq ?_
                                    refine reg ?_
                                    refine plain (y_assign rfl rfl) rfl rfl rfl H213 ?_
                                    clear H213; intro a215 H215
                                    refine fin ?_
                                    refine then_n ?_
                                    refine wp_ret ?_
                                    refine inb_r ?_
                                    refine then_r ?_
                                    -- return 18
                                    refine ret1 rfl H215 rfl ?_
                                    refine ⟨_, [], rfl, ⟨?_, rfl⟩, H215.sep.sub (List.nil_sublist _)⟩
                                    clear H215
                                    try simp only [Decidable.not_not, show List.replicate 32 (0 : UInt8) = Note.Z from rfl] at *
                                    first | (exact congrArg (Value.int .i64) (Txs.check_who (by first | (unfold Txs.okWho Txs.within; omega) | exact ⟨by assumption, by assumption⟩ | (unfold Txs.okWho; simp_all; done))).symm) | (exact congrArg (Value.int .i64) (Txs.check_arg (by first | (unfold Txs.okWho Txs.within; omega) | exact ⟨by assumption, by assumption⟩ | (unfold Txs.okWho; simp_all; done)) (by intro hh; obtain ⟨⟨a1, a2⟩, a3, a4⟩ := hh; first | exact absurd a1 (by assumption) | exact absurd a2 (by assumption) | exact absurd (a3 (by assumption)).1 (by assumption) | exact absurd (a3 (by assumption)).2 (by assumption) | (obtain ⟨b1, b2, b3⟩ := a4 (by assumption); simp_all))).symm) | (exact congrArg (Value.int .i64) (Txs.check_big (by first | (unfold Txs.okWho Txs.within; omega) | exact ⟨by assumption, by assumption⟩ | (unfold Txs.okWho; simp_all; done)) (by refine ⟨⟨by assumption, by assumption⟩, fun hl => ?_, fun hl => ?_⟩ <;> simp_all) (by omega)).symm) | (exact congrArg (Value.int .i64) (Txs.check_ok (by first | (unfold Txs.okWho Txs.within; omega) | exact ⟨by assumption, by assumption⟩ | (unfold Txs.okWho; simp_all; done)) (by refine ⟨⟨by assumption, by assumption⟩, fun hl => ?_, fun hl => ?_⟩ <;> simp_all) (by omega)).symm)
                                · first
                                  | (exfalso; simp_all; done)
                                  | skip
                                    try simp only [decide_eq_true_eq, decide_eq_false_iff_not, Bool.not_eq_true', Bool.not_eq_false', Bool.and_eq_true, Bool.not_eq_true, Bool.not_eq_false] at hc214
                                    refine wp_seq ?_
                                    refine reg ?_
                                    refine plain (y_fieldB rfl z_field50_4 rfl (by first | (simp only [Nat.zero_add, Nat.add_zero, Nat.reduceAdd]; rfl) | rfl)) rfl rfl rfl H213 ?_
                                    clear H213; intro a216 H216
                                    refine plain (y_loadB rfl z_agg9 rfl (by repeat (first | exact Mh | apply Mt)) q_ix_c8b32b32_4) rfl rfl rfl H216 ?_
                                    clear H216; intro a217 H217
                                    refine plain (y_slen rfl Tryd.underlying9 rfl) rfl rfl rfl H217 ?_
                                    clear H217; intro a218 H218
                                    refine plain (y_gtr rfl rfl rfl) rfl rfl rfl H218 ?_
                                    clear H218; intro a219 H219
                                    refine plain (y_assign rfl rfl) rfl rfl rfl H219 ?_
                                    clear H219; intro a220 H220
                                    refine fin ?_
                                    refine then_n ?_
                                    refine cnd H220 rfl (fun hc221 => ?_) (fun hc221 => ?_) -- cond 21
                                    · skip
                                      try simp only [decide_eq_true_eq, decide_eq_false_iff_not, Bool.not_eq_true', Bool.not_eq_false', Bool.and_eq_true, Bool.not_eq_true, Bool.not_eq_false] at hc221
                                      refine wp_seq ?_
                                      refine reg ?_
                                      refine plain (y_assign rfl rfl) rfl rfl rfl H220 ?_
                                      clear H220; intro a222 H222
                                      refine fin ?_
                                      refine then_n ?_
                                      refine wp_ret ?_
                                      refine inb_r ?_
                                      refine then_r ?_
                                      -- return 19
                                      refine ret1 rfl H222 rfl ?_
                                      refine ⟨_, [], rfl, ⟨?_, rfl⟩, H222.sep.sub (List.nil_sublist _)⟩
                                      clear H222
                                      try simp only [Decidable.not_not, show List.replicate 32 (0 : UInt8) = Note.Z from rfl] at *
                                      first | (exact congrArg (Value.int .i64) (Txs.check_who (by first | (unfold Txs.okWho Txs.within; omega) | exact ⟨by assumption, by assumption⟩ | (unfold Txs.okWho; simp_all; done))).symm) | (exact congrArg (Value.int .i64) (Txs.check_arg (by first | (unfold Txs.okWho Txs.within; omega) | exact ⟨by assumption, by assumption⟩ | (unfold Txs.okWho; simp_all; done)) (by intro hh; obtain ⟨⟨a1, a2⟩, a3, a4⟩ := hh; first | exact absurd a1 (by assumption) | exact absurd a2 (by assumption) | exact absurd (a3 (by assumption)).1 (by assumption) | exact absurd (a3 (by assumption)).2 (by assumption) | (obtain ⟨b1, b2, b3⟩ := a4 (by assumption); simp_all))).symm) | (exact congrArg (Value.int .i64) (Txs.check_big (by first | (unfold Txs.okWho Txs.within; omega) | exact ⟨by assumption, by assumption⟩ | (unfold Txs.okWho; simp_all; done)) (by refine ⟨⟨by assumption, by assumption⟩, fun hl => ?_, fun hl => ?_⟩ <;> simp_all) (by omega)).symm) | (exact congrArg (Value.int .i64) (Txs.check_ok (by first | (unfold Txs.okWho Txs.within; omega) | exact ⟨by assumption, by assumption⟩ | (unfold Txs.okWho; simp_all; done)) (by refine ⟨⟨by assumption, by assumption⟩, fun hl => ?_, fun hl => ?_⟩ <;> simp_all) (by omega)).symm)
                                    · skip
                                      try simp only [decide_eq_true_eq, decide_eq_false_iff_not, Bool.not_eq_true', Bool.not_eq_false', Bool.and_eq_true, Bool.not_eq_true, Bool.not_eq_false] at hc221
                                      refine wp_skip ?_
                                      refine inb_n ?_
                                      refine then_n ?_
                                      refine wp_seq ?_
                                      refine reg ?_
                                      refine plain (y_assign rfl rfl) rfl rfl rfl H220 ?_
                                      clear H220; intro a223 H223
                                      refine fin ?_
                                      refine then_n ?_
                                      refine wp_ret ?_
                                      -- return 20
                                      refine ret1 rfl H223 rfl ?_
                                      refine ⟨_, [], rfl, ⟨?_, rfl⟩, H223.sep.sub (List.nil_sublist _)⟩
                                      clear H223
                                      try simp only [Decidable.not_not, show List.replicate 32 (0 : UInt8) = Note.Z from rfl] at *
                                      first | (exact congrArg (Value.int .i64) (Txs.check_who (by first | (unfold Txs.okWho Txs.within; omega) | exact ⟨by assumption, by assumption⟩ | (unfold Txs.okWho; simp_all; done))).symm) | (exact congrArg (Value.int .i64) (Txs.check_arg (by first | (unfold Txs.okWho Txs.within; omega) | exact ⟨by assumption, by assumption⟩ | (unfold Txs.okWho; simp_all; done)) (by intro hh; obtain ⟨⟨a1, a2⟩, a3, a4⟩ := hh; first | exact absurd a1 (by assumption) | exact absurd a2 (by assumption) | exact absurd (a3 (by assumption)).1 (by assumption) | exact absurd (a3 (by assumption)).2 (by assumption) | (obtain ⟨b1, b2, b3⟩ := a4 (by assumption); simp_all))).symm) | (exact congrArg (Value.int .i64) (Txs.check_big (by first | (unfold Txs.okWho Txs.within; omega) | exact ⟨by assumption, by assumption⟩ | (unfold Txs.okWho; simp_all; done)) (by refine ⟨⟨by assumption, by assumption⟩, fun hl => ?_, fun hl => ?_⟩ <;> simp_all) (by omega)).symm) | (exact congrArg (Value.int .i64) (Txs.check_ok (by first | (unfold Txs.okWho Txs.within; omega) | exact ⟨by assumption, by assumption⟩ | (unfold Txs.okWho; simp_all; done)) (by refine ⟨⟨by assumption, by assumption⟩, fun hl => ?_, fun hl => ?_⟩ <;> simp_all) (by omega)).symm)
                            · first
                              | fail
                              | skip
                                clear H206; intro H224
                                try simp only [decide_eq_true_eq, decide_eq_false_iff_not, Bool.not_eq_true', Bool.not_eq_false', Bool.and_eq_true, Bool.not_eq_true, Bool.not_eq_false] at hg207
                                refine skip rfl rfl rfl H224 ?_
                                clear H224; intro a225 H225
                                refine skip rfl rfl rfl H225 ?_
                                clear H225; intro a226 H226
                                refine skip rfl rfl rfl H226 ?_
                                clear H226; intro a227 H227
                                refine plain (y_pick_f rfl rfl rfl) rfl rfl rfl H227 ?_
                                clear H227; intro a228 H228
                                refine plain (y_assign rfl rfl) rfl rfl rfl H228 ?_
                                clear H228; intro a229 H229
                                refine fin ?_
                                refine then_n ?_
                                refine cnd_f H229 rfl ?_
                                refine wp_seq ?_
                                refine reg ?_
                                refine plain (y_fieldB rfl z_field50_4 rfl (by first | (simp only [Nat.zero_add, Nat.add_zero, Nat.reduceAdd]; rfl) | rfl)) rfl rfl rfl H229 ?_
                                clear H229; intro a231 H231
                                refine plain (y_loadB rfl z_agg9 rfl (by repeat (first | exact Mh | apply Mt)) q_ix_c8b32b32_4) rfl rfl rfl H231 ?_
                                clear H231; intro a232 H232
                                refine plain (y_slen rfl Tryd.underlying9 rfl) rfl rfl rfl H232 ?_
                                clear H232; intro a233 H233
                                refine plain (y_gtr rfl rfl rfl) rfl rfl rfl H233 ?_
                                clear H233; intro a234 H234
                                refine plain (y_assign rfl rfl) rfl rfl rfl H234 ?_
                                clear H234; intro a235 H235
                                refine fin ?_
                                refine then_n ?_
                                refine cnd H235 rfl (fun hc236 => ?_) (fun hc236 => ?_) -- cond 23
                                · skip
                                  try simp only [decide_eq_true_eq, decide_eq_false_iff_not, Bool.not_eq_true', Bool.not_eq_false', Bool.and_eq_true, Bool.not_eq_true, Bool.not_eq_false] at hc236
                                  refine wp_seq ?_
                                  refine reg ?_
                                  refine plain (y_assign rfl rfl) rfl rfl rfl H235 ?_
                                  clear H235; intro a237 H237
                                  refine fin ?_
                                  refine then_n ?_
                                  refine wp_ret ?_
                                  refine inb_r ?_
                                  refine then_r ?_
                                  -- return 21
                                  refine ret1 rfl H237 rfl ?_
                                  refine ⟨_, [], rfl, ⟨?_, rfl⟩, H237.sep.sub (List.nil_sublist _)⟩
                                  clear H237
                                  try simp only [Decidable.not_not, show List.replicate 32 (0 : UInt8) = Note.Z from rfl] at *
                                  first | (exact congrArg (Value.int .i64) (Txs.check_who (by first | (unfold Txs.okWho Txs.within; omega) | exact ⟨by assumption, by assumption⟩ | (unfold Txs.okWho; simp_all; done))).symm) | (exact congrArg (Value.int .i64) (Txs.check_arg (by first | (unfold Txs.okWho Txs.within; omega) | exact ⟨by assumption, by assumption⟩ | (unfold Txs.okWho; simp_all; done)) (by intro hh; obtain ⟨⟨a1, a2⟩, a3, a4⟩ := hh; first | exact absurd a1 (by assumption) | exact absurd a2 (by assumption) | exact absurd (a3 (by assumption)).1 (by assumption) | exact absurd (a3 (by assumption)).2 (by assumption) | (obtain ⟨b1, b2, b3⟩ := a4 (by assumption); simp_all))).symm) | (exact congrArg (Value.int .i64) (Txs.check_big (by first | (unfold Txs.okWho Txs.within; omega) | exact ⟨by assumption, by assumption⟩ | (unfold Txs.okWho; simp_all; done)) (by refine ⟨⟨by assumption, by assumption⟩, fun hl => ?_, fun hl => ?_⟩ <;> simp_all) (by omega)).symm) | (exact congrArg (Value.int .i64) (Txs.check_ok (by first | (unfold Txs.okWho Txs.within; omega) | exact ⟨by assumption, by assumption⟩ | (unfold Txs.okWho; simp_all; done)) (by refine ⟨⟨by assumption, by assumption⟩, fun hl => ?_, fun hl => ?_⟩ <;> simp_all) (by omega)).symm)
                                · skip
                                  try simp only [decide_eq_true_eq, decide_eq_false_iff_not, Bool.not_eq_true', Bool.not_eq_false', Bool.and_eq_true, Bool.not_eq_true, Bool.not_eq_false] at hc236
                                  refine wp_skip ?_
                                  refine inb_n ?_
                                  refine then_n ?_
                                  refine wp_seq ?_
                                  refine reg ?_
                                  refine plain (y_assign rfl rfl) rfl rfl rfl H235 ?_
                                  clear H235; intro a238 H238
                                  refine fin ?_
                                  refine then_n ?_
                                  refine wp_ret ?_
                                  -- return 22
                                  refine ret1 rfl H238 rfl ?_
                                  refine ⟨_, [], rfl, ⟨?_, rfl⟩, H238.sep.sub (List.nil_sublist _)⟩
                                  clear H238
                                  try simp only [Decidable.not_not, show List.replicate 32 (0 : UInt8) = Note.Z from rfl] at *
                                  first | (exact congrArg (Value.int .i64) (Txs.check_who (by first | (unfold Txs.okWho Txs.within; omega) | exact ⟨by assumption, by assumption⟩ | (unfold Txs.okWho; simp_all; done))).symm) | (exact congrArg (Value.int .i64) (Txs.check_arg (by first | (unfold Txs.okWho Txs.within; omega) | exact ⟨by assumption, by assumption⟩ | (unfold Txs.okWho; simp_all; done)) (by intro hh; obtain ⟨⟨a1, a2⟩, a3, a4⟩ := hh; first | exact absurd a1 (by assumption) | exact absurd a2 (by assumption) | exact absurd (a3 (by assumption)).1 (by assumption) | exact absurd (a3 (by assumption)).2 (by assumption) | (obtain ⟨b1, b2, b3⟩ := a4 (by assumption); simp_all))).symm) | (exact congrArg (Value.int .i64) (Txs.check_big (by first | (unfold Txs.okWho Txs.within; omega) | exact ⟨by assumption, by assumption⟩ | (unfold Txs.okWho; simp_all; done)) (by refine ⟨⟨by assumption, by assumption⟩, fun hl => ?_, fun hl => ?_⟩ <;> simp_all) (by omega)).symm) | (exact congrArg (Value.int .i64) (Txs.check_ok (by first | (unfold Txs.okWho Txs.within; omega) | exact ⟨by assumption, by assumption⟩ | (unfold Txs.okWho; simp_all; done)) (by refine ⟨⟨by assumption, by assumption⟩, fun hl => ?_, fun hl => ?_⟩ <;> simp_all) (by omega)).symm)
set_option maxRecDepth 100000 in
set_option maxHeartbeats 1000000 in
theorem rwin4 (n k : Int) (w : World) : Calls Tryd.prog 78 #[.int .i64 n, .int .i64 k] w (Gives (.bool (decide (Txs.within n k))) [] w) := by
  have lz32 : (List.replicate 32 (0 : UInt8)).length = 32 := List.length_replicate
  refine enterL (args := [.int .i64 n, .int .i64 k]) Tryd.func78 rfl rfl (l := []) (Sep.refl _) ?_
  intro a0 H0
  refine wp_seq ?_
  refine reg ?_
  refine plain (y_assign rfl rfl) rfl rfl rfl H0 ?_
  clear H0; intro a1 H1
  refine fin ?_
  refine then_n ?_
  refine wp_seq ?_
  refine reg ?_
  refine plain (y_move rfl rfl) rfl rfl rfl H1 ?_
  clear H1; intro a2 H2
  refine plain (y_geq rfl rfl rfl) rfl rfl rfl H2 ?_
  clear H2; intro a3 H3
  refine plain (y_move rfl rfl) rfl rfl rfl H3 ?_
  clear H3; intro a4 H4
  refine Sx.part (d := 7) H4 rfl (fun hg5 => ?_) (fun hg5 => ?_)
  · first
    | fail
    | skip
      clear H4; intro H6
      try simp only [decide_eq_true_eq, decide_eq_false_iff_not, Bool.not_eq_true', Bool.not_eq_false', Bool.and_eq_true, Bool.not_eq_true, Bool.not_eq_false] at hg5
      refine plain (y_move rfl rfl) rfl rfl rfl H6 ?_
      clear H6; intro a7 H7
      refine plain (y_move rfl rfl) rfl rfl rfl H7 ?_
      clear H7; intro a8 H8
      refine plain (y_leq rfl rfl rfl) rfl rfl rfl H8 ?_
      clear H8; intro a9 H9
      refine plain (y_pick_t rfl rfl rfl) rfl rfl rfl H9 ?_
      clear H9; intro a10 H10
      refine plain (y_assign rfl rfl) rfl rfl rfl H10 ?_
      clear H10; intro a11 H11
      refine fin ?_
      refine then_n ?_
      refine wp_ret ?_
      -- return 1
      refine ret1 rfl H11 rfl ?_
      refine ⟨_, [], rfl, ⟨?_, rfl⟩, H11.sep.sub (List.nil_sublist _)⟩
      clear H11
      first | exact congrArg Value.bool (decide_eq_decide.2 (by unfold Txs.within; omega)) | exact congrArg Value.bool (decide_eq_false (by unfold Txs.within; omega)).symm
  · first
    | fail
    | skip
      clear H4; intro H12
      try simp only [decide_eq_true_eq, decide_eq_false_iff_not, Bool.not_eq_true', Bool.not_eq_false', Bool.and_eq_true, Bool.not_eq_true, Bool.not_eq_false] at hg5
      refine skip rfl rfl rfl H12 ?_
      clear H12; intro a13 H13
      refine skip rfl rfl rfl H13 ?_
      clear H13; intro a14 H14
      refine skip rfl rfl rfl H14 ?_
      clear H14; intro a15 H15
      refine plain (y_pick_f rfl rfl rfl) rfl rfl rfl H15 ?_
      clear H15; intro a16 H16
      refine plain (y_assign rfl rfl) rfl rfl rfl H16 ?_
      clear H16; intro a17 H17
      refine fin ?_
      refine then_n ?_
      refine wp_ret ?_
      -- return 2
      refine ret1 rfl H17 rfl ?_
      refine ⟨_, [], rfl, ⟨?_, rfl⟩, H17.sep.sub (List.nil_sublist _)⟩
      clear H17
      first | exact congrArg Value.bool (decide_eq_decide.2 (by unfold Txs.within; omega)) | exact congrArg Value.bool (decide_eq_false (by unfold Txs.within; omega)).symm
set_option maxRecDepth 100000 in
set_option maxHeartbeats 4000000 in
theorem rtcheck (t : Txs.Tx) (wf : Txs.Tx.Wf t) (w : World) : Calls Tryd.prog 98 #[.agg (Txs.Tx.cells t).toArray] w (Gives (.int .i64 (Txs.check t)) [] w) := by
  have whd := wf.hand
  have wtg := wf.tag
  have lz32 : (List.replicate 32 (0 : UInt8)).length = 32 := List.length_replicate
  have lz0 := wf.hand
  have lz1 := wf.tag
  refine enterL (args := [.agg (Txs.Tx.cells t).toArray]) Tryd.func98 rfl rfl (l := []) (Sep.refl _) ?_
  intro a0 H0
  refine wp_seq ?_
  refine reg ?_
  refine st_box rfl rfl (agg_cells _) rfl rfl rfl H0 ?_
  clear H0; intro b1 a1 wx1 H1
  refine plain (y_assign rfl rfl) rfl rfl rfl H1 ?_
  clear H1; intro a2 H2
  refine fin ?_
  refine then_n ?_
  refine wp_seq ?_
  refine wp_seq ?_
  refine reg ?_
  refine plain (y_fieldB rfl z_field50_0 rfl (by first | (simp only [Nat.zero_add, Nat.add_zero, Nat.reduceAdd]; rfl) | rfl)) rfl rfl rfl H2 ?_
  clear H2; intro a3 H3
  refine plain (y_loadB rfl z_agg3 rfl (by repeat (first | exact Mh | apply Mt)) q_ix_c8b32b32_0) rfl rfl rfl H3 ?_
  clear H3; intro a4 H4
  refine st_callg rfl z_call78 rfl rfl rfl rfl H4 (rwin4 _ _ _) ?_
  clear H4; intro a5 wx5 H5
  refine plain ((by first | exact y_not_d rfl rfl | exact y_not rfl rfl)) rfl rfl rfl H5 ?_
  clear H5; intro a6 H6
  refine plain (y_move rfl rfl) rfl rfl rfl H6 ?_
  clear H6; intro a7 H7
  refine Sx.part (d := 7) H7 rfl (fun hg8 => ?_) (fun hg8 => ?_)
  · first
    | fail
    | skip
      clear H7; intro H9
      try simp only [decide_eq_true_eq, decide_eq_false_iff_not, Bool.not_eq_true', Bool.not_eq_false', Bool.and_eq_true, Bool.not_eq_true, Bool.not_eq_false] at hg8
      refine skip rfl rfl rfl H9 ?_
      clear H9; intro a10 H10
      refine skip rfl rfl rfl H10 ?_
      clear H10; intro a11 H11
      refine skip rfl rfl rfl H11 ?_
      clear H11; intro a12 H12
      refine skip rfl rfl rfl H12 ?_
      clear H12; intro a13 H13
      refine plain (y_pick_t rfl rfl rfl) rfl rfl rfl H13 ?_
      clear H13; intro a14 H14
      refine fin ?_
      refine then_n ?_
      refine cnd_t H14 rfl ?_
      refine wp_seq ?_
      refine reg ?_
      refine plain (y_assign rfl rfl) rfl rfl rfl H14 ?_
      clear H14; intro a16 H16
      refine fin ?_
      refine then_n ?_
      refine wp_ret ?_
      refine then_r ?_
      -- return 1
      refine ret1 rfl H16 rfl ?_
      refine ⟨_, [], rfl, ⟨?_, rfl⟩, H16.sep.sub (List.nil_sublist _)⟩
      clear H16
      try simp only [Decidable.not_not, show List.replicate 32 (0 : UInt8) = Note.Z from rfl] at *
      first | (exact congrArg (Value.int .i64) (Txs.check_who (by first | (unfold Txs.okWho Txs.within; omega) | exact ⟨by assumption, by assumption⟩ | (unfold Txs.okWho; simp_all; done))).symm) | (exact congrArg (Value.int .i64) (Txs.check_arg (by first | (unfold Txs.okWho Txs.within; omega) | exact ⟨by assumption, by assumption⟩ | (unfold Txs.okWho; simp_all; done)) (by intro hh; obtain ⟨⟨a1, a2⟩, a3, a4⟩ := hh; first | exact absurd a1 (by assumption) | exact absurd a2 (by assumption) | exact absurd (a3 (by assumption)).1 (by assumption) | exact absurd (a3 (by assumption)).2 (by assumption) | (obtain ⟨b1, b2, b3⟩ := a4 (by assumption); simp_all))).symm) | (exact congrArg (Value.int .i64) (Txs.check_big (by first | (unfold Txs.okWho Txs.within; omega) | exact ⟨by assumption, by assumption⟩ | (unfold Txs.okWho; simp_all; done)) (by refine ⟨⟨by assumption, by assumption⟩, fun hl => ?_, fun hl => ?_⟩ <;> simp_all) (by omega)).symm) | (exact congrArg (Value.int .i64) (Txs.check_ok (by first | (unfold Txs.okWho Txs.within; omega) | exact ⟨by assumption, by assumption⟩ | (unfold Txs.okWho; simp_all; done)) (by refine ⟨⟨by assumption, by assumption⟩, fun hl => ?_, fun hl => ?_⟩ <;> simp_all) (by omega)).symm)
  · first
    | fail
    | skip
      clear H7; intro H17
      try simp only [decide_eq_true_eq, decide_eq_false_iff_not, Bool.not_eq_true', Bool.not_eq_false', Bool.and_eq_true, Bool.not_eq_true, Bool.not_eq_false] at hg8
      refine plain (y_fieldB rfl z_field50_3 rfl (by first | (simp only [Nat.zero_add, Nat.add_zero, Nat.reduceAdd]; rfl) | rfl)) rfl rfl rfl H17 ?_
      clear H17; intro a18 H18
      refine plain (y_loadB rfl z_agg3 rfl (by repeat (first | exact Mh | apply Mt)) q_ix_c8b32b32_3) rfl rfl rfl H18 ?_
      clear H18; intro a19 H19
      refine st_callg rfl z_call78 rfl rfl rfl rfl H19 (rwin4 _ _ _) ?_
      clear H19; intro a20 wx20 H20
      refine plain ((by first | exact y_not_d rfl rfl | exact y_not rfl rfl)) rfl rfl rfl H20 ?_
      clear H20; intro a21 H21
      refine plain (y_pick_f rfl rfl rfl) rfl rfl rfl H21 ?_
      clear H21; intro a22 H22
      refine fin ?_
      refine then_n ?_
      refine cnd H22 rfl (fun hc23 => ?_) (fun hc23 => ?_) -- cond 2
      · skip
        try simp only [decide_eq_true_eq, decide_eq_false_iff_not, Bool.not_eq_true', Bool.not_eq_false', Bool.and_eq_true, Bool.not_eq_true, Bool.not_eq_false] at hc23
        refine wp_seq ?_
        refine reg ?_
        refine plain (y_assign rfl rfl) rfl rfl rfl H22 ?_
        clear H22; intro a24 H24
        refine fin ?_
        refine then_n ?_
        refine wp_ret ?_
        refine then_r ?_
        -- return 2
        refine ret1 rfl H24 rfl ?_
        refine ⟨_, [], rfl, ⟨?_, rfl⟩, H24.sep.sub (List.nil_sublist _)⟩
        clear H24
        try simp only [Decidable.not_not, show List.replicate 32 (0 : UInt8) = Note.Z from rfl] at *
        first | (exact congrArg (Value.int .i64) (Txs.check_who (by first | (unfold Txs.okWho Txs.within; omega) | exact ⟨by assumption, by assumption⟩ | (unfold Txs.okWho; simp_all; done))).symm) | (exact congrArg (Value.int .i64) (Txs.check_arg (by first | (unfold Txs.okWho Txs.within; omega) | exact ⟨by assumption, by assumption⟩ | (unfold Txs.okWho; simp_all; done)) (by intro hh; obtain ⟨⟨a1, a2⟩, a3, a4⟩ := hh; first | exact absurd a1 (by assumption) | exact absurd a2 (by assumption) | exact absurd (a3 (by assumption)).1 (by assumption) | exact absurd (a3 (by assumption)).2 (by assumption) | (obtain ⟨b1, b2, b3⟩ := a4 (by assumption); simp_all))).symm) | (exact congrArg (Value.int .i64) (Txs.check_big (by first | (unfold Txs.okWho Txs.within; omega) | exact ⟨by assumption, by assumption⟩ | (unfold Txs.okWho; simp_all; done)) (by refine ⟨⟨by assumption, by assumption⟩, fun hl => ?_, fun hl => ?_⟩ <;> simp_all) (by omega)).symm) | (exact congrArg (Value.int .i64) (Txs.check_ok (by first | (unfold Txs.okWho Txs.within; omega) | exact ⟨by assumption, by assumption⟩ | (unfold Txs.okWho; simp_all; done)) (by refine ⟨⟨by assumption, by assumption⟩, fun hl => ?_, fun hl => ?_⟩ <;> simp_all) (by omega)).symm)
      · skip
        try simp only [decide_eq_true_eq, decide_eq_false_iff_not, Bool.not_eq_true', Bool.not_eq_false', Bool.and_eq_true, Bool.not_eq_true, Bool.not_eq_false] at hc23
        refine wp_skip ?_
        refine then_n ?_
        refine wp_seq ?_
        refine wp_seq ?_
        refine reg ?_
        refine plain (y_fieldB rfl z_field50_1 rfl (by first | (simp only [Nat.zero_add, Nat.add_zero, Nat.reduceAdd]; rfl) | rfl)) rfl rfl rfl H22 ?_
        clear H22; intro a25 H25
        refine plain (y_loadB rfl z_agg3 rfl (by repeat (first | exact Mh | apply Mt)) q_ix_c8b32b32_1) rfl rfl rfl H25 ?_
        clear H25; intro a26 H26
        refine st_callg rfl z_call78 rfl rfl rfl rfl H26 (rwin4 _ _ _) ?_
        clear H26; intro a27 wx27 H27
        refine plain ((by first | exact y_not_d rfl rfl | exact y_not rfl rfl)) rfl rfl rfl H27 ?_
        clear H27; intro a28 H28
        refine plain (y_move rfl rfl) rfl rfl rfl H28 ?_
        clear H28; intro a29 H29
        refine Sx.part (d := 17) H29 rfl (fun hg30 => ?_) (fun hg30 => ?_)
        · first
          | fail
          | skip
            clear H29; intro H31
            try simp only [decide_eq_true_eq, decide_eq_false_iff_not, Bool.not_eq_true', Bool.not_eq_false', Bool.and_eq_true, Bool.not_eq_true, Bool.not_eq_false] at hg30
            refine skip rfl rfl rfl H31 ?_
            clear H31; intro a32 H32
            refine skip rfl rfl rfl H32 ?_
            clear H32; intro a33 H33
            refine skip rfl rfl rfl H33 ?_
            clear H33; intro a34 H34
            refine skip rfl rfl rfl H34 ?_
            clear H34; intro a35 H35
            refine plain (y_pick_t rfl rfl rfl) rfl rfl rfl H35 ?_
            clear H35; intro a36 H36
            refine fin ?_
            refine then_n ?_
            refine cnd_t H36 rfl ?_
            refine wp_seq ?_
            refine reg ?_
            refine plain (y_assign rfl rfl) rfl rfl rfl H36 ?_
            clear H36; intro a38 H38
            refine fin ?_
            refine then_n ?_
            refine wp_ret ?_
            refine then_r ?_
            -- return 3
            refine ret1 rfl H38 rfl ?_
            refine ⟨_, [], rfl, ⟨?_, rfl⟩, H38.sep.sub (List.nil_sublist _)⟩
            clear H38
            try simp only [Decidable.not_not, show List.replicate 32 (0 : UInt8) = Note.Z from rfl] at *
            first | (exact congrArg (Value.int .i64) (Txs.check_who (by first | (unfold Txs.okWho Txs.within; omega) | exact ⟨by assumption, by assumption⟩ | (unfold Txs.okWho; simp_all; done))).symm) | (exact congrArg (Value.int .i64) (Txs.check_arg (by first | (unfold Txs.okWho Txs.within; omega) | exact ⟨by assumption, by assumption⟩ | (unfold Txs.okWho; simp_all; done)) (by intro hh; obtain ⟨⟨a1, a2⟩, a3, a4⟩ := hh; first | exact absurd a1 (by assumption) | exact absurd a2 (by assumption) | exact absurd (a3 (by assumption)).1 (by assumption) | exact absurd (a3 (by assumption)).2 (by assumption) | (obtain ⟨b1, b2, b3⟩ := a4 (by assumption); simp_all))).symm) | (exact congrArg (Value.int .i64) (Txs.check_big (by first | (unfold Txs.okWho Txs.within; omega) | exact ⟨by assumption, by assumption⟩ | (unfold Txs.okWho; simp_all; done)) (by refine ⟨⟨by assumption, by assumption⟩, fun hl => ?_, fun hl => ?_⟩ <;> simp_all) (by omega)).symm) | (exact congrArg (Value.int .i64) (Txs.check_ok (by first | (unfold Txs.okWho Txs.within; omega) | exact ⟨by assumption, by assumption⟩ | (unfold Txs.okWho; simp_all; done)) (by refine ⟨⟨by assumption, by assumption⟩, fun hl => ?_, fun hl => ?_⟩ <;> simp_all) (by omega)).symm)
        · first
          | fail
          | skip
            clear H29; intro H39
            try simp only [decide_eq_true_eq, decide_eq_false_iff_not, Bool.not_eq_true', Bool.not_eq_false', Bool.and_eq_true, Bool.not_eq_true, Bool.not_eq_false] at hg30
            refine plain (y_fieldB rfl z_field50_2 rfl (by first | (simp only [Nat.zero_add, Nat.add_zero, Nat.reduceAdd]; rfl) | rfl)) rfl rfl rfl H39 ?_
            clear H39; intro a40 H40
            refine plain (y_loadB rfl z_agg3 rfl (by repeat (first | exact Mh | apply Mt)) q_ix_c8b32b32_2) rfl rfl rfl H40 ?_
            clear H40; intro a41 H41
            refine st_callg rfl z_call78 rfl rfl rfl rfl H41 (rwin4 _ _ _) ?_
            clear H41; intro a42 wx42 H42
            refine plain ((by first | exact y_not_d rfl rfl | exact y_not rfl rfl)) rfl rfl rfl H42 ?_
            clear H42; intro a43 H43
            refine plain (y_pick_f rfl rfl rfl) rfl rfl rfl H43 ?_
            clear H43; intro a44 H44
            refine fin ?_
            refine then_n ?_
            refine cnd H44 rfl (fun hc45 => ?_) (fun hc45 => ?_) -- cond 4
            · skip
              try simp only [decide_eq_true_eq, decide_eq_false_iff_not, Bool.not_eq_true', Bool.not_eq_false', Bool.and_eq_true, Bool.not_eq_true, Bool.not_eq_false] at hc45
              refine wp_seq ?_
              refine reg ?_
              refine plain (y_assign rfl rfl) rfl rfl rfl H44 ?_
              clear H44; intro a46 H46
              refine fin ?_
              refine then_n ?_
              refine wp_ret ?_
              refine then_r ?_
              -- return 4
              refine ret1 rfl H46 rfl ?_
              refine ⟨_, [], rfl, ⟨?_, rfl⟩, H46.sep.sub (List.nil_sublist _)⟩
              clear H46
              try simp only [Decidable.not_not, show List.replicate 32 (0 : UInt8) = Note.Z from rfl] at *
              first | (exact congrArg (Value.int .i64) (Txs.check_who (by first | (unfold Txs.okWho Txs.within; omega) | exact ⟨by assumption, by assumption⟩ | (unfold Txs.okWho; simp_all; done))).symm) | (exact congrArg (Value.int .i64) (Txs.check_arg (by first | (unfold Txs.okWho Txs.within; omega) | exact ⟨by assumption, by assumption⟩ | (unfold Txs.okWho; simp_all; done)) (by intro hh; obtain ⟨⟨a1, a2⟩, a3, a4⟩ := hh; first | exact absurd a1 (by assumption) | exact absurd a2 (by assumption) | exact absurd (a3 (by assumption)).1 (by assumption) | exact absurd (a3 (by assumption)).2 (by assumption) | (obtain ⟨b1, b2, b3⟩ := a4 (by assumption); simp_all))).symm) | (exact congrArg (Value.int .i64) (Txs.check_big (by first | (unfold Txs.okWho Txs.within; omega) | exact ⟨by assumption, by assumption⟩ | (unfold Txs.okWho; simp_all; done)) (by refine ⟨⟨by assumption, by assumption⟩, fun hl => ?_, fun hl => ?_⟩ <;> simp_all) (by omega)).symm) | (exact congrArg (Value.int .i64) (Txs.check_ok (by first | (unfold Txs.okWho Txs.within; omega) | exact ⟨by assumption, by assumption⟩ | (unfold Txs.okWho; simp_all; done)) (by refine ⟨⟨by assumption, by assumption⟩, fun hl => ?_, fun hl => ?_⟩ <;> simp_all) (by omega)).symm)
            · skip
              try simp only [decide_eq_true_eq, decide_eq_false_iff_not, Bool.not_eq_true', Bool.not_eq_false', Bool.and_eq_true, Bool.not_eq_true, Bool.not_eq_false] at hc45
              refine wp_skip ?_
              refine then_n ?_
              refine wp_seq ?_
              refine wp_seq ?_
              refine reg ?_
              refine plain (y_fieldB rfl z_field50_5 rfl (by first | (simp only [Nat.zero_add, Nat.add_zero, Nat.reduceAdd]; rfl) | rfl)) rfl rfl rfl H44 ?_
              clear H44; intro a47 H47
              refine plain (y_loadB rfl z_agg4 rfl (by repeat (first | exact Mh | apply Mt)) q_ix_c8b32b32_5) rfl rfl rfl H47 ?_
              clear H47; intro a48 H48
              refine fin ?_
              refine then_n ?_
              refine cnd H48 rfl (fun hc49 => ?_) (fun hc49 => ?_) -- cond 5
              · skip
                try simp only [decide_eq_true_eq, decide_eq_false_iff_not, Bool.not_eq_true', Bool.not_eq_false', Bool.and_eq_true, Bool.not_eq_true, Bool.not_eq_false] at hc49
                refine wp_seq ?_
                refine reg ?_
                refine plain (y_fieldB rfl z_field50_6 rfl (by first | (simp only [Nat.zero_add, Nat.add_zero, Nat.reduceAdd]; rfl) | rfl)) rfl rfl rfl H48 ?_
                clear H48; intro a50 H50
                refine plain (y_loadB rfl z_agg3 rfl (by repeat (first | exact Mh | apply Mt)) q_ix_c8b32b32_6) rfl rfl rfl H50 ?_
                clear H50; intro a51 H51
                refine st_callg rfl z_call78 rfl rfl rfl rfl H51 (rwin4 _ _ _) ?_
                clear H51; intro a52 wx52 H52
                refine plain ((by first | exact y_not_d rfl rfl | exact y_not rfl rfl)) rfl rfl rfl H52 ?_
                clear H52; intro a53 H53
                refine plain (y_move rfl rfl) rfl rfl rfl H53 ?_
                clear H53; intro a54 H54
                refine Sx.part (d := 29) H54 rfl (fun hg55 => ?_) (fun hg55 => ?_)
                · first
                  | fail
                  | skip
                    clear H54; intro H56
                    try simp only [decide_eq_true_eq, decide_eq_false_iff_not, Bool.not_eq_true', Bool.not_eq_false', Bool.and_eq_true, Bool.not_eq_true, Bool.not_eq_false] at hg55
                    refine skip rfl rfl rfl H56 ?_
                    clear H56; intro a57 H57
                    refine skip rfl rfl rfl H57 ?_
                    clear H57; intro a58 H58
                    refine skip rfl rfl rfl H58 ?_
                    clear H58; intro a59 H59
                    refine skip rfl rfl rfl H59 ?_
                    clear H59; intro a60 H60
                    refine plain (y_pick_t rfl rfl rfl) rfl rfl rfl H60 ?_
                    clear H60; intro a61 H61
                    refine fin ?_
                    refine then_n ?_
                    refine cnd_t H61 rfl ?_
                    refine wp_seq ?_
                    refine reg ?_
                    refine plain (y_assign rfl rfl) rfl rfl rfl H61 ?_
                    clear H61; intro a63 H63
                    refine fin ?_
                    refine then_n ?_
                    refine wp_ret ?_
                    refine then_r ?_
                    -- return 5
                    refine ret1 rfl H63 rfl ?_
                    refine ⟨_, [], rfl, ⟨?_, rfl⟩, H63.sep.sub (List.nil_sublist _)⟩
                    clear H63
                    try simp only [Decidable.not_not, show List.replicate 32 (0 : UInt8) = Note.Z from rfl] at *
                    first | (exact congrArg (Value.int .i64) (Txs.check_who (by first | (unfold Txs.okWho Txs.within; omega) | exact ⟨by assumption, by assumption⟩ | (unfold Txs.okWho; simp_all; done))).symm) | (exact congrArg (Value.int .i64) (Txs.check_arg (by first | (unfold Txs.okWho Txs.within; omega) | exact ⟨by assumption, by assumption⟩ | (unfold Txs.okWho; simp_all; done)) (by intro hh; obtain ⟨⟨a1, a2⟩, a3, a4⟩ := hh; first | exact absurd a1 (by assumption) | exact absurd a2 (by assumption) | exact absurd (a3 (by assumption)).1 (by assumption) | exact absurd (a3 (by assumption)).2 (by assumption) | (obtain ⟨b1, b2, b3⟩ := a4 (by assumption); simp_all))).symm) | (exact congrArg (Value.int .i64) (Txs.check_big (by first | (unfold Txs.okWho Txs.within; omega) | exact ⟨by assumption, by assumption⟩ | (unfold Txs.okWho; simp_all; done)) (by refine ⟨⟨by assumption, by assumption⟩, fun hl => ?_, fun hl => ?_⟩ <;> simp_all) (by omega)).symm) | (exact congrArg (Value.int .i64) (Txs.check_ok (by first | (unfold Txs.okWho Txs.within; omega) | exact ⟨by assumption, by assumption⟩ | (unfold Txs.okWho; simp_all; done)) (by refine ⟨⟨by assumption, by assumption⟩, fun hl => ?_, fun hl => ?_⟩ <;> simp_all) (by omega)).symm)
                · first
                  | fail
                  | skip
                    clear H54; intro H64
                    try simp only [decide_eq_true_eq, decide_eq_false_iff_not, Bool.not_eq_true', Bool.not_eq_false', Bool.and_eq_true, Bool.not_eq_true, Bool.not_eq_false] at hg55
                    refine plain (y_fieldB rfl z_field50_7 rfl (by first | (simp only [Nat.zero_add, Nat.add_zero, Nat.reduceAdd]; rfl) | rfl)) rfl rfl rfl H64 ?_
                    clear H64; intro a65 H65
                    refine plain (y_loadB rfl z_agg3 rfl (by repeat (first | exact Mh | apply Mt)) q_ix_c8b32b32_7) rfl rfl rfl H65 ?_
                    clear H65; intro a66 H66
                    refine st_callg rfl z_call78 rfl rfl rfl rfl H66 (rwin4 _ _ _) ?_
                    clear H66; intro a67 wx67 H67
                    refine plain ((by first | exact y_not_d rfl rfl | exact y_not rfl rfl)) rfl rfl rfl H67 ?_
                    clear H67; intro a68 H68
                    refine plain (y_pick_f rfl rfl rfl) rfl rfl rfl H68 ?_
                    clear H68; intro a69 H69
                    refine fin ?_
                    refine then_n ?_
                    refine cnd H69 rfl (fun hc70 => ?_) (fun hc70 => ?_) -- cond 7
                    · skip
                      try simp only [decide_eq_true_eq, decide_eq_false_iff_not, Bool.not_eq_true', Bool.not_eq_false', Bool.and_eq_true, Bool.not_eq_true, Bool.not_eq_false] at hc70
                      refine wp_seq ?_
                      refine reg ?_
                      refine plain (y_assign rfl rfl) rfl rfl rfl H69 ?_
                      clear H69; intro a71 H71
                      refine fin ?_
                      refine then_n ?_
                      refine wp_ret ?_
                      refine then_r ?_
                      -- return 6
                      refine ret1 rfl H71 rfl ?_
                      refine ⟨_, [], rfl, ⟨?_, rfl⟩, H71.sep.sub (List.nil_sublist _)⟩
                      clear H71
                      try simp only [Decidable.not_not, show List.replicate 32 (0 : UInt8) = Note.Z from rfl] at *
                      first | (exact congrArg (Value.int .i64) (Txs.check_who (by first | (unfold Txs.okWho Txs.within; omega) | exact ⟨by assumption, by assumption⟩ | (unfold Txs.okWho; simp_all; done))).symm) | (exact congrArg (Value.int .i64) (Txs.check_arg (by first | (unfold Txs.okWho Txs.within; omega) | exact ⟨by assumption, by assumption⟩ | (unfold Txs.okWho; simp_all; done)) (by intro hh; obtain ⟨⟨a1, a2⟩, a3, a4⟩ := hh; first | exact absurd a1 (by assumption) | exact absurd a2 (by assumption) | exact absurd (a3 (by assumption)).1 (by assumption) | exact absurd (a3 (by assumption)).2 (by assumption) | (obtain ⟨b1, b2, b3⟩ := a4 (by assumption); simp_all))).symm) | (exact congrArg (Value.int .i64) (Txs.check_big (by first | (unfold Txs.okWho Txs.within; omega) | exact ⟨by assumption, by assumption⟩ | (unfold Txs.okWho; simp_all; done)) (by refine ⟨⟨by assumption, by assumption⟩, fun hl => ?_, fun hl => ?_⟩ <;> simp_all) (by omega)).symm) | (exact congrArg (Value.int .i64) (Txs.check_ok (by first | (unfold Txs.okWho Txs.within; omega) | exact ⟨by assumption, by assumption⟩ | (unfold Txs.okWho; simp_all; done)) (by refine ⟨⟨by assumption, by assumption⟩, fun hl => ?_, fun hl => ?_⟩ <;> simp_all) (by omega)).symm)
                    · skip
                      try simp only [decide_eq_true_eq, decide_eq_false_iff_not, Bool.not_eq_true', Bool.not_eq_false', Bool.and_eq_true, Bool.not_eq_true, Bool.not_eq_false] at hc70
                      refine wp_skip ?_
                      refine then_n ?_
                      refine wp_seq ?_
                      refine wp_seq ?_
                      refine reg ?_
                      refine plain (y_fieldB rfl z_field50_4 rfl (by first | (simp only [Nat.zero_add, Nat.add_zero, Nat.reduceAdd]; rfl) | rfl)) rfl rfl rfl H69 ?_
                      clear H69; intro a72 H72
                      refine plain (y_loadB rfl z_agg9 rfl (by repeat (first | exact Mh | apply Mt)) q_ix_c8b32b32_4) rfl rfl rfl H72 ?_
                      clear H72; intro a73 H73
                      refine plain (y_slen rfl Tryd.underlying9 rfl) rfl rfl rfl H73 ?_
                      clear H73; intro a74 H74
                      refine plain (y_gtr rfl rfl rfl) rfl rfl rfl H74 ?_
                      clear H74; intro a75 H75
                      refine fin ?_
                      refine then_n ?_
                      refine cnd H75 rfl (fun hc76 => ?_) (fun hc76 => ?_) -- cond 8
                      · skip
                        try simp only [decide_eq_true_eq, decide_eq_false_iff_not, Bool.not_eq_true', Bool.not_eq_false', Bool.and_eq_true, Bool.not_eq_true, Bool.not_eq_false] at hc76
                        refine wp_seq ?_
                        refine reg ?_
                        refine plain (y_assign rfl rfl) rfl rfl rfl H75 ?_
                        clear H75; intro a77 H77
                        refine fin ?_
                        refine then_n ?_
                        refine wp_ret ?_
                        refine then_r ?_
                        -- return 7
                        refine ret1 rfl H77 rfl ?_
                        refine ⟨_, [], rfl, ⟨?_, rfl⟩, H77.sep.sub (List.nil_sublist _)⟩
                        clear H77
                        try simp only [Decidable.not_not, show List.replicate 32 (0 : UInt8) = Note.Z from rfl] at *
                        first | (exact congrArg (Value.int .i64) (Txs.check_who (by first | (unfold Txs.okWho Txs.within; omega) | exact ⟨by assumption, by assumption⟩ | (unfold Txs.okWho; simp_all; done))).symm) | (exact congrArg (Value.int .i64) (Txs.check_arg (by first | (unfold Txs.okWho Txs.within; omega) | exact ⟨by assumption, by assumption⟩ | (unfold Txs.okWho; simp_all; done)) (by intro hh; obtain ⟨⟨a1, a2⟩, a3, a4⟩ := hh; first | exact absurd a1 (by assumption) | exact absurd a2 (by assumption) | exact absurd (a3 (by assumption)).1 (by assumption) | exact absurd (a3 (by assumption)).2 (by assumption) | (obtain ⟨b1, b2, b3⟩ := a4 (by assumption); simp_all))).symm) | (exact congrArg (Value.int .i64) (Txs.check_big (by first | (unfold Txs.okWho Txs.within; omega) | exact ⟨by assumption, by assumption⟩ | (unfold Txs.okWho; simp_all; done)) (by refine ⟨⟨by assumption, by assumption⟩, fun hl => ?_, fun hl => ?_⟩ <;> simp_all) (by omega)).symm) | (exact congrArg (Value.int .i64) (Txs.check_ok (by first | (unfold Txs.okWho Txs.within; omega) | exact ⟨by assumption, by assumption⟩ | (unfold Txs.okWho; simp_all; done)) (by refine ⟨⟨by assumption, by assumption⟩, fun hl => ?_, fun hl => ?_⟩ <;> simp_all) (by omega)).symm)
                      · skip
                        try simp only [decide_eq_true_eq, decide_eq_false_iff_not, Bool.not_eq_true', Bool.not_eq_false', Bool.and_eq_true, Bool.not_eq_true, Bool.not_eq_false] at hc76
                        refine wp_skip ?_
                        refine then_n ?_
                        refine wp_seq ?_
                        refine reg ?_
                        refine plain (y_assign rfl rfl) rfl rfl rfl H75 ?_
                        clear H75; intro a78 H78
                        refine fin ?_
                        refine then_n ?_
                        refine wp_ret ?_
                        -- return 8
                        refine ret1 rfl H78 rfl ?_
                        refine ⟨_, [], rfl, ⟨?_, rfl⟩, H78.sep.sub (List.nil_sublist _)⟩
                        clear H78
                        try simp only [Decidable.not_not, show List.replicate 32 (0 : UInt8) = Note.Z from rfl] at *
                        first | (exact congrArg (Value.int .i64) (Txs.check_who (by first | (unfold Txs.okWho Txs.within; omega) | exact ⟨by assumption, by assumption⟩ | (unfold Txs.okWho; simp_all; done))).symm) | (exact congrArg (Value.int .i64) (Txs.check_arg (by first | (unfold Txs.okWho Txs.within; omega) | exact ⟨by assumption, by assumption⟩ | (unfold Txs.okWho; simp_all; done)) (by intro hh; obtain ⟨⟨a1, a2⟩, a3, a4⟩ := hh; first | exact absurd a1 (by assumption) | exact absurd a2 (by assumption) | exact absurd (a3 (by assumption)).1 (by assumption) | exact absurd (a3 (by assumption)).2 (by assumption) | (obtain ⟨b1, b2, b3⟩ := a4 (by assumption); simp_all))).symm) | (exact congrArg (Value.int .i64) (Txs.check_big (by first | (unfold Txs.okWho Txs.within; omega) | exact ⟨by assumption, by assumption⟩ | (unfold Txs.okWho; simp_all; done)) (by refine ⟨⟨by assumption, by assumption⟩, fun hl => ?_, fun hl => ?_⟩ <;> simp_all) (by omega)).symm) | (exact congrArg (Value.int .i64) (Txs.check_ok (by first | (unfold Txs.okWho Txs.within; omega) | exact ⟨by assumption, by assumption⟩ | (unfold Txs.okWho; simp_all; done)) (by refine ⟨⟨by assumption, by assumption⟩, fun hl => ?_, fun hl => ?_⟩ <;> simp_all) (by omega)).symm)
              · skip
                try simp only [decide_eq_true_eq, decide_eq_false_iff_not, Bool.not_eq_true', Bool.not_eq_false', Bool.and_eq_true, Bool.not_eq_true, Bool.not_eq_false] at hc49
                refine wp_seq ?_
                refine reg ?_
                refine plain (y_fieldB rfl z_field50_6 rfl (by first | (simp only [Nat.zero_add, Nat.add_zero, Nat.reduceAdd]; rfl) | rfl)) rfl rfl rfl H48 ?_
                clear H48; intro a79 H79
                refine plain (y_loadB rfl z_agg3 rfl (by repeat (first | exact Mh | apply Mt)) q_ix_c8b32b32_6) rfl rfl rfl H79 ?_
                clear H79; intro a80 H80
                refine plain (y_neq rfl rfl rfl) rfl rfl rfl H80 ?_
                clear H80; intro a81 H81
                refine plain (y_move rfl rfl) rfl rfl rfl H81 ?_
                clear H81; intro a82 H82
                refine Sx.part (d := 38) H82 rfl (fun hg83 => ?_) (fun hg83 => ?_)
                · first
                  | fail
                  | skip
                    clear H82; intro H84
                    try simp only [decide_eq_true_eq, decide_eq_false_iff_not, Bool.not_eq_true', Bool.not_eq_false', Bool.and_eq_true, Bool.not_eq_true, Bool.not_eq_false] at hg83
                    refine skip rfl rfl rfl H84 ?_
                    clear H84; intro a85 H85
                    refine skip rfl rfl rfl H85 ?_
                    clear H85; intro a86 H86
                    refine skip rfl rfl rfl H86 ?_
                    clear H86; intro a87 H87
                    refine plain (y_pick_t rfl rfl rfl) rfl rfl rfl H87 ?_
                    clear H87; intro a88 H88
                    refine plain (y_move rfl rfl) rfl rfl rfl H88 ?_
                    clear H88; intro a89 H89
                    refine skip rfl rfl rfl H89 ?_
                    clear H89; intro a90 H90
                    refine skip rfl rfl rfl H90 ?_
                    clear H90; intro a91 H91
                    refine skip rfl rfl rfl H91 ?_
                    clear H91; intro a92 H92
                    refine skip rfl rfl rfl H92 ?_
                    clear H92; intro a93 H93
                    refine plain (y_pick_t rfl rfl rfl) rfl rfl rfl H93 ?_
                    clear H93; intro a94 H94
                    refine fin ?_
                    refine then_n ?_
                    refine cnd_t H94 rfl ?_
                    refine wp_seq ?_
                    refine reg ?_
                    refine plain (y_assign rfl rfl) rfl rfl rfl H94 ?_
                    clear H94; intro a96 H96
                    refine fin ?_
                    refine then_n ?_
                    refine wp_ret ?_
                    refine then_r ?_
                    -- return 9
                    refine ret1 rfl H96 rfl ?_
                    refine ⟨_, [], rfl, ⟨?_, rfl⟩, H96.sep.sub (List.nil_sublist _)⟩
                    clear H96
                    try simp only [Decidable.not_not, show List.replicate 32 (0 : UInt8) = Note.Z from rfl] at *
                    first | (exact congrArg (Value.int .i64) (Txs.check_who (by first | (unfold Txs.okWho Txs.within; omega) | exact ⟨by assumption, by assumption⟩ | (unfold Txs.okWho; simp_all; done))).symm) | (exact congrArg (Value.int .i64) (Txs.check_arg (by first | (unfold Txs.okWho Txs.within; omega) | exact ⟨by assumption, by assumption⟩ | (unfold Txs.okWho; simp_all; done)) (by intro hh; obtain ⟨⟨a1, a2⟩, a3, a4⟩ := hh; first | exact absurd a1 (by assumption) | exact absurd a2 (by assumption) | exact absurd (a3 (by assumption)).1 (by assumption) | exact absurd (a3 (by assumption)).2 (by assumption) | (obtain ⟨b1, b2, b3⟩ := a4 (by assumption); simp_all))).symm) | (exact congrArg (Value.int .i64) (Txs.check_big (by first | (unfold Txs.okWho Txs.within; omega) | exact ⟨by assumption, by assumption⟩ | (unfold Txs.okWho; simp_all; done)) (by refine ⟨⟨by assumption, by assumption⟩, fun hl => ?_, fun hl => ?_⟩ <;> simp_all) (by omega)).symm) | (exact congrArg (Value.int .i64) (Txs.check_ok (by first | (unfold Txs.okWho Txs.within; omega) | exact ⟨by assumption, by assumption⟩ | (unfold Txs.okWho; simp_all; done)) (by refine ⟨⟨by assumption, by assumption⟩, fun hl => ?_, fun hl => ?_⟩ <;> simp_all) (by omega)).symm)
                · first
                  | fail
                  | skip
                    clear H82; intro H97
                    try simp only [decide_eq_true_eq, decide_eq_false_iff_not, Bool.not_eq_true', Bool.not_eq_false', Bool.and_eq_true, Bool.not_eq_true, Bool.not_eq_false] at hg83
                    refine plain (y_fieldB rfl z_field50_7 rfl (by first | (simp only [Nat.zero_add, Nat.add_zero, Nat.reduceAdd]; rfl) | rfl)) rfl rfl rfl H97 ?_
                    clear H97; intro a98 H98
                    refine plain (y_loadB rfl z_agg3 rfl (by repeat (first | exact Mh | apply Mt)) q_ix_c8b32b32_7) rfl rfl rfl H98 ?_
                    clear H98; intro a99 H99
                    refine plain (y_neq rfl rfl rfl) rfl rfl rfl H99 ?_
                    clear H99; intro a100 H100
                    refine plain (y_pick_f rfl rfl rfl) rfl rfl rfl H100 ?_
                    clear H100; intro a101 H101
                    refine plain (y_move rfl rfl) rfl rfl rfl H101 ?_
                    clear H101; intro a102 H102
                    refine Sx.part (d := 43) H102 rfl (fun hg103 => ?_) (fun hg103 => ?_)
                    · first
                      | fail
                      | skip
                        clear H102; intro H104
                        try simp only [decide_eq_true_eq, decide_eq_false_iff_not, Bool.not_eq_true', Bool.not_eq_false', Bool.and_eq_true, Bool.not_eq_true, Bool.not_eq_false] at hg103
                        refine skip rfl rfl rfl H104 ?_
                        clear H104; intro a105 H105
                        refine skip rfl rfl rfl H105 ?_
                        clear H105; intro a106 H106
                        refine skip rfl rfl rfl H106 ?_
                        clear H106; intro a107 H107
                        refine skip rfl rfl rfl H107 ?_
                        clear H107; intro a108 H108
                        refine plain (y_pick_t rfl rfl rfl) rfl rfl rfl H108 ?_
                        clear H108; intro a109 H109
                        refine fin ?_
                        refine then_n ?_
                        refine cnd_t H109 rfl ?_
                        refine wp_seq ?_
                        refine reg ?_
                        refine plain (y_assign rfl rfl) rfl rfl rfl H109 ?_
                        clear H109; intro a111 H111
                        refine fin ?_
                        refine then_n ?_
                        refine wp_ret ?_
                        refine then_r ?_
                        -- return 10
                        refine ret1 rfl H111 rfl ?_
                        refine ⟨_, [], rfl, ⟨?_, rfl⟩, H111.sep.sub (List.nil_sublist _)⟩
                        clear H111
                        try simp only [Decidable.not_not, show List.replicate 32 (0 : UInt8) = Note.Z from rfl] at *
                        first | (exact congrArg (Value.int .i64) (Txs.check_who (by first | (unfold Txs.okWho Txs.within; omega) | exact ⟨by assumption, by assumption⟩ | (unfold Txs.okWho; simp_all; done))).symm) | (exact congrArg (Value.int .i64) (Txs.check_arg (by first | (unfold Txs.okWho Txs.within; omega) | exact ⟨by assumption, by assumption⟩ | (unfold Txs.okWho; simp_all; done)) (by intro hh; obtain ⟨⟨a1, a2⟩, a3, a4⟩ := hh; first | exact absurd a1 (by assumption) | exact absurd a2 (by assumption) | exact absurd (a3 (by assumption)).1 (by assumption) | exact absurd (a3 (by assumption)).2 (by assumption) | (obtain ⟨b1, b2, b3⟩ := a4 (by assumption); simp_all))).symm) | (exact congrArg (Value.int .i64) (Txs.check_big (by first | (unfold Txs.okWho Txs.within; omega) | exact ⟨by assumption, by assumption⟩ | (unfold Txs.okWho; simp_all; done)) (by refine ⟨⟨by assumption, by assumption⟩, fun hl => ?_, fun hl => ?_⟩ <;> simp_all) (by omega)).symm) | (exact congrArg (Value.int .i64) (Txs.check_ok (by first | (unfold Txs.okWho Txs.within; omega) | exact ⟨by assumption, by assumption⟩ | (unfold Txs.okWho; simp_all; done)) (by refine ⟨⟨by assumption, by assumption⟩, fun hl => ?_, fun hl => ?_⟩ <;> simp_all) (by omega)).symm)
                    · first
                      | fail
                      | skip
                        clear H102; intro H112
                        try simp only [decide_eq_true_eq, decide_eq_false_iff_not, Bool.not_eq_true', Bool.not_eq_false', Bool.and_eq_true, Bool.not_eq_true, Bool.not_eq_false] at hg103
                        refine plain (y_fieldB rfl z_field50_8 rfl (by first | (simp only [Nat.zero_add, Nat.add_zero, Nat.reduceAdd]; rfl) | rfl)) rfl rfl rfl H112 ?_
                        clear H112; intro a113 H113
                        refine plain (y_loadAB rfl z_agg28 z_size28 rfl (by repeat (first | exact Mh | apply Mt)) (q_ld_c8b32b32_8_32 (by assumption)) (q_len_b32 (by assumption))) rfl rfl rfl H113 ?_
                        clear H113; intro a114 H114
                        refine plain (y_buildA rfl z_zeroN28 Tryd.underlying28 z_size5 rfl lay_n) rfl rfl rfl H114 ?_
                        clear H114; intro a115 H115
                        refine plain (y_hneq rfl Tryd.eqGuardType28 Tryd.underlying28 Tryd.underlying5 z_size5 rfl rfl (by assumption) (by assumption)) rfl rfl rfl H115 ?_
                        clear H115; intro a116 H116
                        refine plain (y_pick_f rfl rfl rfl) rfl rfl rfl H116 ?_
                        clear H116; intro a117 H117
                        refine fin ?_
                        refine then_n ?_
                        refine cnd H117 rfl (fun hc118 => ?_) (fun hc118 => ?_) -- cond 11
                        · skip
                          try simp only [decide_eq_true_eq, decide_eq_false_iff_not, Bool.not_eq_true', Bool.not_eq_false', Bool.and_eq_true, Bool.not_eq_true, Bool.not_eq_false] at hc118
                          refine wp_seq ?_
                          refine reg ?_
                          refine plain (y_assign rfl rfl) rfl rfl rfl H117 ?_
                          clear H117; intro a119 H119
                          refine fin ?_
                          refine then_n ?_
                          refine wp_ret ?_
                          refine then_r ?_
                          -- return 11
                          refine ret1 rfl H119 rfl ?_
                          refine ⟨_, [], rfl, ⟨?_, rfl⟩, H119.sep.sub (List.nil_sublist _)⟩
                          clear H119
                          try simp only [Decidable.not_not, show List.replicate 32 (0 : UInt8) = Note.Z from rfl] at *
                          first | (exact congrArg (Value.int .i64) (Txs.check_who (by first | (unfold Txs.okWho Txs.within; omega) | exact ⟨by assumption, by assumption⟩ | (unfold Txs.okWho; simp_all; done))).symm) | (exact congrArg (Value.int .i64) (Txs.check_arg (by first | (unfold Txs.okWho Txs.within; omega) | exact ⟨by assumption, by assumption⟩ | (unfold Txs.okWho; simp_all; done)) (by intro hh; obtain ⟨⟨a1, a2⟩, a3, a4⟩ := hh; first | exact absurd a1 (by assumption) | exact absurd a2 (by assumption) | exact absurd (a3 (by assumption)).1 (by assumption) | exact absurd (a3 (by assumption)).2 (by assumption) | (obtain ⟨b1, b2, b3⟩ := a4 (by assumption); simp_all))).symm) | (exact congrArg (Value.int .i64) (Txs.check_big (by first | (unfold Txs.okWho Txs.within; omega) | exact ⟨by assumption, by assumption⟩ | (unfold Txs.okWho; simp_all; done)) (by refine ⟨⟨by assumption, by assumption⟩, fun hl => ?_, fun hl => ?_⟩ <;> simp_all) (by omega)).symm) | (exact congrArg (Value.int .i64) (Txs.check_ok (by first | (unfold Txs.okWho Txs.within; omega) | exact ⟨by assumption, by assumption⟩ | (unfold Txs.okWho; simp_all; done)) (by refine ⟨⟨by assumption, by assumption⟩, fun hl => ?_, fun hl => ?_⟩ <;> simp_all) (by omega)).symm)
                        · skip
                          try simp only [decide_eq_true_eq, decide_eq_false_iff_not, Bool.not_eq_true', Bool.not_eq_false', Bool.and_eq_true, Bool.not_eq_true, Bool.not_eq_false] at hc118
                          refine wp_skip ?_
                          refine then_n ?_
                          refine wp_seq ?_
                          refine wp_seq ?_
                          refine reg ?_
                          refine plain (y_fieldB rfl z_field50_4 rfl (by first | (simp only [Nat.zero_add, Nat.add_zero, Nat.reduceAdd]; rfl) | rfl)) rfl rfl rfl H117 ?_
                          clear H117; intro a120 H120
                          refine plain (y_loadB rfl z_agg9 rfl (by repeat (first | exact Mh | apply Mt)) q_ix_c8b32b32_4) rfl rfl rfl H120 ?_
                          clear H120; intro a121 H121
                          refine plain (y_slen rfl Tryd.underlying9 rfl) rfl rfl rfl H121 ?_
                          clear H121; intro a122 H122
                          refine plain (y_gtr rfl rfl rfl) rfl rfl rfl H122 ?_
                          clear H122; intro a123 H123
                          refine fin ?_
                          refine then_n ?_
                          refine cnd H123 rfl (fun hc124 => ?_) (fun hc124 => ?_) -- cond 12
                          · skip
                            try simp only [decide_eq_true_eq, decide_eq_false_iff_not, Bool.not_eq_true', Bool.not_eq_false', Bool.and_eq_true, Bool.not_eq_true, Bool.not_eq_false] at hc124
                            refine wp_seq ?_
                            refine reg ?_
                            refine plain (y_assign rfl rfl) rfl rfl rfl H123 ?_
                            clear H123; intro a125 H125
                            refine fin ?_
                            refine then_n ?_
                            refine wp_ret ?_
                            refine then_r ?_
                            -- return 12
                            refine ret1 rfl H125 rfl ?_
                            refine ⟨_, [], rfl, ⟨?_, rfl⟩, H125.sep.sub (List.nil_sublist _)⟩
                            clear H125
                            try simp only [Decidable.not_not, show List.replicate 32 (0 : UInt8) = Note.Z from rfl] at *
                            first | (exact congrArg (Value.int .i64) (Txs.check_who (by first | (unfold Txs.okWho Txs.within; omega) | exact ⟨by assumption, by assumption⟩ | (unfold Txs.okWho; simp_all; done))).symm) | (exact congrArg (Value.int .i64) (Txs.check_arg (by first | (unfold Txs.okWho Txs.within; omega) | exact ⟨by assumption, by assumption⟩ | (unfold Txs.okWho; simp_all; done)) (by intro hh; obtain ⟨⟨a1, a2⟩, a3, a4⟩ := hh; first | exact absurd a1 (by assumption) | exact absurd a2 (by assumption) | exact absurd (a3 (by assumption)).1 (by assumption) | exact absurd (a3 (by assumption)).2 (by assumption) | (obtain ⟨b1, b2, b3⟩ := a4 (by assumption); simp_all))).symm) | (exact congrArg (Value.int .i64) (Txs.check_big (by first | (unfold Txs.okWho Txs.within; omega) | exact ⟨by assumption, by assumption⟩ | (unfold Txs.okWho; simp_all; done)) (by refine ⟨⟨by assumption, by assumption⟩, fun hl => ?_, fun hl => ?_⟩ <;> simp_all) (by omega)).symm) | (exact congrArg (Value.int .i64) (Txs.check_ok (by first | (unfold Txs.okWho Txs.within; omega) | exact ⟨by assumption, by assumption⟩ | (unfold Txs.okWho; simp_all; done)) (by refine ⟨⟨by assumption, by assumption⟩, fun hl => ?_, fun hl => ?_⟩ <;> simp_all) (by omega)).symm)
                          · skip
                            try simp only [decide_eq_true_eq, decide_eq_false_iff_not, Bool.not_eq_true', Bool.not_eq_false', Bool.and_eq_true, Bool.not_eq_true, Bool.not_eq_false] at hc124
                            refine wp_skip ?_
                            refine then_n ?_
                            refine wp_seq ?_
                            refine reg ?_
                            refine plain (y_assign rfl rfl) rfl rfl rfl H123 ?_
                            clear H123; intro a126 H126
                            refine fin ?_
                            refine then_n ?_
                            refine wp_ret ?_
                            -- return 13
                            refine ret1 rfl H126 rfl ?_
                            refine ⟨_, [], rfl, ⟨?_, rfl⟩, H126.sep.sub (List.nil_sublist _)⟩
                            clear H126
                            try simp only [Decidable.not_not, show List.replicate 32 (0 : UInt8) = Note.Z from rfl] at *
                            first | (exact congrArg (Value.int .i64) (Txs.check_who (by first | (unfold Txs.okWho Txs.within; omega) | exact ⟨by assumption, by assumption⟩ | (unfold Txs.okWho; simp_all; done))).symm) | (exact congrArg (Value.int .i64) (Txs.check_arg (by first | (unfold Txs.okWho Txs.within; omega) | exact ⟨by assumption, by assumption⟩ | (unfold Txs.okWho; simp_all; done)) (by intro hh; obtain ⟨⟨a1, a2⟩, a3, a4⟩ := hh; first | exact absurd a1 (by assumption) | exact absurd a2 (by assumption) | exact absurd (a3 (by assumption)).1 (by assumption) | exact absurd (a3 (by assumption)).2 (by assumption) | (obtain ⟨b1, b2, b3⟩ := a4 (by assumption); simp_all))).symm) | (exact congrArg (Value.int .i64) (Txs.check_big (by first | (unfold Txs.okWho Txs.within; omega) | exact ⟨by assumption, by assumption⟩ | (unfold Txs.okWho; simp_all; done)) (by refine ⟨⟨by assumption, by assumption⟩, fun hl => ?_, fun hl => ?_⟩ <;> simp_all) (by omega)).symm) | (exact congrArg (Value.int .i64) (Txs.check_ok (by first | (unfold Txs.okWho Txs.within; omega) | exact ⟨by assumption, by assumption⟩ | (unfold Txs.okWho; simp_all; done)) (by refine ⟨⟨by assumption, by assumption⟩, fun hl => ?_, fun hl => ?_⟩ <;> simp_all) (by omega)).symm)

end Go.Proofs.YtaeahloenahelaaDoor.A_Tx

set_option linter.unusedVariables false
set_option linter.unusedSimpArgs false
namespace Go.Proofs.YtaeahloenahelaaDoor.A_Num
open Go.Sx Go.RowKit

theorem z_zero145 : zeroL Tryd.prog 145 = some ([.int .u8 0, .int .u8 0, .int .u8 0, .int .u8 0, .int .u8 0, .int .u8 0, .int .u8 0, .int .u8 0, .int .u8 0]) := by kernel_rfl
theorem z_size5 : sizeB Tryd.prog 5 = some 1 := by kernel_rfl
theorem z_zero5 : zeroL Tryd.prog 5 = some ([.int .u8 0]) := by kernel_rfl
theorem z_size9 : sizeB Tryd.prog 9 = some 1 := by kernel_rfl
theorem z_agg9 : aggB Tryd.prog 9 = some false := by kernel_rfl
theorem z_slice118 : sliceB Tryd.prog 118 = some (5, 1, 1) := by kernel_rfl
theorem z_zval5 : (Tryd.prog.info? 5).bind (·.zero) = some (.int .u8 0) := by kernel_rfl
theorem z_call82 : callB Tryd.prog 82 = true := by kernel_rfl
theorem z_zero9 : zeroL Tryd.prog 9 = some ([.string ⟨#[]⟩]) := by kernel_rfl
theorem z_call101 : callB Tryd.prog 101 = true := by kernel_rfl
theorem z_call96 : callB Tryd.prog 96 = true := by kernel_rfl
theorem z_call100 : callB Tryd.prog 100 = true := by kernel_rfl
theorem z_slice122 : sliceB Tryd.prog 122 = some (9, 1, 16) := by kernel_rfl
theorem z_notint122 : notIntB Tryd.prog 122 = true := by kernel_rfl
theorem z_call106 : callB Tryd.prog 106 = true := by kernel_rfl
theorem z_notint9 : notIntB Tryd.prog 9 = true := by kernel_rfl

theorem set_lows (m j : Nat) (hj : j ≤ 7) : (List.replicate (9 - j) (Value.int .u8 0) ++ (Oct.lows j m).map u8).set (0 + (9 - (j : Int) - 1).toNat * 1) (u8 (UInt8.ofNat (m / 256 ^ j))) = List.replicate (9 - (j + 1)) (.int .u8 0) ++ (Oct.lows (j + 1) m).map u8 := by
  have e1 : 0 + (9 - (j : Int) - 1).toNat * 1 = 8 - j := by omega
  have e2 : 9 - j = (8 - j) + 1 := by omega
  have e3 : 9 - (j + 1) = 8 - j := by omega
  rw [e1, e2, e3, List.replicate_succ', List.append_assoc, List.set_append_right _ _ (by simp)]
  simp [Oct.lows]
theorem shr8 (m j : Nat) : Int.fdiv ((m / 256 ^ j : Nat) : Int) (2 ^ (min (Int.toNat 8) IntKind.i64.bits)) = ((m / 256 ^ (j + 1) : Nat) : Int) := by
  have e : (2 : Int) ^ (min (Int.toNat 8) IntKind.i64.bits) = ((256 : Nat) : Int) := by decide
  rw [e, ← Oct.div_pow_succ, Int.fdiv_eq_ediv_of_nonneg _ (by omega)]
  rfl
theorem drop_lows (m j : Nat) (hj : j ≤ 8) (hb : Oct.blen m = j) : ((List.replicate (9 - j) (Value.int .u8 0) ++ (Oct.lows j m).map u8).set (0 + (9 - (j : Int) - 1).toNat * 1) (u8 (UInt8.ofNat j))).drop (8 - j) = (Oct.numL m).map u8 := by
  have e1 : 0 + (9 - (j : Int) - 1).toNat * 1 = 8 - j := by omega
  have e2 : 9 - j = (8 - j) + 1 := by omega
  rw [e1, e2, List.replicate_succ', List.append_assoc, List.set_append_right _ _ (by simp)]
  simp [Oct.numL, hb]
theorem conv_rem' (x : Nat) : IntKind.u8.wrap (Int.tmod (x : Int) 256) = ((UInt8.ofNat x).toNat : Int) := by
  rw [Int.tmod_eq_emod_of_nonneg (by omega), wu8_mod, UInt8.toNat_ofNat']
  omega
theorem conv_rem (m j : Nat) : IntKind.u8.wrap (Int.tmod ((m / 256 ^ j : Nat) : Int) 256) = ((UInt8.ofNat (m / 256 ^ j)).toNat : Int) := conv_rem' _
theorem quo8' (x m : Nat) (h1 : x ≤ m) (hm : m ≤ 9223372036854775807) : IntKind.i64.wrap (Int.tdiv (x : Int) 256) = ((x / 256 : Nat) : Int) := by
  rw [Int.tdiv_eq_ediv_of_nonneg (by omega), w64 (by omega) (by omega)]
  omega
theorem quo8 (m j : Nat) (hm : m ≤ 9223372036854775807 := by omega) : IntKind.i64.wrap (Int.tdiv ((m / 256 ^ j : Nat) : Int) 256) = ((m / 256 ^ (j + 1) : Nat) : Int) := by
  rw [← Oct.div_pow_succ]
  exact quo8' _ m (Nat.div_le_self _ _) hm
theorem made_u8 (m : Nat) : (madeCells #[Value.int .u8 0] (m * 1)).toList = List.replicate m (.int .u8 0) := by rw [Nat.mul_one, toList_madeCells_one]
theorem spl_join (l : List (List UInt8)) (k : Nat) (hk : k < l.length) : spl ((Oct.tf l k).map u8 ++ List.replicate (l.flatten.length - (Oct.tf l k).length) (Value.int .u8 0)) (Oct.tf l k).length ((l.getD k []).map u8) = (Oct.tf l (k + 1)).map u8 ++ List.replicate (l.flatten.length - (Oct.tf l (k + 1)).length) (Value.int .u8 0) := by
  have h := Oct.len_le_flatten hk
  rw [Oct.tf_succ hk]
  unfold spl
  rw [List.take_left' (by simp), List.drop_append, List.drop_eq_nil_of_le (by simp), List.nil_append]
  simp only [List.map_append, List.append_assoc, List.length_append, List.length_map, List.drop_replicate]
  congr 3
  omega

set_option maxRecDepth 100000 in
set_option maxHeartbeats 1000000 in
theorem num (n : Int) (hn : n ≤ 9223372036854775807) (w : World) : Calls Tryd.prog 82 #[.int .i64 n] w (Gives (.tuple #[str (Oct.number n).1, .int .i64 (Oct.number n).2]) [] w) := by
  refine enterL (args := [.int .i64 n]) Tryd.func82 rfl rfl (l := []) (Sep.refl _) ?_
  intro a0 H0
  refine wp_seq ?_
  refine reg ?_
  refine plain (y_assign rfl rfl) rfl rfl rfl H0 ?_
  clear H0; intro a1 H1
  refine plain (y_assign rfl rfl) rfl rfl rfl H1 ?_
  clear H1; intro a2 H2
  refine fin ?_
  refine then_n ?_
  refine wp_seq ?_
  refine wp_seq ?_
  refine reg ?_
  refine plain (y_move rfl rfl) rfl rfl rfl H2 ?_
  clear H2; intro a3 H3
  refine plain (y_lss rfl rfl rfl) rfl rfl rfl H3 ?_
  clear H3; intro a4 H4
  refine fin ?_
  refine then_n ?_
  refine cnd_d H4 rfl (fun hc5 => ?_) (fun hc5 => ?_) -- cond 1
  · skip
    refine wp_seq ?_
    refine reg ?_
    refine plain (y_assign rfl rfl) rfl rfl rfl H4 ?_
    clear H4; intro a6 H6
    refine plain (y_assign rfl rfl) rfl rfl rfl H6 ?_
    clear H6; intro a7 H7
    refine fin ?_
    refine then_n ?_
    refine wp_ret ?_
    refine then_r ?_
    -- return 1
    refine ret2 rfl H7 rfl rfl ?_
    exact ⟨_, [], rfl, ⟨by simp [Oct.number, *], rfl⟩, H7.sep.sub (List.nil_sublist _)⟩
  · skip
    obtain ⟨m, rfl⟩ := Int.eq_ofNat_of_zero_le (Int.not_lt.1 hc5)
    refine wp_skip ?_
    refine then_n ?_
    refine wp_seq ?_
    refine reg ?_
    refine st_alloc rfl z_zero145 rfl rfl rfl H4 ?_
    clear H4; intro b8 a8 wx8 H8
    refine fin ?_
    refine then_n ?_
    refine wp_seq ?_
    refine reg ?_
    refine plain (y_assign rfl rfl) rfl rfl rfl H8 ?_
    clear H8; intro a9 H9
    refine fin ?_
    refine then_n ?_
    refine wp_seq ?_
    refine wp_block ?_
    refine loop (ι := Nat) (fun j => [(0, .int .i64 ((m / 256 ^ j : Nat) : Int)), (4, .pointer (some ⟨b8, 0, none⟩)), (5, .int .i64 (9 - (j : Int)))]) (fun j => [It.blk b8 145 (List.replicate (9 - j) (.int .u8 0) ++ (Oct.lows j m).map u8)]) (fun j => j ≤ 8 ∧ (j = 0 ∨ 256 ^ (j - 1) ≤ m)) (fun j => 9 - j) (0) ⟨by omega, .inl rfl⟩ (H9.weak ⟨fi rfl (by simp), rfl, rfl, trivial⟩ rfl) ?_
    clear H9; intro j a10 wx10 hok10 H10
    have hok := hok10
    refine wp_seq ?_
    refine wp_seq ?_
    refine reg ?_
    refine plain (y_move rfl rfl) rfl rfl rfl H10 ?_
    clear H10; intro a11 H11
    refine plain (y_gtr rfl rfl rfl) rfl rfl rfl H11 ?_
    clear H11; intro a12 H12
    refine fin ?_
    refine then_n ?_
    refine cnd_d H12 rfl (fun hc13 => ?_) (fun hc13 => ?_) -- cond 2
    · skip
      obtain ⟨hj, hle⟩ := Oct.round_pos' (m := m) (j := j) (by omega) hc13
      refine wp_skip ?_
      refine then_n ?_
      refine wp_seq ?_
      refine wp_block ?_
      refine wp_seq ?_
      refine reg ?_
      refine plain (y_move rfl rfl) rfl rfl rfl H12 ?_
      clear H12; intro a14 H14
      refine plain (y_sub rfl rfl rfl (by first | exact w64 (by omega) (by omega) | rfl)) rfl rfl rfl H14 ?_
      clear H14; intro a15 H15
      refine plain (y_assign rfl rfl) rfl rfl rfl H15 ?_
      clear H15; intro a16 H16
      refine fin ?_
      refine then_n ?_
      refine reg ?_
      refine plain (y_move rfl rfl) rfl rfl rfl H16 ?_
      clear H16; intro a17 H17
      refine plain (y_move rfl rfl) rfl rfl rfl H17 ?_
      clear H17; intro a18 H18
      refine plain (y_conv rfl Tryd.underlying3 Tryd.underlying5 rfl (wu8_nat _)) rfl rfl rfl H18 ?_
      clear H18; intro a19 H19
      refine plain (y_ixA rfl Tryd.underlying145 z_size5 rfl rfl (by omega) (by omega) rfl) rfl rfl rfl H19 ?_
      clear H19; intro a20 H20
      refine st_store1 rfl z_size5 rfl rfl rfl (by repeat (first | exact Uh | apply Ut)) (by first | decide | (simp; omega)) rfl rfl H20 ?_
      clear H20; intro wx21 H21
      refine fin ?_
      refine inb_n ?_
      refine then_n ?_
      refine reg ?_
      refine plain (y_move rfl rfl) rfl rfl rfl H21 ?_
      clear H21; intro a22 H22
      refine plain (y_shr rfl rfl rfl (by decide) (shr8 m j)) rfl rfl rfl H22 ?_
      clear H22; intro a23 H23
      refine plain (y_assign rfl rfl) rfl rfl rfl H23 ?_
      clear H23; intro a24 H24
      refine fin ?_
      refine then_n ?_
      refine ⟨j + 1, by omega, ⟨by omega, .inr (by simpa using hle)⟩, H24.weak ⟨rfl, rfl, fi rfl (by omega), trivial⟩ (ib (set_lows m j hj))⟩
    · skip
      have hb : Oct.blen m = j := Oct.round_zero' hc13 hok.2
      refine wp_exit ?_
      refine then_x ?_
      refine then_x ?_
      refine inb_hit ?_
      refine then_n ?_
      refine wp_seq ?_
      refine reg ?_
      refine plain (y_move rfl rfl) rfl rfl rfl H12 ?_
      clear H12; intro a25 H25
      refine plain (y_sub rfl rfl rfl (by first | exact w64 (by omega) (by omega) | rfl)) rfl rfl rfl H25 ?_
      clear H25; intro a26 H26
      refine plain (y_move rfl rfl) rfl rfl rfl H26 ?_
      clear H26; intro a27 H27
      refine plain (y_sub rfl rfl rfl (by first | exact w64 (by omega) (by omega) | rfl)) rfl rfl rfl H27 ?_
      clear H27; intro a28 H28
      refine plain (y_conv rfl Tryd.underlying3 Tryd.underlying5 rfl (wu8_eq (x := j) (by omega))) rfl rfl rfl H28 ?_
      clear H28; intro a29 H29
      refine plain (y_ixA rfl Tryd.underlying145 z_size5 rfl rfl (by omega) (by omega) rfl) rfl rfl rfl H29 ?_
      clear H29; intro a30 H30
      refine st_store1 rfl z_size5 rfl rfl rfl (by repeat (first | exact Uh | apply Ut)) (by first | decide | (simp; omega)) rfl rfl H30 ?_
      clear H30; intro wx31 H31
      refine fin ?_
      refine then_n ?_
      refine wp_seq ?_
      refine reg ?_
      refine plain (y_move rfl rfl) rfl rfl rfl H31 ?_
      clear H31; intro a32 H32
      refine plain (y_sub rfl rfl rfl (by first | exact w64 (by omega) (by omega) | rfl)) rfl rfl rfl H32 ?_
      clear H32; intro a33 H33
      refine plain (y_slA rfl Tryd.underlying145 z_size5 rfl rfl (by omega) (by omega)) rfl rfl rfl H33 ?_
      clear H33; intro a34 H34
      refine plain (y_bstr rfl Tryd.underlying118 Tryd.underlying5 Tryd.underlying9 rfl (by simp [Oct.lows_length, Oct.numL, hb]; omega) (rd_slA (by repeat (first | exact Mh | apply Mt)) (q := 8 - j) (by simp [Oct.lows_length]; omega) (by omega) (drop_lows m j hok.1 hb))) rfl rfl rfl H34 ?_
      clear H34; intro a35 H35
      refine plain (y_assign rfl rfl) rfl rfl rfl H35 ?_
      clear H35; intro a36 H36
      refine plain (y_assign rfl rfl) rfl rfl rfl H36 ?_
      clear H36; intro a37 H37
      refine fin ?_
      refine then_n ?_
      refine wp_ret ?_
      -- return 2
      refine ret2 rfl H37 rfl rfl ?_
      exact ⟨_, [], rfl, ⟨by simp [Oct.number, show ¬ ((m : Int) < 0) by omega], rfl⟩, H37.sep.sub (List.nil_sublist _)⟩
set_option maxRecDepth 100000 in
set_option maxHeartbeats 1000000 in
theorem numR (n : Int) (hn : n ≤ 9223372036854775807) (w : World) : Calls Tryd.prog 96 #[.int .i64 n] w (Gives (.tuple #[str (Oct.number n).1, .int .i64 (Oct.number n).2]) [] w) := by
  refine enterL (args := [.int .i64 n]) Tryd.func96 rfl rfl (l := []) (Sep.refl _) ?_
  intro a0 H0
  refine wp_seq ?_
  refine reg ?_
  refine plain (y_assign rfl rfl) rfl rfl rfl H0 ?_
  clear H0; intro a1 H1
  refine plain (y_assign rfl rfl) rfl rfl rfl H1 ?_
  clear H1; intro a2 H2
  refine fin ?_
  refine then_n ?_
  refine wp_seq ?_
  refine wp_seq ?_
  refine reg ?_
  refine plain (y_move rfl rfl) rfl rfl rfl H2 ?_
  clear H2; intro a3 H3
  refine plain (y_lss rfl rfl rfl) rfl rfl rfl H3 ?_
  clear H3; intro a4 H4
  refine fin ?_
  refine then_n ?_
  refine cnd_d H4 rfl (fun hc5 => ?_) (fun hc5 => ?_) -- cond 1
  · skip
    refine wp_seq ?_
    refine reg ?_
    refine plain (y_assign rfl rfl) rfl rfl rfl H4 ?_
    clear H4; intro a6 H6
    refine plain (y_assign rfl rfl) rfl rfl rfl H6 ?_
    clear H6; intro a7 H7
    refine fin ?_
    refine then_n ?_
    refine wp_ret ?_
    refine then_r ?_
    -- return 1
    refine ret2 rfl H7 rfl rfl ?_
    exact ⟨_, [], rfl, ⟨by simp [Oct.number, *], rfl⟩, H7.sep.sub (List.nil_sublist _)⟩
  · skip
    obtain ⟨m, rfl⟩ := Int.eq_ofNat_of_zero_le (Int.not_lt.1 hc5)
    refine wp_skip ?_
    refine then_n ?_
    refine wp_seq ?_
    refine reg ?_
    refine plain (y_assign rfl rfl) rfl rfl rfl H4 ?_
    clear H4; intro a8 H8
    refine fin ?_
    refine then_n ?_
    refine wp_seq ?_
    refine reg ?_
    refine plain (y_assign rfl rfl) rfl rfl rfl H8 ?_
    clear H8; intro a9 H9
    refine fin ?_
    refine then_n ?_
    refine wp_seq ?_
    refine wp_block ?_
    refine loop (ι := Nat) (fun j => [(0, .int .i64 ((m / 256 ^ j : Nat) : Int)), (4, str (Oct.lows j m)), (5, .int .i64 (j : Int))]) (fun j => []) (fun j => j ≤ 8 ∧ (j = 0 ∨ 256 ^ (j - 1) ≤ m)) (fun j => 9 - j) (0) ⟨by omega, .inl rfl⟩ (H9.weak ⟨fi rfl (by simp), rfl, rfl, trivial⟩ rfl) ?_
    clear H9; intro j a10 wx10 hok10 H10
    have hok := hok10
    refine wp_seq ?_
    refine wp_seq ?_
    refine reg ?_
    refine plain (y_move rfl rfl) rfl rfl rfl H10 ?_
    clear H10; intro a11 H11
    refine plain (y_gtr rfl rfl rfl) rfl rfl rfl H11 ?_
    clear H11; intro a12 H12
    refine fin ?_
    refine then_n ?_
    refine cnd_d H12 rfl (fun hc13 => ?_) (fun hc13 => ?_) -- cond 2
    · skip
      obtain ⟨hj, hle⟩ := Oct.round_pos' (m := m) (j := j) (by omega) hc13
      refine wp_skip ?_
      refine then_n ?_
      refine wp_block ?_
      refine wp_seq ?_
      refine reg ?_
      refine plain (y_move rfl rfl) rfl rfl rfl H12 ?_
      clear H12; intro a14 H14
      refine plain (y_rem rfl rfl rfl (by first | decide | omega) rfl) rfl rfl rfl H14 ?_
      clear H14; intro a15 H15
      refine plain (y_conv rfl Tryd.underlying3 Tryd.underlying5 rfl (conv_rem m j)) rfl rfl rfl H15 ?_
      clear H15; intro a16 H16
      refine st_buildSlice1 (xs := [.tmp 12]) rfl Tryd.underlying118 z_size5 z_zero5 rfl rfl rfl rfl rfl rfl rfl rfl rfl H16 ?_
      clear H16; intro b17 a17 wx17 H17
      refine plain (y_bstr (p := [UInt8.ofNat (m / 256 ^ j)]) rfl Tryd.underlying118 Tryd.underlying5 Tryd.underlying9 rfl (by rfl) (rd_blk (off := 0) (by repeat (first | exact Mh | apply Mt)) 1 rfl)) rfl rfl rfl H17 ?_
      clear H17; intro a18 H18
      refine plain (y_move rfl rfl) rfl rfl rfl H18 ?_
      clear H18; intro a19 H19
      refine plain (y_sadd rfl rfl rfl (by simp [Oct.lows_length]; omega)) rfl rfl rfl H19 ?_
      clear H19; intro a20 H20
      refine plain (y_assign rfl rfl) rfl rfl rfl H20 ?_
      clear H20; intro a21 H21
      refine fin ?_
      refine then_n ?_
      refine wp_seq ?_
      refine reg ?_
      refine plain (y_move rfl rfl) rfl rfl rfl H21 ?_
      clear H21; intro a22 H22
      refine plain (y_quo rfl rfl rfl (by first | decide | omega) (quo8 m j)) rfl rfl rfl H22 ?_
      clear H22; intro a23 H23
      refine plain (y_assign rfl rfl) rfl rfl rfl H23 ?_
      clear H23; intro a24 H24
      refine fin ?_
      refine then_n ?_
      refine reg ?_
      refine plain (y_move rfl rfl) rfl rfl rfl H24 ?_
      clear H24; intro a25 H25
      refine plain (y_add rfl rfl rfl (by first | exact w64 (by omega) (by omega) | rfl)) rfl rfl rfl H25 ?_
      clear H25; intro a26 H26
      refine plain (y_assign rfl rfl) rfl rfl rfl H26 ?_
      clear H26; intro a27 H27
      refine fin ?_
      refine inb_n ?_
      refine then_n ?_
      refine ⟨j + 1, by omega, ⟨by omega, .inr (by simpa using hle)⟩, (H27.drop (List.nil_sublist _)).weak ⟨rfl, rfl, fi rfl (by omega), trivial⟩ rfl⟩
    · skip
      have hb : Oct.blen m = j := Oct.round_zero' hc13 hok.2
      refine wp_exit ?_
      refine then_x ?_
      refine then_x ?_
      refine inb_hit ?_
      refine then_n ?_
      refine wp_seq ?_
      refine reg ?_
      refine plain (y_move rfl rfl) rfl rfl rfl H12 ?_
      clear H12; intro a28 H28
      refine plain (y_conv rfl Tryd.underlying3 Tryd.underlying5 rfl (wu8_nat _)) rfl rfl rfl H28 ?_
      clear H28; intro a29 H29
      refine st_buildSlice1 (xs := [.tmp 22]) rfl Tryd.underlying118 z_size5 z_zero5 rfl rfl rfl rfl rfl rfl rfl rfl rfl H29 ?_
      clear H29; intro b30 a30 wx30 H30
      refine plain (y_bstr (p := [UInt8.ofNat j]) rfl Tryd.underlying118 Tryd.underlying5 Tryd.underlying9 rfl (by rfl) (rd_blk (off := 0) (by repeat (first | exact Mh | apply Mt)) 1 rfl)) rfl rfl rfl H30 ?_
      clear H30; intro a31 H31
      refine plain (y_move rfl rfl) rfl rfl rfl H31 ?_
      clear H31; intro a32 H32
      refine plain (y_sadd rfl rfl rfl (by simp [Oct.lows_length]; omega)) rfl rfl rfl H32 ?_
      clear H32; intro a33 H33
      refine plain (y_assign rfl rfl) rfl rfl rfl H33 ?_
      clear H33; intro a34 H34
      refine plain (y_assign rfl rfl) rfl rfl rfl H34 ?_
      clear H34; intro a35 H35
      refine fin ?_
      refine then_n ?_
      refine wp_ret ?_
      -- return 2
      refine ret2 rfl H35 rfl rfl ?_
      exact ⟨_, [], rfl, ⟨by simp [Oct.number, show ¬ ((m : Int) < 0) by omega, Oct.numL, hb], rfl⟩, H35.sep.sub (List.nil_sublist _)⟩
set_option maxRecDepth 100000 in
set_option maxHeartbeats 1000000 in
theorem join (l : List (List UInt8)) (A : Option Addr) (m c : Nat) (hm : m = l.length) {w : World} (hR : Rd w A (l.map str)) (hl : l.length ≤ 9223372036854775807) (hb : l.flatten.length ≤ 140737488351232) : Calls Tryd.prog 101 #[.slice A m c] w (Gives (str l.flatten) [] w) := by
  subst hm
  refine enterL (args := [.slice A l.length c]) Tryd.func101 rfl rfl (l := []) (Sep.refl _) ?_
  intro a0 H0
  refine wp_seq ?_
  refine reg ?_
  refine plain (y_assign rfl rfl) rfl rfl rfl H0 ?_
  clear H0; intro a1 H1
  refine fin ?_
  refine then_n ?_
  refine wp_seq ?_
  refine reg ?_
  refine plain (y_assign rfl rfl) rfl rfl rfl H1 ?_
  clear H1; intro a2 H2
  refine fin ?_
  refine then_n ?_
  refine wp_seq ?_
  refine wp_seq ?_
  refine reg ?_
  refine plain (y_move rfl rfl) rfl rfl rfl H2 ?_
  clear H2; intro a3 H3
  refine plain (y_len rfl Tryd.underlying122 rfl) rfl rfl rfl H3 ?_
  clear H3; intro a4 H4
  refine plain (y_move rfl rfl) rfl rfl rfl H4 ?_
  clear H4; intro a5 H5
  refine fin ?_
  refine then_n ?_
  refine wp_block ?_
  refine loop (ι := Nat) (fun k => [(0, .slice A l.length c), (3, .int .i64 ((Oct.tf l k).length : Int)), (10, .slice A l.length c), (11, .int .i64 (l.length : Int)), (12, .int .i64 (k : Int))]) (fun k => []) (fun k => k ≤ l.length) (fun k => l.length - k) (0) (by omega) (H5.weak ⟨rfl, fi rfl (by simp [Oct.tf_zero]), rfl, rfl, rfl, trivial⟩ rfl) ?_
  clear H5; intro k a6 wx6 hok6 H6
  have hok := hok6
  have hle := Oct.tf_le l k
  have hlk := fun h : k < l.length => Oct.len_le_flatten (l := l) (k := k) h
  have hsl := fun h : k < l.length => Oct.tf_succ (l := l) (k := k) h
  refine wp_seq ?_
  refine reg ?_
  refine plain (y_lss rfl rfl rfl) rfl rfl rfl H6 ?_
  clear H6; intro a7 H7
  refine fin ?_
  refine then_n ?_
  refine wp_seq ?_
  refine cnd_d H7 rfl (fun hc8 => ?_) (fun hc8 => ?_) -- cond 1
  · skip
    refine wp_skip ?_
    refine then_n ?_
    refine wp_seq ?_
    refine wp_block ?_
    refine wp_seq ?_
    refine reg ?_
    refine plain (y_ixR rfl Tryd.underlying122 z_size9 rfl rfl (by omega) (by omega) (rd_old (by assumption) (by simp)) (by simp; omega)) rfl rfl rfl H7 ?_
    clear H7; intro a9 H9
    refine plain (y_loadR rfl z_agg9 rfl (rd_old (by assumption) (by simp)) (by simp only [Int.toNat_natCast, Nat.mul_one, Nat.add_zero]; exact map_get _ _ _ [] (by omega))) rfl rfl rfl H9 ?_
    clear H9; intro a10 H10
    refine plain (y_assign rfl rfl) rfl rfl rfl H10 ?_
    clear H10; intro a11 H11
    refine fin ?_
    refine then_n ?_
    refine reg ?_
    refine plain (y_move rfl rfl) rfl rfl rfl H11 ?_
    clear H11; intro a12 H12
    refine plain (y_move rfl rfl) rfl rfl rfl H12 ?_
    clear H12; intro a13 H13
    refine plain (y_slen rfl Tryd.underlying9 rfl) rfl rfl rfl H13 ?_
    clear H13; intro a14 H14
    refine plain (y_add rfl rfl rfl (w64 (by omega) (by have := hlk (by omega); omega))) rfl rfl rfl H14 ?_
    clear H14; intro a15 H15
    refine plain (y_assign rfl rfl) rfl rfl rfl H15 ?_
    clear H15; intro a16 H16
    refine fin ?_
    refine inb_n ?_
    refine then_n ?_
    refine reg ?_
    refine plain (y_add rfl rfl rfl (by first | exact w64 (by omega) (by omega) | rfl)) rfl rfl rfl H16 ?_
    clear H16; intro a17 H17
    refine plain (y_move rfl rfl) rfl rfl rfl H17 ?_
    clear H17; intro a18 H18
    refine fin ?_
    refine then_n ?_
    refine ⟨k + 1, by omega, by omega, H18.weak ⟨rfl, fi rfl (by rw [Oct.tf_succ (by omega)]; simp), rfl, rfl, fi rfl (by omega), trivial⟩ rfl⟩
  · skip
    have hall : Oct.tf l k = l.flatten := Oct.tf_all (by omega)
    rw [hall] at H7
    refine wp_exit ?_
    refine then_x ?_
    refine then_x ?_
    refine inb_hit ?_
    refine then_n ?_
    refine wp_seq ?_
    refine reg ?_
    refine plain (y_move rfl rfl) rfl rfl rfl H7 ?_
    clear H7; intro a19 H19
    refine st_make rfl z_slice118 rfl rfl (by unfold maxLen; omega) (by omega) z_zval5 rfl rfl rfl H19 ?_
    clear H19; intro b20 a20 wx20 H20
    refine plain (y_assign rfl rfl) rfl rfl rfl H20 ?_
    clear H20; intro a21 H21
    refine fin ?_
    refine then_n ?_
    refine wp_seq ?_
    refine reg ?_
    refine plain (y_assign rfl rfl) rfl rfl rfl H21 ?_
    clear H21; intro a22 H22
    refine fin ?_
    refine then_n ?_
    refine wp_seq ?_
    refine wp_seq ?_
    refine reg ?_
    refine plain (y_move rfl rfl) rfl rfl rfl H22 ?_
    clear H22; intro a23 H23
    refine plain (y_len rfl Tryd.underlying122 rfl) rfl rfl rfl H23 ?_
    clear H23; intro a24 H24
    refine plain (y_move rfl rfl) rfl rfl rfl H24 ?_
    clear H24; intro a25 H25
    refine fin ?_
    refine then_n ?_
    refine wp_block ?_
    refine loop (ι := Nat) (fun k2 => [(6, .slice (some ⟨b20, 0, none⟩) l.flatten.length l.flatten.length), (7, .int .i64 ((Oct.tf l k2).length : Int)), (23, .slice A l.length c), (24, .int .i64 (l.length : Int)), (25, .int .i64 (k2 : Int))]) (fun k2 => [It.blk b20 5 ((Oct.tf l k2).map u8 ++ List.replicate (l.flatten.length - (Oct.tf l k2).length) (.int .u8 0))]) (fun k2 => k2 ≤ l.length) (fun k2 => l.length - k2) (0) (by omega) (H25.weak ⟨rfl, fi rfl (by simp [Oct.tf_zero]), rfl, rfl, rfl, trivial⟩ (ib (by rw [Oct.tf_zero]; exact (made_u8 _).trans (by simp)))) ?_
    clear H25; intro k2 a26 wx26 hok26 H26
    have hok2 := hok26
    have hle2 := Oct.tf_le l k2
    have hlk2 := fun h : k2 < l.length => Oct.len_le_flatten (l := l) (k := k2) h
    refine wp_seq ?_
    refine reg ?_
    refine plain (y_lss rfl rfl rfl) rfl rfl rfl H26 ?_
    clear H26; intro a27 H27
    refine fin ?_
    refine then_n ?_
    refine wp_seq ?_
    refine cnd_d H27 rfl (fun hc28 => ?_) (fun hc28 => ?_) -- cond 2
    · skip
      refine wp_skip ?_
      refine then_n ?_
      refine wp_seq ?_
      refine wp_block ?_
      refine wp_seq ?_
      refine reg ?_
      refine plain (y_ixR rfl Tryd.underlying122 z_size9 rfl rfl (by omega) (by omega) (rd_old (by assumption) (by simp)) (by simp; omega)) rfl rfl rfl H27 ?_
      clear H27; intro a29 H29
      refine plain (y_loadR rfl z_agg9 rfl (rd_old (by assumption) (by simp)) (by simp only [Int.toNat_natCast, Nat.mul_one, Nat.add_zero]; exact map_get _ _ _ [] (by omega))) rfl rfl rfl H29 ?_
      clear H29; intro a30 H30
      refine plain (y_assign rfl rfl) rfl rfl rfl H30 ?_
      clear H30; intro a31 H31
      refine fin ?_
      refine then_n ?_
      refine reg ?_
      refine plain (y_move rfl rfl) rfl rfl rfl H31 ?_
      clear H31; intro a32 H32
      refine plain (y_move rfl rfl) rfl rfl rfl H32 ?_
      clear H32; intro a33 H33
      refine plain (y_move rfl rfl) rfl rfl rfl H33 ?_
      clear H33; intro a34 H34
      refine plain (y_slS_lo rfl Tryd.underlying118 z_size5 rfl rfl (by omega) (by omega)) rfl rfl rfl H34 ?_
      clear H34; intro a35 H35
      refine plain (y_move rfl rfl) rfl rfl rfl H35 ?_
      clear H35; intro a36 H36
      refine st_copyT rfl Tryd.underlying118 z_size5 rfl rfl (by repeat (first | exact Uh | apply Ut)) (by have := hlk2 (by omega); omega) (by simp only [List.length_append, List.length_map, List.length_replicate]; omega) rfl rfl rfl H36 ?_
      clear H36; intro a37 wx37 H37
      refine plain (y_add rfl rfl rfl (w64 (by omega) (by have := hlk2 (by omega); omega))) rfl rfl rfl H37 ?_
      clear H37; intro a38 H38
      refine plain (y_assign rfl rfl) rfl rfl rfl H38 ?_
      clear H38; intro a39 H39
      refine fin ?_
      refine inb_n ?_
      refine then_n ?_
      refine reg ?_
      refine plain (y_add rfl rfl rfl (by first | exact w64 (by omega) (by omega) | rfl)) rfl rfl rfl H39 ?_
      clear H39; intro a40 H40
      refine plain (y_move rfl rfl) rfl rfl rfl H40 ?_
      clear H40; intro a41 H41
      refine fin ?_
      refine then_n ?_
      refine ⟨k2 + 1, by omega, by omega, H41.weak ⟨rfl, fi rfl (by rw [Oct.tf_succ (by omega)]; simp), rfl, rfl, fi rfl (by omega), trivial⟩ (ib (spl_join l k2 (by omega)))⟩
    · skip
      refine wp_exit ?_
      refine then_x ?_
      refine then_x ?_
      refine inb_hit ?_
      refine then_n ?_
      refine wp_seq ?_
      refine reg ?_
      refine plain (y_move rfl rfl) rfl rfl rfl H27 ?_
      clear H27; intro a42 H42
      refine plain (y_bstr (p := l.flatten) rfl Tryd.underlying118 Tryd.underlying5 Tryd.underlying9 rfl rfl (rd_blk (off := 0) (by repeat (first | exact Mh | apply Mt)) l.flatten.length (by rw [show Oct.tf l k2 = l.flatten from Oct.tf_all (by omega)]; simp only [Nat.sub_self, List.replicate_zero, List.append_nil, List.drop_zero]; exact List.take_of_length_le (by rw [List.length_map]; exact Nat.le_refl _)))) rfl rfl rfl H42 ?_
      clear H42; intro a43 H43
      refine plain (y_assign rfl rfl) rfl rfl rfl H43 ?_
      clear H43; intro a44 H44
      refine fin ?_
      refine then_n ?_
      refine wp_ret ?_
      -- return 1
      refine ret1 rfl H44 rfl ?_
      exact ⟨_, [], rfl, ⟨rfl, rfl⟩, H44.sep.sub (List.nil_sublist _)⟩
set_option maxRecDepth 100000 in
set_option maxHeartbeats 1000000 in
theorem txt (s : List UInt8) (hs : s.length ≤ 9223372036854775807) (w : World) : Calls Tryd.prog 100 #[str s] w (Gives (.tuple #[str (Oct.text s).1, .int .i64 (Oct.text s).2]) [] w) := by
  refine enterL (args := [str s]) Tryd.func100 rfl rfl (l := []) (Sep.refl _) ?_
  intro a0 H0
  refine wp_seq ?_
  refine reg ?_
  refine plain (y_assign rfl rfl) rfl rfl rfl H0 ?_
  clear H0; intro a1 H1
  refine plain (y_assign rfl rfl) rfl rfl rfl H1 ?_
  clear H1; intro a2 H2
  refine fin ?_
  refine then_n ?_
  refine wp_seq ?_
  refine wp_seq ?_
  refine reg ?_
  refine plain (y_move rfl rfl) rfl rfl rfl H2 ?_
  clear H2; intro a3 H3
  refine plain (y_slen rfl Tryd.underlying9 rfl) rfl rfl rfl H3 ?_
  clear H3; intro a4 H4
  refine plain (y_gtr rfl rfl rfl) rfl rfl rfl H4 ?_
  clear H4; intro a5 H5
  refine fin ?_
  refine then_n ?_
  refine cnd_d H5 rfl (fun hc6 => ?_) (fun hc6 => ?_) -- cond 1
  · skip
    refine wp_seq ?_
    refine reg ?_
    refine plain (y_assign rfl rfl) rfl rfl rfl H5 ?_
    clear H5; intro a7 H7
    refine plain (y_assign rfl rfl) rfl rfl rfl H7 ?_
    clear H7; intro a8 H8
    refine fin ?_
    refine then_n ?_
    refine wp_ret ?_
    refine then_r ?_
    -- return 1
    refine ret2 rfl H8 rfl rfl ?_
    exact ⟨_, [], rfl, ⟨by simp [Oct.text, show 65536 < s.length by omega], rfl⟩, H8.sep.sub (List.nil_sublist _)⟩
  · skip
    refine wp_skip ?_
    refine then_n ?_
    refine wp_seq ?_
    refine reg ?_
    refine plain (y_move rfl rfl) rfl rfl rfl H5 ?_
    clear H5; intro a9 H9
    refine plain (y_slen rfl Tryd.underlying9 rfl) rfl rfl rfl H9 ?_
    clear H9; intro a10 H10
    refine st_callg rfl z_call82 rfl rfl rfl rfl H10 (num _ (by omega) _) ?_
    clear H10; intro a11 wx11 H11
    refine plain (y_move rfl rfl) rfl rfl rfl H11 ?_
    clear H11; intro a12 H12
    refine plain (y_extract rfl rfl rfl) rfl rfl rfl H12 ?_
    clear H12; intro a13 H13
    refine plain (y_extract rfl rfl rfl) rfl rfl rfl H13 ?_
    clear H13; intro a14 H14
    refine plain (y_assign rfl rfl) rfl rfl rfl H14 ?_
    clear H14; intro a15 H15
    refine plain (y_assign rfl rfl) rfl rfl rfl H15 ?_
    clear H15; intro a16 H16
    refine fin ?_
    refine then_n ?_
    refine wp_seq ?_
    refine reg ?_
    refine plain (y_move rfl rfl) rfl rfl rfl H16 ?_
    clear H16; intro a17 H17
    refine plain (y_move rfl rfl) rfl rfl rfl H17 ?_
    clear H17; intro a18 H18
    refine st_buildSlice1 (xs := [.tmp 15, .tmp 16]) rfl Tryd.underlying122 z_size9 z_zero9 rfl rfl rfl rfl rfl rfl rfl rfl rfl H18 ?_
    clear H18; intro b19 a19 wx19 H19
    refine st_callg rfl z_call101 rfl rfl rfl rfl H19 (join [(Oct.number (s.length : Int)).1, s] _ _ _ rfl (Rd.ofSep (rd_blk (by repeat (first | exact Mh | apply Mt)) 2 rfl) H19.sep) (by simp) (by have := Oct.textL_le (s := s) (by omega); simp [Oct.number_nat] at *; unfold Oct.textL at this; simp at this; omega)) ?_
    clear H19; intro a20 wx20 H20
    refine plain (y_move rfl rfl) rfl rfl rfl H20 ?_
    clear H20; intro a21 H21
    refine plain (y_assign rfl rfl) rfl rfl rfl H21 ?_
    clear H21; intro a22 H22
    refine plain (y_assign rfl rfl) rfl rfl rfl H22 ?_
    clear H22; intro a23 H23
    refine fin ?_
    refine then_n ?_
    refine wp_ret ?_
    -- return 2
    refine ret2 rfl H23 rfl rfl ?_
    exact ⟨_, [], rfl, ⟨by simp [Oct.text, show ¬ 65536 < s.length by omega, Oct.number_nat, Oct.textL], rfl⟩, H23.sep.sub (List.nil_sublist _)⟩
set_option maxRecDepth 100000 in
set_option maxHeartbeats 1000000 in
theorem txtR (s : List UInt8) (hs : s.length ≤ 9223372036854775807) (w : World) : Calls Tryd.prog 106 #[str s] w (Gives (.tuple #[str (Oct.text s).1, .int .i64 (Oct.text s).2]) [] w) := by
  refine enterL (args := [str s]) Tryd.func106 rfl rfl (l := []) (Sep.refl _) ?_
  intro a0 H0
  refine wp_seq ?_
  refine reg ?_
  refine plain (y_assign rfl rfl) rfl rfl rfl H0 ?_
  clear H0; intro a1 H1
  refine plain (y_assign rfl rfl) rfl rfl rfl H1 ?_
  clear H1; intro a2 H2
  refine fin ?_
  refine then_n ?_
  refine wp_seq ?_
  refine wp_seq ?_
  refine reg ?_
  refine plain (y_move rfl rfl) rfl rfl rfl H2 ?_
  clear H2; intro a3 H3
  refine plain (y_slen rfl Tryd.underlying9 rfl) rfl rfl rfl H3 ?_
  clear H3; intro a4 H4
  refine plain (y_gtr rfl rfl rfl) rfl rfl rfl H4 ?_
  clear H4; intro a5 H5
  refine fin ?_
  refine then_n ?_
  refine cnd_d H5 rfl (fun hc6 => ?_) (fun hc6 => ?_) -- cond 1
  · skip
    refine wp_seq ?_
    refine reg ?_
    refine plain (y_assign rfl rfl) rfl rfl rfl H5 ?_
    clear H5; intro a7 H7
    refine plain (y_assign rfl rfl) rfl rfl rfl H7 ?_
    clear H7; intro a8 H8
    refine fin ?_
    refine then_n ?_
    refine wp_ret ?_
    refine then_r ?_
    -- return 1
    refine ret2 rfl H8 rfl rfl ?_
    exact ⟨_, [], rfl, ⟨by simp [Oct.text, show 65536 < s.length by omega], rfl⟩, H8.sep.sub (List.nil_sublist _)⟩
  · skip
    refine wp_skip ?_
    refine then_n ?_
    refine wp_seq ?_
    refine reg ?_
    refine plain (y_move rfl rfl) rfl rfl rfl H5 ?_
    clear H5; intro a9 H9
    refine plain (y_slen rfl Tryd.underlying9 rfl) rfl rfl rfl H9 ?_
    clear H9; intro a10 H10
    refine st_callg rfl z_call96 rfl rfl rfl rfl H10 (numR _ (by omega) _) ?_
    clear H10; intro a11 wx11 H11
    refine plain (y_move rfl rfl) rfl rfl rfl H11 ?_
    clear H11; intro a12 H12
    refine plain (y_extract rfl rfl rfl) rfl rfl rfl H12 ?_
    clear H12; intro a13 H13
    refine plain (y_extract rfl rfl rfl) rfl rfl rfl H13 ?_
    clear H13; intro a14 H14
    refine plain (y_assign rfl rfl) rfl rfl rfl H14 ?_
    clear H14; intro a15 H15
    refine plain (y_assign rfl rfl) rfl rfl rfl H15 ?_
    clear H15; intro a16 H16
    refine fin ?_
    refine then_n ?_
    refine wp_seq ?_
    refine reg ?_
    refine plain (y_move rfl rfl) rfl rfl rfl H16 ?_
    clear H16; intro a17 H17
    refine plain (y_move rfl rfl) rfl rfl rfl H17 ?_
    clear H17; intro a18 H18
    refine plain (y_sadd rfl rfl rfl (by have := Oct.textL_le (s := s) (by omega); simp [Oct.number_nat] at *; unfold Oct.textL at this; simp at this; omega)) rfl rfl rfl H18 ?_
    clear H18; intro a19 H19
    refine plain (y_assign rfl rfl) rfl rfl rfl H19 ?_
    clear H19; intro a20 H20
    refine plain (y_assign rfl rfl) rfl rfl rfl H20 ?_
    clear H20; intro a21 H21
    refine fin ?_
    refine then_n ?_
    refine wp_ret ?_
    -- return 2
    refine ret2 rfl H21 rfl rfl ?_
    exact ⟨_, [], rfl, ⟨by simp [Oct.text, show ¬ 65536 < s.length by omega, Oct.number_nat, Oct.textL], rfl⟩, H21.sep.sub (List.nil_sublist _)⟩
set_option maxRecDepth 100000 in
set_option maxHeartbeats 1000000 in
theorem lst (l : List (List UInt8)) (A : Option Addr) (m c : Nat) (hm : m = l.length) {w : World} (hR : Rd w A (l.map str)) (hl : l.length ≤ 9223372036854775807) : Calls Tryd.prog 83 #[.slice A m c] w (Gives (.tuple #[str (Oct.list l).1, .int .i64 (Oct.list l).2]) [] w) := by
  subst hm
  refine enterL (args := [.slice A l.length c]) Tryd.func83 rfl rfl (l := []) (Sep.refl _) ?_
  intro a0 H0
  refine wp_seq ?_
  refine reg ?_
  refine plain (y_assign rfl rfl) rfl rfl rfl H0 ?_
  clear H0; intro a1 H1
  refine plain (y_assign rfl rfl) rfl rfl rfl H1 ?_
  clear H1; intro a2 H2
  refine fin ?_
  refine then_n ?_
  refine wp_seq ?_
  refine wp_seq ?_
  refine reg ?_
  refine plain (y_move rfl rfl) rfl rfl rfl H2 ?_
  clear H2; intro a3 H3
  refine plain (y_len rfl Tryd.underlying122 rfl) rfl rfl rfl H3 ?_
  clear H3; intro a4 H4
  refine plain (y_gtr rfl rfl rfl) rfl rfl rfl H4 ?_
  clear H4; intro a5 H5
  refine fin ?_
  refine then_n ?_
  refine cnd_d H5 rfl (fun hc6 => ?_) (fun hc6 => ?_) -- cond 1
  · skip
    refine wp_seq ?_
    refine reg ?_
    refine plain (y_assign rfl rfl) rfl rfl rfl H5 ?_
    clear H5; intro a7 H7
    refine plain (y_assign rfl rfl) rfl rfl rfl H7 ?_
    clear H7; intro a8 H8
    refine fin ?_
    refine then_n ?_
    refine wp_ret ?_
    refine then_r ?_
    -- return 1
    refine ret2 rfl H8 rfl rfl ?_
    exact ⟨_, [], rfl, ⟨by rw [Oct.list_big (by omega)], rfl⟩, H8.sep.sub (List.nil_sublist _)⟩
  · skip
    refine wp_skip ?_
    refine then_n ?_
    refine wp_seq ?_
    refine reg ?_
    refine plain (y_move rfl rfl) rfl rfl rfl H5 ?_
    clear H5; intro a9 H9
    refine plain (y_len rfl Tryd.underlying122 rfl) rfl rfl rfl H9 ?_
    clear H9; intro a10 H10
    refine st_callg rfl z_call82 rfl rfl rfl rfl H10 (num _ (by omega) _) ?_
    clear H10; intro a11 wx11 H11
    refine plain (y_move rfl rfl) rfl rfl rfl H11 ?_
    clear H11; intro a12 H12
    refine plain (y_extract rfl rfl rfl) rfl rfl rfl H12 ?_
    clear H12; intro a13 H13
    refine plain (y_extract rfl rfl rfl) rfl rfl rfl H13 ?_
    clear H13; intro a14 H14
    refine plain (y_assign rfl rfl) rfl rfl rfl H14 ?_
    clear H14; intro a15 H15
    refine plain (y_assign rfl rfl) rfl rfl rfl H15 ?_
    clear H15; intro a16 H16
    refine fin ?_
    refine then_n ?_
    refine wp_seq ?_
    refine reg ?_
    refine plain (y_move rfl rfl) rfl rfl rfl H16 ?_
    clear H16; intro a17 H17
    refine st_buildSlice1 (xs := [.tmp 21]) rfl Tryd.underlying122 z_size9 z_zero9 rfl rfl rfl rfl rfl rfl rfl rfl rfl H17 ?_
    clear H17; intro b18 a18 wx18 H18
    refine plain (y_assign rfl rfl) rfl rfl rfl H18 ?_
    clear H18; intro a19 H19
    refine fin ?_
    refine then_n ?_
    refine wp_seq ?_
    refine reg ?_
    refine plain (y_assign rfl rfl) rfl rfl rfl H19 ?_
    clear H19; intro a20 H20
    refine fin ?_
    refine then_n ?_
    refine wp_seq ?_
    refine wp_seq ?_
    refine reg ?_
    refine plain (y_move rfl rfl) rfl rfl rfl H20 ?_
    clear H20; intro a21 H21
    refine plain (y_len rfl Tryd.underlying122 rfl) rfl rfl rfl H21 ?_
    clear H21; intro a22 H22
    refine plain (y_move rfl rfl) rfl rfl rfl H22 ?_
    clear H22; intro a23 H23
    refine fin ?_
    refine then_n ?_
    refine wp_block ?_
    simp only [Oct.number_nat] at H23
    replace H23 := H23.asRow (size := 1) (m := 1) (by repeat (first | exact Uh | apply Ut)) rfl (by unfold maxLen; omega)
    refine loop (ι := Nat × Value) (fun x => [(6, x.2), (7, .int .i64 (65536 - ((Oct.tf l x.1).length : Int))), (23, .slice A l.length c), (24, .int .i64 (l.length : Int)), (25, .int .i64 (x.1 : Int))]) (fun x => [It.row 9 1 x.2 (x.1 + 1) ((Oct.parts l x.1).map str)]) (fun x => x.1 ≤ l.length ∧ (Oct.tf l x.1).length ≤ 65536) (fun x => l.length - x.1) ((0, .slice (some ⟨b18, 0, none⟩) 1 1)) (by simp [Oct.tf_zero]) (H23.weak ⟨rfl, fi rfl (by simp [Oct.tf_zero]), rfl, rfl, rfl, trivial⟩ rfl) ?_
    clear H23; intro x a24 wx24 hok24 H24
    obtain ⟨k, v⟩ := x
    dsimp only at hok24 H24
    have hok := hok24
    have hlk := fun h : k < l.length => Oct.len_le_flatten (l := l) (k := k) h
    refine wp_seq ?_
    refine reg ?_
    refine plain (y_lss rfl rfl rfl) rfl rfl rfl H24 ?_
    clear H24; intro a25 H25
    refine fin ?_
    refine then_n ?_
    refine wp_seq ?_
    refine cnd_d H25 rfl (fun hc26 => ?_) (fun hc26 => ?_) -- cond 2
    · skip
      refine wp_skip ?_
      refine then_n ?_
      refine wp_seq ?_
      refine wp_block ?_
      refine wp_seq ?_
      refine reg ?_
      refine plain (y_ixR rfl Tryd.underlying122 z_size9 rfl rfl (by omega) (by omega) (rd_old (by assumption) (by simp)) (by simp; omega)) rfl rfl rfl H25 ?_
      clear H25; intro a27 H27
      refine plain (y_loadR rfl z_agg9 rfl (rd_old (by assumption) (by simp)) (by simp only [Int.toNat_natCast, Nat.mul_one, Nat.add_zero]; exact map_get _ _ _ [] (by omega))) rfl rfl rfl H27 ?_
      clear H27; intro a28 H28
      refine plain (y_assign rfl rfl) rfl rfl rfl H28 ?_
      clear H28; intro a29 H29
      refine fin ?_
      refine then_n ?_
      refine wp_seq ?_
      refine wp_seq ?_
      refine reg ?_
      refine plain (y_move rfl rfl) rfl rfl rfl H29 ?_
      clear H29; intro a30 H30
      refine plain (y_slen rfl Tryd.underlying9 rfl) rfl rfl rfl H30 ?_
      clear H30; intro a31 H31
      refine plain (y_move rfl rfl) rfl rfl rfl H31 ?_
      clear H31; intro a32 H32
      refine plain (y_gtr rfl rfl rfl) rfl rfl rfl H32 ?_
      clear H32; intro a33 H33
      refine fin ?_
      refine then_n ?_
      refine cnd_d H33 rfl (fun hc34 => ?_) (fun hc34 => ?_) -- cond 3
      · skip
        refine wp_seq ?_
        refine reg ?_
        refine plain (y_assign rfl rfl) rfl rfl rfl H33 ?_
        clear H33; intro a35 H35
        refine plain (y_assign rfl rfl) rfl rfl rfl H35 ?_
        clear H35; intro a36 H36
        refine fin ?_
        refine then_n ?_
        refine wp_ret ?_
        refine then_r ?_
        refine inb_r ?_
        refine then_r ?_
        refine then_r ?_
        refine inb_r ?_
        refine then_r ?_
        -- return 2
        refine ret2 rfl H36 rfl rfl ?_
        exact ⟨_, [], rfl, ⟨by rw [Oct.list_long (by have := hlk (by omega); omega)], rfl⟩, H36.sep.sub (List.nil_sublist _)⟩
      · skip
        refine wp_skip ?_
        refine then_n ?_
        refine wp_seq ?_
        refine reg ?_
        refine plain (y_move rfl rfl) rfl rfl rfl H33 ?_
        clear H33; intro a37 H37
        refine plain (y_move rfl rfl) rfl rfl rfl H37 ?_
        clear H37; intro a38 H38
        refine plain (y_slen rfl Tryd.underlying9 rfl) rfl rfl rfl H38 ?_
        clear H38; intro a39 H39
        refine plain (y_sub rfl rfl rfl (by first | exact w64 (by omega) (by omega) | rfl)) rfl rfl rfl H39 ?_
        clear H39; intro a40 H40
        refine plain (y_assign rfl rfl) rfl rfl rfl H40 ?_
        clear H40; intro a41 H41
        refine fin ?_
        refine then_n ?_
        refine wp_seq ?_
        refine reg ?_
        refine plain (y_move rfl rfl) rfl rfl rfl H41 ?_
        clear H41; intro a42 H42
        refine st_callg rfl z_call100 rfl rfl rfl rfl H42 (txt _ (by omega) _) ?_
        clear H42; intro a43 wx43 H43
        refine plain (y_move rfl rfl) rfl rfl rfl H43 ?_
        clear H43; intro a44 H44
        refine plain (y_extract rfl rfl rfl) rfl rfl rfl H44 ?_
        clear H44; intro a45 H45
        refine plain (y_extract rfl rfl rfl) rfl rfl rfl H45 ?_
        clear H45; intro a46 H46
        refine plain (y_assign rfl rfl) rfl rfl rfl H46 ?_
        clear H46; intro a47 H47
        refine plain (y_assign rfl rfl) rfl rfl rfl H47 ?_
        clear H47; intro a48 H48
        refine fin ?_
        refine then_n ?_
        refine reg ?_
        refine plain (y_move rfl rfl) rfl rfl rfl H48 ?_
        clear H48; intro a49 H49
        refine plain (y_move rfl rfl) rfl rfl rfl H49 ?_
        clear H49; intro a50 H50
        refine st_buildSlice1 (xs := [.tmp 43]) rfl Tryd.underlying122 z_size9 z_zero9 rfl rfl rfl rfl rfl rfl rfl rfl rfl H50 ?_
        clear H50; intro b51 a51 wx51 H51
        refine st_append rfl z_slice122 z_notint122 rfl rfl (fun _ => (by repeat (first | exact Uh | apply Ut))) (fun w hs => Src.slice ((rd_blkA (by repeat (first | exact Mh | apply Mt))) w hs) rfl (by simp [Value.oneCell'])) (by unfold maxLen; omega) (by omega) rfl rfl rfl H51 ?_
        clear H51; intro v52 a52 wx52 hnil52 H52
        refine plain (y_assign rfl rfl) rfl rfl rfl H52 ?_
        clear H52; intro a53 H53
        refine fin ?_
        refine inb_n ?_
        refine then_n ?_
        refine reg ?_
        refine plain (y_add rfl rfl rfl (by first | exact w64 (by omega) (by omega) | rfl)) rfl rfl rfl H53 ?_
        clear H53; intro a54 H54
        refine plain (y_move rfl rfl) rfl rfl rfl H54 ?_
        clear H54; intro a55 H55
        refine fin ?_
        refine then_n ?_
        refine ⟨(k + 1, v52), by dsimp only; omega, by dsimp only; rw [Oct.tf_succ (by omega), List.length_append]; omega, (H55.drop (List.Sublist.cons _ (List.Sublist.refl _))).weak ⟨rfl, fi rfl (by rw [Oct.tf_succ (by omega)]; simp; omega), rfl, rfl, fi rfl (by dsimp only; omega), trivial⟩ (ir rfl ?_)⟩
        rw [Oct.parts_succ (by omega), Oct.text_ok (by omega)]
        simp
    · skip
      refine wp_exit ?_
      refine then_x ?_
      refine then_x ?_
      refine inb_hit ?_
      refine then_n ?_
      refine wp_seq ?_
      refine reg ?_
      refine plain (y_move rfl rfl) rfl rfl rfl H25 ?_
      clear H25; intro a56 H56
      obtain ⟨A2, c2, hv2, hR2, hm2⟩ := row_shape H56.sep (by repeat (first | exact Mh | apply Mt))
      subst hv2
      refine st_callg rfl z_call101 rfl rfl rfl rfl H56 (join (Oct.parts l k) _ _ _ (by rw [Oct.parts_length _ (by omega)]) hR2 (by rw [Oct.parts_length _ (by omega)]; omega) (by rw [Oct.parts_flatten (by omega)]; have := Oct.listL_le (l := l) (by omega) (by rw [← Oct.tf_all (l := l) (k := k) (by omega)]; exact hok.2); omega)) ?_
      clear H56; intro a57 wx57 H57
      refine plain (y_assign rfl rfl) rfl rfl rfl H57 ?_
      clear H57; intro a58 H58
      refine plain (y_assign rfl rfl) rfl rfl rfl H58 ?_
      clear H58; intro a59 H59
      refine fin ?_
      refine then_n ?_
      refine wp_ret ?_
      -- return 3
      refine ret2 rfl H59 rfl rfl ?_
      exact ⟨_, [], rfl, ⟨by rw [Oct.parts_flatten (by omega), Oct.list_ok (by omega) (by have := Oct.tf_all (l := l) (k := k) (by omega); rw [this] at hok; omega)], rfl⟩, H59.sep.sub (List.nil_sublist _)⟩
set_option maxRecDepth 100000 in
set_option maxHeartbeats 1000000 in
theorem lstR (l : List (List UInt8)) (A : Option Addr) (m c : Nat) (hm : m = l.length) {w : World} (hR : Rd w A (l.map str)) (hl : l.length ≤ 9223372036854775807) : Calls Tryd.prog 95 #[.slice A m c] w (Gives (.tuple #[str (Oct.list l).1, .int .i64 (Oct.list l).2]) [] w) := by
  subst hm
  refine enterL (args := [.slice A l.length c]) Tryd.func95 rfl rfl (l := []) (Sep.refl _) ?_
  intro a0 H0
  refine wp_seq ?_
  refine reg ?_
  refine plain (y_assign rfl rfl) rfl rfl rfl H0 ?_
  clear H0; intro a1 H1
  refine plain (y_assign rfl rfl) rfl rfl rfl H1 ?_
  clear H1; intro a2 H2
  refine fin ?_
  refine then_n ?_
  refine wp_seq ?_
  refine wp_seq ?_
  refine reg ?_
  refine plain (y_move rfl rfl) rfl rfl rfl H2 ?_
  clear H2; intro a3 H3
  refine plain (y_len rfl Tryd.underlying122 rfl) rfl rfl rfl H3 ?_
  clear H3; intro a4 H4
  refine plain (y_gtr rfl rfl rfl) rfl rfl rfl H4 ?_
  clear H4; intro a5 H5
  refine fin ?_
  refine then_n ?_
  refine cnd_d H5 rfl (fun hc6 => ?_) (fun hc6 => ?_) -- cond 1
  · skip
    refine wp_seq ?_
    refine reg ?_
    refine plain (y_assign rfl rfl) rfl rfl rfl H5 ?_
    clear H5; intro a7 H7
    refine plain (y_assign rfl rfl) rfl rfl rfl H7 ?_
    clear H7; intro a8 H8
    refine fin ?_
    refine then_n ?_
    refine wp_ret ?_
    refine then_r ?_
    -- return 1
    refine ret2 rfl H8 rfl rfl ?_
    exact ⟨_, [], rfl, ⟨by rw [Oct.list_big (by omega)], rfl⟩, H8.sep.sub (List.nil_sublist _)⟩
  · skip
    refine wp_skip ?_
    refine then_n ?_
    refine wp_seq ?_
    refine reg ?_
    refine plain (y_move rfl rfl) rfl rfl rfl H5 ?_
    clear H5; intro a9 H9
    refine plain (y_len rfl Tryd.underlying122 rfl) rfl rfl rfl H9 ?_
    clear H9; intro a10 H10
    refine st_callg rfl z_call96 rfl rfl rfl rfl H10 (numR _ (by omega) _) ?_
    clear H10; intro a11 wx11 H11
    refine plain (y_move rfl rfl) rfl rfl rfl H11 ?_
    clear H11; intro a12 H12
    refine plain (y_extract rfl rfl rfl) rfl rfl rfl H12 ?_
    clear H12; intro a13 H13
    refine plain (y_extract rfl rfl rfl) rfl rfl rfl H13 ?_
    clear H13; intro a14 H14
    refine plain (y_assign rfl rfl) rfl rfl rfl H14 ?_
    clear H14; intro a15 H15
    refine plain (y_assign rfl rfl) rfl rfl rfl H15 ?_
    clear H15; intro a16 H16
    refine fin ?_
    refine then_n ?_
    refine wp_seq ?_
    refine reg ?_
    refine plain (y_move rfl rfl) rfl rfl rfl H16 ?_
    clear H16; intro a17 H17
    refine st_strb rfl Tryd.underlying9 Tryd.underlying118 Tryd.underlying5 rfl (by have := Oct.numL_le (m := l.length) (by omega); rw [Oct.number_nat]; dsimp only; unfold maxLen; omega) rfl rfl rfl H17 ?_
    clear H17; intro v18 a18 wx18 H18
    refine plain (y_assign rfl rfl) rfl rfl rfl H18 ?_
    clear H18; intro a19 H19
    refine fin ?_
    refine then_n ?_
    refine wp_seq ?_
    refine reg ?_
    refine plain (y_assign rfl rfl) rfl rfl rfl H19 ?_
    clear H19; intro a20 H20
    refine fin ?_
    refine then_n ?_
    refine wp_seq ?_
    refine wp_seq ?_
    refine reg ?_
    refine plain (y_assign rfl rfl) rfl rfl rfl H20 ?_
    clear H20; intro a21 H21
    refine fin ?_
    refine then_n ?_
    refine wp_block ?_
    simp only [Oct.number_nat] at H21
    refine loop (ι := Nat × Value) (fun x => [(0, .slice A l.length c), (6, x.2), (7, .int .i64 ((Oct.tf l x.1).length : Int)), (8, .int .i64 (x.1 : Int))]) (fun x => [It.row 5 1 x.2 (Oct.parts l x.1).flatten.length ((Oct.parts l x.1).flatten.map u8)]) (fun x => x.1 ≤ l.length ∧ (Oct.tf l x.1).length ≤ 65536) (fun x => l.length - x.1) ((0, v18)) (by simp [Oct.tf_zero]) (H21.weak ⟨rfl, rfl, fi rfl (by simp [Oct.tf_zero]), rfl, trivial⟩ (ir (by simp [Oct.parts]) (by simp [Oct.parts]))) ?_
    clear H21; intro x a22 wx22 hok22 H22
    obtain ⟨k, v⟩ := x
    dsimp only at hok22 H22
    have hok := hok22
    have hlk := fun h : k < l.length => Oct.len_le_flatten (l := l) (k := k) h
    have hpl := Oct.parts_len (l := l) (k := k) hok.1 (by omega) hok.2
    refine wp_seq ?_
    refine wp_seq ?_
    refine reg ?_
    refine plain (y_move rfl rfl) rfl rfl rfl H22 ?_
    clear H22; intro a23 H23
    refine plain (y_move rfl rfl) rfl rfl rfl H23 ?_
    clear H23; intro a24 H24
    refine plain (y_len rfl Tryd.underlying122 rfl) rfl rfl rfl H24 ?_
    clear H24; intro a25 H25
    refine plain (y_lss rfl rfl rfl) rfl rfl rfl H25 ?_
    clear H25; intro a26 H26
    refine fin ?_
    refine then_n ?_
    refine cnd_d H26 rfl (fun hc27 => ?_) (fun hc27 => ?_) -- cond 2
    · skip
      refine wp_skip ?_
      refine then_n ?_
      refine wp_seq ?_
      refine wp_block ?_
      refine wp_seq ?_
      refine wp_seq ?_
      refine reg ?_
      refine plain (y_move rfl rfl) rfl rfl rfl H26 ?_
      clear H26; intro a28 H28
      refine plain (y_move rfl rfl) rfl rfl rfl H28 ?_
      clear H28; intro a29 H29
      refine plain (y_ixR rfl Tryd.underlying122 z_size9 rfl rfl (by omega) (by omega) (rd_old (by assumption) (by simp)) (by simp; omega)) rfl rfl rfl H29 ?_
      clear H29; intro a30 H30
      refine plain (y_loadR rfl z_agg9 rfl (rd_old (by assumption) (by simp)) (by simp only [Int.toNat_natCast, Nat.mul_one, Nat.add_zero]; exact map_get _ _ _ [] (by omega))) rfl rfl rfl H30 ?_
      clear H30; intro a31 H31
      refine plain (y_slen rfl Tryd.underlying9 rfl) rfl rfl rfl H31 ?_
      clear H31; intro a32 H32
      refine plain (y_move rfl rfl) rfl rfl rfl H32 ?_
      clear H32; intro a33 H33
      refine plain (y_sub rfl rfl rfl (by first | exact w64 (by omega) (by omega) | rfl)) rfl rfl rfl H33 ?_
      clear H33; intro a34 H34
      refine plain (y_gtr rfl rfl rfl) rfl rfl rfl H34 ?_
      clear H34; intro a35 H35
      refine fin ?_
      refine then_n ?_
      refine cnd_d H35 rfl (fun hc36 => ?_) (fun hc36 => ?_) -- cond 3
      · skip
        refine wp_seq ?_
        refine reg ?_
        refine plain (y_assign rfl rfl) rfl rfl rfl H35 ?_
        clear H35; intro a37 H37
        refine plain (y_assign rfl rfl) rfl rfl rfl H37 ?_
        clear H37; intro a38 H38
        refine fin ?_
        refine then_n ?_
        refine wp_ret ?_
        refine then_r ?_
        refine inb_r ?_
        refine then_r ?_
        refine then_r ?_
        refine inb_r ?_
        refine then_r ?_
        -- return 2
        refine ret2 rfl H38 rfl rfl ?_
        exact ⟨_, [], rfl, ⟨by rw [Oct.list_long (by have := hlk (by omega); omega)], rfl⟩, H38.sep.sub (List.nil_sublist _)⟩
      · skip
        refine wp_skip ?_
        refine then_n ?_
        refine wp_seq ?_
        refine reg ?_
        refine plain (y_move rfl rfl) rfl rfl rfl H35 ?_
        clear H35; intro a39 H39
        refine plain (y_move rfl rfl) rfl rfl rfl H39 ?_
        clear H39; intro a40 H40
        refine plain (y_move rfl rfl) rfl rfl rfl H40 ?_
        clear H40; intro a41 H41
        refine plain (y_ixR rfl Tryd.underlying122 z_size9 rfl rfl (by omega) (by omega) (rd_old (by assumption) (by simp)) (by simp; omega)) rfl rfl rfl H41 ?_
        clear H41; intro a42 H42
        refine plain (y_loadR rfl z_agg9 rfl (rd_old (by assumption) (by simp)) (by simp only [Int.toNat_natCast, Nat.mul_one, Nat.add_zero]; exact map_get _ _ _ [] (by omega))) rfl rfl rfl H42 ?_
        clear H42; intro a43 H43
        refine plain (y_slen rfl Tryd.underlying9 rfl) rfl rfl rfl H43 ?_
        clear H43; intro a44 H44
        refine plain (y_add rfl rfl rfl (by first | exact w64 (by omega) (by omega) | rfl)) rfl rfl rfl H44 ?_
        clear H44; intro a45 H45
        refine plain (y_assign rfl rfl) rfl rfl rfl H45 ?_
        clear H45; intro a46 H46
        refine fin ?_
        refine then_n ?_
        refine wp_seq ?_
        refine reg ?_
        refine plain (y_move rfl rfl) rfl rfl rfl H46 ?_
        clear H46; intro a47 H47
        refine plain (y_move rfl rfl) rfl rfl rfl H47 ?_
        clear H47; intro a48 H48
        refine plain (y_ixR rfl Tryd.underlying122 z_size9 rfl rfl (by omega) (by omega) (rd_old (by assumption) (by simp)) (by simp; omega)) rfl rfl rfl H48 ?_
        clear H48; intro a49 H49
        refine plain (y_loadR rfl z_agg9 rfl (rd_old (by assumption) (by simp)) (by simp only [Int.toNat_natCast, Nat.mul_one, Nat.add_zero]; exact map_get _ _ _ [] (by omega))) rfl rfl rfl H49 ?_
        clear H49; intro a50 H50
        refine st_callg rfl z_call106 rfl rfl rfl rfl H50 (txtR _ (by omega) _) ?_
        clear H50; intro a51 wx51 H51
        refine plain (y_move rfl rfl) rfl rfl rfl H51 ?_
        clear H51; intro a52 H52
        refine plain (y_extract rfl rfl rfl) rfl rfl rfl H52 ?_
        clear H52; intro a53 H53
        refine plain (y_extract rfl rfl rfl) rfl rfl rfl H53 ?_
        clear H53; intro a54 H54
        refine plain (y_assign rfl rfl) rfl rfl rfl H54 ?_
        clear H54; intro a55 H55
        refine plain (y_assign rfl rfl) rfl rfl rfl H55 ?_
        clear H55; intro a56 H56
        refine fin ?_
        refine then_n ?_
        refine reg ?_
        refine plain (y_move rfl rfl) rfl rfl rfl H56 ?_
        clear H56; intro a57 H57
        refine plain (y_move rfl rfl) rfl rfl rfl H57 ?_
        clear H57; intro a58 H58
        refine st_append rfl z_slice118 z_notint9 rfl rfl (fun _ => (by repeat (first | exact Uh | apply Ut))) (fun w _ => Src.text _) (by have := Oct.text_len (l.getD k []); unfold maxLen; omega) (by have := Oct.text_len (l.getD k []); omega) rfl rfl rfl H58 ?_
        clear H58; intro v59 a59 wx59 hnil59 H59
        refine plain (y_assign rfl rfl) rfl rfl rfl H59 ?_
        clear H59; intro a60 H60
        refine fin ?_
        refine inb_n ?_
        refine then_n ?_
        refine reg ?_
        refine plain (y_move rfl rfl) rfl rfl rfl H60 ?_
        clear H60; intro a61 H61
        refine plain (y_add rfl rfl rfl (by first | exact w64 (by omega) (by omega) | rfl)) rfl rfl rfl H61 ?_
        clear H61; intro a62 H62
        refine plain (y_assign rfl rfl) rfl rfl rfl H62 ?_
        clear H62; intro a63 H63
        refine fin ?_
        refine then_n ?_
        refine ⟨(k + 1, v59), by dsimp only; omega, by dsimp only; rw [Oct.tf_succ (by omega), List.length_append]; omega, H63.weak ⟨rfl, rfl, fi rfl (by rw [Oct.tf_succ (by omega)]; simp), fi rfl (by dsimp only; omega), trivial⟩ (ir ?_ ?_)⟩
        · rw [Oct.parts_succ (by omega), Oct.text_ok (by omega)]; simp
        · rw [Oct.parts_succ (by omega), Oct.text_ok (by omega)]; simp
    · skip
      refine wp_exit ?_
      refine then_x ?_
      refine then_x ?_
      refine inb_hit ?_
      refine then_n ?_
      refine wp_seq ?_
      refine reg ?_
      refine plain (y_move rfl rfl) rfl rfl rfl H26 ?_
      clear H26; intro a64 H64
      obtain ⟨A2, c2, hv2, hR2, hm2⟩ := row_shape H64.sep (by repeat (first | exact Mh | apply Mt))
      subst hv2
      refine plain (y_bstr (p := (Oct.parts l k).flatten) rfl Tryd.underlying118 Tryd.underlying5 Tryd.underlying9 rfl rfl (rd_row (by repeat (first | exact Mh | apply Mt)))) rfl rfl rfl H64 ?_
      clear H64; intro a65 H65
      refine plain (y_assign rfl rfl) rfl rfl rfl H65 ?_
      clear H65; intro a66 H66
      refine plain (y_assign rfl rfl) rfl rfl rfl H66 ?_
      clear H66; intro a67 H67
      refine fin ?_
      refine then_n ?_
      refine wp_ret ?_
      -- return 3
      refine ret2 rfl H67 rfl rfl ?_
      exact ⟨_, [], rfl, ⟨by rw [Oct.parts_flatten (by omega), Oct.list_ok (by omega) (by have := Oct.tf_all (l := l) (k := k) (by omega); rw [this] at hok; omega)], rfl⟩, H67.sep.sub (List.nil_sublist _)⟩

end Go.Proofs.YtaeahloenahelaaDoor.A_Num

set_option linter.unusedVariables false
set_option linter.unusedSimpArgs false
namespace Go.Proofs.YtaeahloenahelaaDoor.A_Bput
open Go.Sx Go.RowKit Go.Proofs.YtaeahloenahelaaDoor.A_Num

theorem z_size3 : sizeB Tryd.prog 3 = some 1 := by kernel_rfl
theorem z_agg3 : aggB Tryd.prog 3 = some false := by kernel_rfl
theorem z_call82 : callB Tryd.prog 82 = true := by kernel_rfl
theorem z_agg122 : aggB Tryd.prog 122 = some false := by kernel_rfl
theorem q_ix_c1_0 {a0 : Value} : (a0 :: [])[0]? = some a0 := ix_0
theorem z_size9 : sizeB Tryd.prog 9 = some 1 := by kernel_rfl
theorem z_zero9 : zeroL Tryd.prog 9 = some ([.string ⟨#[]⟩]) := by kernel_rfl
theorem z_slice122 : sliceB Tryd.prog 122 = some (9, 1, 16) := by kernel_rfl
theorem z_notint122 : notIntB Tryd.prog 122 = true := by kernel_rfl
theorem z_size122 : sizeB Tryd.prog 122 = some 1 := by kernel_rfl
theorem q_len_c1 {a0 : Value} : (a0 :: []).length = 1 := (len_c (n := 0) len_n)
theorem q_set_c1_0 {a0 : Value} {v : Value} : (a0 :: []).set 0 v = v :: [] := set_0

set_option maxRecDepth 100000 in
set_option maxHeartbeats 1000000 in
theorem bput (bl k : Nat) (v : Value) (L : List (List UInt8)) (hk : k = L.length) (hk2 : k ≤ 100) (ns : List Int) (hns : ns.length ≤ 100) (hb : ∀ x ∈ ns, x ≤ 9223372036854775807) (A : Option Addr) (m c : Nat) (hm : m = ns.length) {w : World} (hs : Sep (fps [It.row 9 1 v k (L.map str), It.blk bl 122 [v]]) w w [It.row 9 1 v k (L.map str), It.blk bl 122 [v]]) (hR : ∀ w' l, Sep (fps [It.row 9 1 v k (L.map str), It.blk bl 122 [v]]) w w' l → Rd w' A (ns.map i64)) : Calls Tryd.prog 81 #[.slice A m c, .pointer (some ⟨bl, 0, none⟩)] w (Post (fps [It.row 9 1 v k (L.map str), It.blk bl 122 [v]]) w fun u l' => u = .tuple #[] ∧ ∃ v', l' = [It.row 9 1 v' (k + ns.length) ((L ++ ns.map Note.num).map str), It.blk bl 122 [v']]) := by
  subst hm
  subst hk
  have lz32 : (List.replicate 32 (0 : UInt8)).length = 32 := List.length_replicate
  refine enterL (args := [.slice A ns.length c, .pointer (some ⟨bl, 0, none⟩)]) Tryd.func81 rfl rfl (l := [It.row 9 1 v L.length (L.map str), It.blk bl 122 [v]]) hs ?_
  intro a0 H0
  refine wp_seq ?_
  refine reg ?_
  refine plain (y_move rfl rfl) rfl rfl rfl H0 ?_
  clear H0; intro a1 H1
  refine plain (y_len rfl Tryd.underlying23 rfl) rfl rfl rfl H1 ?_
  clear H1; intro a2 H2
  refine plain (y_move rfl rfl) rfl rfl rfl H2 ?_
  clear H2; intro a3 H3
  refine fin ?_
  refine then_n ?_
  refine wp_block ?_
  refine loop (ι := Nat × Value) (fun x => [(1, .pointer (some ⟨bl, 0, none⟩)), (7, .slice A ns.length c), (8, .int .i64 (ns.length : Int)), (9, .int .i64 (x.1 : Int))]) (fun x => [It.row 9 1 x.2 (L.length + x.1) ((L ++ (ns.take x.1).map Note.num).map str), It.blk bl 122 [x.2]]) (fun x => x.1 ≤ ns.length) (fun x => ns.length - x.1) ((0, v)) (Nat.zero_le _) (H3.weak ⟨rfl, rfl, rfl, rfl, trivial⟩ (ir2 rfl (by simp) rfl)) ?_
  clear H3; intro x a4 wx4 hok4 H4
  obtain ⟨k, v⟩ := x
  dsimp only at hok4 H4
  have hok := hok4
  obtain ⟨Av, cv, hv, hRv, hmv⟩ := row_shape (v := v) H4.sep (by repeat (first | exact Mh | apply Mt))
  subst hv
  refine wp_seq ?_
  refine reg ?_
  refine plain (y_lss rfl rfl rfl) rfl rfl rfl H4 ?_
  clear H4; intro a5 H5
  refine fin ?_
  refine then_n ?_
  refine wp_seq ?_
  refine cnd H5 rfl (fun hc6 => ?_) (fun hc6 => ?_) -- cond 1
  · skip
    try simp only [decide_eq_true_eq, decide_eq_false_iff_not, Bool.not_eq_true', Bool.not_eq_false', Bool.and_eq_true, Bool.not_eq_true, Bool.not_eq_false] at hc6
    refine wp_skip ?_
    refine then_n ?_
    refine wp_seq ?_
    refine wp_block ?_
    refine wp_seq ?_
    refine reg ?_
    refine plain (y_ixR rfl Tryd.underlying23 z_size3 rfl rfl (by omega) (by omega) (fun w' hs' => hR w' _ hs') (by rw [List.length_map]; omega)) rfl rfl rfl H5 ?_
    clear H5; intro a7 H7
    refine plain (y_loadR rfl z_agg3 rfl (fun w' hs' => hR w' _ hs') (by rw [Nat.mul_one]; exact i64_get ns (k : Int).toNat (by omega))) rfl rfl rfl H7 ?_
    clear H7; intro a8 H8
    refine plain (y_assign rfl rfl) rfl rfl rfl H8 ?_
    clear H8; intro a9 H9
    refine fin ?_
    refine then_n ?_
    refine wp_seq ?_
    refine reg ?_
    refine plain (y_move rfl rfl) rfl rfl rfl H9 ?_
    clear H9; intro a10 H10
    refine st_callg rfl z_call82 rfl rfl rfl rfl H10 (num _ (by have := hb (ns.getD k 0) (by rw [Oct.getD_eq 0 (by omega)]; exact List.getElem_mem _); simpa using this) _) ?_
    clear H10; intro a11 wx11 H11
    refine plain (y_move rfl rfl) rfl rfl rfl H11 ?_
    clear H11; intro a12 H12
    refine plain (y_extract rfl rfl rfl) rfl rfl rfl H12 ?_
    clear H12; intro a13 H13
    refine plain (y_extract rfl rfl rfl) rfl rfl rfl H13 ?_
    clear H13; intro a14 H14
    refine plain (y_assign rfl rfl) rfl rfl rfl H14 ?_
    clear H14; intro a15 H15
    refine plain (y_assign rfl rfl) rfl rfl rfl H15 ?_
    clear H15; intro a16 H16
    refine fin ?_
    refine then_n ?_
    refine reg ?_
    refine plain (y_loadB rfl z_agg122 rfl (by repeat (first | exact Mh | apply Mt)) q_ix_c1_0) rfl rfl rfl H16 ?_
    clear H16; intro a17 H17
    refine plain (y_move rfl rfl) rfl rfl rfl H17 ?_
    clear H17; intro a18 H18
    refine st_buildSlice1 (xs := [.tmp 19]) rfl Tryd.underlying122 z_size9 z_zero9 rfl rfl rfl rfl rfl rfl rfl rfl rfl H18 ?_
    clear H18; intro b19 a19 wx19 H19
    refine st_append rfl z_slice122 z_notint122 rfl rfl (fun _ => (by repeat (first | exact Uh | apply Ut))) (fun w hs => Src.slice ((rd_blkA (by repeat (first | exact Mh | apply Mt))) w hs) rfl (by simp [Value.oneCell'])) (by unfold maxLen at *; first | omega | (simp only [List.length_cons, List.length_nil, List.length_append, List.length_map]; omega)) (by omega) rfl rfl rfl H19 ?_
    clear H19; intro v20 a20 wx20 hnil20 H20
    obtain ⟨ArP, crP, hvrP, hRrP, hmrP⟩ := row_shape (v := v20) H20.sep (by repeat (first | exact Mh | apply Mt))
    subst hvrP
    refine st_store1N rfl z_size122 rfl rfl rfl (by repeat (first | exact Uh | apply Ut)) q_len_c1 q_set_c1_0 (by decide) rfl rfl H20 ?_
    clear H20; intro wx21 H21
    refine fin ?_
    refine inb_n ?_
    refine then_n ?_
    refine reg ?_
    refine plain (y_add rfl rfl rfl (by first | exact w64 (by omega) (by omega) | rfl)) rfl rfl rfl H21 ?_
    clear H21; intro a22 H22
    refine plain (y_move rfl rfl) rfl rfl rfl H22 ?_
    clear H22; intro a23 H23
    refine fin ?_
    refine then_n ?_
    refine ⟨(k + 1, .slice ArP (L.length + k + 1) crP), by dsimp only; omega, by dsimp only; omega, (H23.drop (List.Sublist.cons _ (List.Sublist.refl _))).weak ⟨rfl, rfl, rfl, fi rfl (by dsimp only; omega), trivial⟩ ?_⟩
    rw [Oct.take_succ 0 (by omega)]
    simp [Nat.add_assoc]
    rfl
  · skip
    try simp only [decide_eq_true_eq, decide_eq_false_iff_not, Bool.not_eq_true', Bool.not_eq_false', Bool.and_eq_true, Bool.not_eq_true, Bool.not_eq_false] at hc6
    refine wp_exit ?_
    refine then_x ?_
    refine then_x ?_
    refine inb_hit ?_
    -- return 1
    refine end0 rfl H5 ?_
    refine ⟨_, _, rfl, ⟨rfl, .slice Av (L.length + k) cv, ?_⟩, H5.sep⟩
    rw [List.take_of_length_le (by omega), show ns.length = k by omega]

end Go.Proofs.YtaeahloenahelaaDoor.A_Bput

set_option linter.unusedVariables false
set_option linter.unusedSimpArgs false
namespace Go.Proofs.YtaeahloenahelaaDoor.A_Body
open Go.Sx Go.RowKit Go.Proofs.YtaeahloenahelaaDoor.A_Num Go.Proofs.YtaeahloenahelaaDoor.A_Tx Go.Proofs.YtaeahloenahelaaDoor.A_Bput

theorem z_agg50 : aggB Tryd.prog 50 = some true := by kernel_rfl
theorem z_size50 : sizeB Tryd.prog 50 = some 72 := by kernel_rfl
theorem q_ld_c8b32b32_0_72 {a0 a1 a2 a3 a4 a5 a6 a7 : Value} {t8 t9 : List UInt8} (h8 : t8.length = 32) (h9 : t9.length = 32) : ((a0 :: a1 :: a2 :: a3 :: a4 :: a5 :: a6 :: a7 :: (t8.map u8 ++ (t9.map u8))).drop 0).take 72 = a0 :: a1 :: a2 :: a3 :: a4 :: a5 :: a6 :: a7 :: (t8.map u8 ++ (t9.map u8)) := (ld_a (len_c (n := 71) (len_c (n := 70) (len_c (n := 69) (len_c (n := 68) (len_c (n := 67) (len_c (n := 66) (len_c (n := 65) (len_c (n := 64) (len_b (k := 32) (n := 32) h8 (len_e (k := 32) h9)))))))))))
theorem q_len_c8b32b32 {a0 a1 a2 a3 a4 a5 a6 a7 : Value} {t8 t9 : List UInt8} (h8 : t8.length = 32) (h9 : t9.length = 32) : (a0 :: a1 :: a2 :: a3 :: a4 :: a5 :: a6 :: a7 :: (t8.map u8 ++ (t9.map u8))).length = 72 := (len_c (n := 71) (len_c (n := 70) (len_c (n := 69) (len_c (n := 68) (len_c (n := 67) (len_c (n := 66) (len_c (n := 65) (len_c (n := 64) (len_b (k := 32) (n := 32) h8 (len_e (k := 32) h9))))))))))
theorem z_call57 : callB Tryd.prog 57 = true := by kernel_rfl
theorem z_zeroN122 : zeroL Tryd.prog 122 = some ((.slice none 0 0 :: [])) := by kernel_rfl
theorem z_field50_0 : fieldB Tryd.prog 50 0 = some 0 := by kernel_rfl
theorem z_agg3 : aggB Tryd.prog 3 = some false := by kernel_rfl
theorem q_ix_c8b32b32_0 {a0 a1 a2 a3 a4 a5 a6 a7 : Value} {t8 t9 : List UInt8} : (a0 :: a1 :: a2 :: a3 :: a4 :: a5 :: a6 :: a7 :: (t8.map u8 ++ (t9.map u8)))[0]? = some a0 := ix_0
theorem z_field50_1 : fieldB Tryd.prog 50 1 = some 1 := by kernel_rfl
theorem q_ix_c8b32b32_1 {a0 a1 a2 a3 a4 a5 a6 a7 : Value} {t8 t9 : List UInt8} : (a0 :: a1 :: a2 :: a3 :: a4 :: a5 :: a6 :: a7 :: (t8.map u8 ++ (t9.map u8)))[1]? = some a1 := (ix_c (o := 0) ix_0)
theorem z_field50_2 : fieldB Tryd.prog 50 2 = some 2 := by kernel_rfl
theorem q_ix_c8b32b32_2 {a0 a1 a2 a3 a4 a5 a6 a7 : Value} {t8 t9 : List UInt8} : (a0 :: a1 :: a2 :: a3 :: a4 :: a5 :: a6 :: a7 :: (t8.map u8 ++ (t9.map u8)))[2]? = some a2 := (ix_c (o := 1) (ix_c (o := 0) ix_0))
theorem z_field50_3 : fieldB Tryd.prog 50 3 = some 3 := by kernel_rfl
theorem q_ix_c8b32b32_3 {a0 a1 a2 a3 a4 a5 a6 a7 : Value} {t8 t9 : List UInt8} : (a0 :: a1 :: a2 :: a3 :: a4 :: a5 :: a6 :: a7 :: (t8.map u8 ++ (t9.map u8)))[3]? = some a3 := (ix_c (o := 2) (ix_c (o := 1) (ix_c (o := 0) ix_0)))
theorem z_size3 : sizeB Tryd.prog 3 = some 1 := by kernel_rfl
theorem z_zero3 : zeroL Tryd.prog 3 = some ([.int .i64 0]) := by kernel_rfl
theorem z_call81 : callB Tryd.prog 81 = true := by kernel_rfl
theorem z_agg122 : aggB Tryd.prog 122 = some false := by kernel_rfl
theorem q_ix_c1_0 {a0 : Value} : (a0 :: [])[0]? = some a0 := ix_0
theorem z_field50_4 : fieldB Tryd.prog 50 4 = some 4 := by kernel_rfl
theorem z_agg9 : aggB Tryd.prog 9 = some false := by kernel_rfl
theorem q_ix_c8b32b32_4 {a0 a1 a2 a3 a4 a5 a6 a7 : Value} {t8 t9 : List UInt8} : (a0 :: a1 :: a2 :: a3 :: a4 :: a5 :: a6 :: a7 :: (t8.map u8 ++ (t9.map u8)))[4]? = some a4 := (ix_c (o := 3) (ix_c (o := 2) (ix_c (o := 1) (ix_c (o := 0) ix_0))))
theorem z_size9 : sizeB Tryd.prog 9 = some 1 := by kernel_rfl
theorem z_zero9 : zeroL Tryd.prog 9 = some ([.string ⟨#[]⟩]) := by kernel_rfl
theorem z_slice122 : sliceB Tryd.prog 122 = some (9, 1, 16) := by kernel_rfl
theorem z_notint122 : notIntB Tryd.prog 122 = true := by kernel_rfl
theorem z_size122 : sizeB Tryd.prog 122 = some 1 := by kernel_rfl
theorem q_len_c1 {a0 : Value} : (a0 :: []).length = 1 := (len_c (n := 0) len_n)
theorem q_set_c1_0 {a0 : Value} {v : Value} : (a0 :: []).set 0 v = v :: [] := set_0
theorem z_field50_5 : fieldB Tryd.prog 50 5 = some 5 := by kernel_rfl
theorem z_agg4 : aggB Tryd.prog 4 = some false := by kernel_rfl
theorem q_ix_c8b32b32_5 {a0 a1 a2 a3 a4 a5 a6 a7 : Value} {t8 t9 : List UInt8} : (a0 :: a1 :: a2 :: a3 :: a4 :: a5 :: a6 :: a7 :: (t8.map u8 ++ (t9.map u8)))[5]? = some a5 := (ix_c (o := 4) (ix_c (o := 3) (ix_c (o := 2) (ix_c (o := 1) (ix_c (o := 0) ix_0)))))
theorem z_field50_6 : fieldB Tryd.prog 50 6 = some 6 := by kernel_rfl
theorem q_ix_c8b32b32_6 {a0 a1 a2 a3 a4 a5 a6 a7 : Value} {t8 t9 : List UInt8} : (a0 :: a1 :: a2 :: a3 :: a4 :: a5 :: a6 :: a7 :: (t8.map u8 ++ (t9.map u8)))[6]? = some a6 := (ix_c (o := 5) (ix_c (o := 4) (ix_c (o := 3) (ix_c (o := 2) (ix_c (o := 1) (ix_c (o := 0) ix_0))))))
theorem z_field50_7 : fieldB Tryd.prog 50 7 = some 7 := by kernel_rfl
theorem q_ix_c8b32b32_7 {a0 a1 a2 a3 a4 a5 a6 a7 : Value} {t8 t9 : List UInt8} : (a0 :: a1 :: a2 :: a3 :: a4 :: a5 :: a6 :: a7 :: (t8.map u8 ++ (t9.map u8)))[7]? = some a7 := (ix_c (o := 6) (ix_c (o := 5) (ix_c (o := 4) (ix_c (o := 3) (ix_c (o := 2) (ix_c (o := 1) (ix_c (o := 0) ix_0)))))))
theorem z_call83 : callB Tryd.prog 83 = true := by kernel_rfl

set_option maxRecDepth 100000 in
set_option maxHeartbeats 4000000 in
theorem tbody (t : Txs.Tx) (wf : Txs.Tx.Wf t) (w : World) : Calls Tryd.prog 59 #[.agg (Txs.Tx.cells t).toArray] w (Gives (.tuple #[str (Txs.body t).1, .int .i64 (Txs.body t).2]) [] w) := by
  have whd := wf.hand
  have wtg := wf.tag
  have lz32 : (List.replicate 32 (0 : UInt8)).length = 32 := List.length_replicate
  have lz0 := wf.hand
  have lz1 := wf.tag
  refine enterL (args := [.agg (Txs.Tx.cells t).toArray]) Tryd.func59 rfl rfl (l := []) (Sep.refl _) ?_
  intro a0 H0
  refine wp_seq ?_
  refine reg ?_
  refine st_box rfl rfl (agg_cells _) rfl rfl rfl H0 ?_
  clear H0; intro b1 a1 wx1 H1
  refine plain (y_assign rfl rfl) rfl rfl rfl H1 ?_
  clear H1; intro a2 H2
  refine plain (y_assign rfl rfl) rfl rfl rfl H2 ?_
  clear H2; intro a3 H3
  refine fin ?_
  refine then_n ?_
  refine wp_seq ?_
  refine wp_seq ?_
  refine reg ?_
  refine plain (y_loadAB rfl z_agg50 z_size50 rfl (by repeat (first | exact Mh | apply Mt)) (q_ld_c8b32b32_0_72 (by assumption) (by assumption)) (q_len_c8b32b32 (by assumption) (by assumption))) rfl rfl rfl H3 ?_
  clear H3; intro a4 H4
  refine st_callg rfl z_call57 rfl rfl rfl rfl H4 (tcheck t wf _) ?_
  clear H4; intro a5 wx5 H5
  refine plain (y_assign rfl rfl) rfl rfl rfl H5 ?_
  clear H5; intro a6 H6
  refine fin ?_
  refine then_n ?_
  refine wp_seq ?_
  refine reg ?_
  refine plain (y_move rfl rfl) rfl rfl rfl H6 ?_
  clear H6; intro a7 H7
  refine plain (y_neq rfl rfl rfl) rfl rfl rfl H7 ?_
  clear H7; intro a8 H8
  refine fin ?_
  refine then_n ?_
  refine cnd H8 rfl (fun hc9 => ?_) (fun hc9 => ?_) -- cond 1
  · skip
    try simp only [decide_eq_true_eq, decide_eq_false_iff_not, Bool.not_eq_true', Bool.not_eq_false', Bool.and_eq_true, Bool.not_eq_true, Bool.not_eq_false] at hc9
    have hbad0 := hc9
    refine wp_seq ?_
    refine reg ?_
    refine plain (y_move rfl rfl) rfl rfl rfl H8 ?_
    clear H8; intro a10 H10
    refine plain (y_assign rfl rfl) rfl rfl rfl H10 ?_
    clear H10; intro a11 H11
    refine plain (y_assign rfl rfl) rfl rfl rfl H11 ?_
    clear H11; intro a12 H12
    refine fin ?_
    refine then_n ?_
    refine wp_ret ?_
    refine then_r ?_
    -- return 1
    refine ret2 rfl H12 rfl rfl ?_
    first | (have hbad := hbad0; exact ⟨_, [], rfl, ⟨by rw [Txs.body_bad hbad], rfl⟩, H12.sep.sub (List.nil_sublist _)⟩) | exact ⟨_, [], rfl, ⟨by rw [Txs.body_yes hgood], rfl⟩, H12.sep.sub (List.nil_sublist _)⟩
  · skip
    try simp only [decide_eq_true_eq, decide_eq_false_iff_not, Bool.not_eq_true', Bool.not_eq_false', Bool.and_eq_true, Bool.not_eq_true, Bool.not_eq_false] at hc9
    have hgood := hc9
    refine wp_skip ?_
    refine then_n ?_
    refine wp_seq ?_
    refine reg ?_
    refine st_alloc rfl z_zeroN122 rfl rfl rfl H8 ?_
    clear H8; intro b13 a13 wx13 H13
    refine fin ?_
    refine then_n ?_
    refine wp_seq ?_
    refine reg ?_
    refine plain (y_fn rfl rfl rfl) rfl rfl rfl H13 ?_
    clear H13; intro a14 H14
    refine plain (y_assign rfl rfl) rfl rfl rfl H14 ?_
    clear H14; intro a15 H15
    refine fin ?_
    refine then_n ?_
    refine wp_seq ?_
    replace H15 := H15.nilRow 9 1
    refine reg ?_
    refine plain (y_move rfl rfl) rfl rfl rfl H15 ?_
    clear H15; intro a16 H16
    refine plain (y_fieldB rfl z_field50_0 rfl (by first | (simp only [Nat.zero_add, Nat.add_zero, Nat.reduceAdd]; rfl) | rfl)) rfl rfl rfl H16 ?_
    clear H16; intro a17 H17
    refine plain (y_loadB rfl z_agg3 rfl (by repeat (first | exact Mh | apply Mt)) q_ix_c8b32b32_0) rfl rfl rfl H17 ?_
    clear H17; intro a18 H18
    refine plain (y_fieldB rfl z_field50_1 rfl (by first | (simp only [Nat.zero_add, Nat.add_zero, Nat.reduceAdd]; rfl) | rfl)) rfl rfl rfl H18 ?_
    clear H18; intro a19 H19
    refine plain (y_loadB rfl z_agg3 rfl (by repeat (first | exact Mh | apply Mt)) q_ix_c8b32b32_1) rfl rfl rfl H19 ?_
    clear H19; intro a20 H20
    refine plain (y_fieldB rfl z_field50_2 rfl (by first | (simp only [Nat.zero_add, Nat.add_zero, Nat.reduceAdd]; rfl) | rfl)) rfl rfl rfl H20 ?_
    clear H20; intro a21 H21
    refine plain (y_loadB rfl z_agg3 rfl (by repeat (first | exact Mh | apply Mt)) q_ix_c8b32b32_2) rfl rfl rfl H21 ?_
    clear H21; intro a22 H22
    refine plain (y_fieldB rfl z_field50_3 rfl (by first | (simp only [Nat.zero_add, Nat.add_zero, Nat.reduceAdd]; rfl) | rfl)) rfl rfl rfl H22 ?_
    clear H22; intro a23 H23
    refine plain (y_loadB rfl z_agg3 rfl (by repeat (first | exact Mh | apply Mt)) q_ix_c8b32b32_3) rfl rfl rfl H23 ?_
    clear H23; intro a24 H24
    refine st_buildSlice1 (xs := [.tmp 15, .tmp 17, .tmp 19, .tmp 21]) rfl Tryd.underlying23 z_size3 z_zero3 rfl rfl rfl rfl rfl rfl rfl rfl rfl H24 ?_
    clear H24; intro b25 a25 wx25 H25
    refine st_callk1 (is := [It.row 9 1 (.slice none 0 0) 0 (([]).map str), It.blk b13 122 [(.slice none 0 0)]]) (enters_callv (all := [.slice (some ⟨b25, 0, none⟩) 4 4, .pointer (some ⟨b13, 0, none⟩)]) rfl rfl z_call81 rfl rfl) rfl rfl rfl H25 (.cons (by repeat (first | exact Ph | apply Pt)) (.cons (by repeat (first | exact Ph | apply Pt)) (.nil _))) (fun hs hz => bput b13 _ (.slice none 0 0) ([]) rfl (by simp) [t.src, t.nonce, t.fee, t.dst] (by simp) (by intro x hx; simp only [List.mem_cons, List.not_mem_nil, or_false] at hx; rcases hx with rfl | rfl | rfl | rfl <;> first | exact wf.src.2 | exact wf.nonce.2 | exact wf.fee.2 | exact wf.dst.2) _ _ _ (by simp) hs (fun w' l hs' => rd_blkP (Sep.kept H25.sep (.cons (by repeat (first | exact Ph | apply Pt)) (.cons (by repeat (first | exact Ph | apply Pt)) (.nil _))) (by repeat (first | exact Mh | apply Mt)) hs'.frm))) ?_
    clear H25; intro v26 l26 a26 wx26 hf26 H26
    obtain ⟨rfl, vn26, rfl⟩ := hf26
    simp only [List.cons_append, List.nil_append, List.map_cons, List.map_nil, List.length_cons, List.length_nil, Nat.zero_add, Nat.reduceAdd] at H26
    obtain ⟨ArQ26, crQ26, hvQ26, hRQ26, hmQ26⟩ := row_shape (v := vn26) H26.sep (by repeat (first | exact Mh | apply Mt))
    subst hvQ26
    refine fin ?_
    refine then_n ?_
    refine wp_seq ?_
    refine reg ?_
    refine plain (y_loadB rfl z_agg122 rfl (by repeat (first | exact Mh | apply Mt)) q_ix_c1_0) rfl rfl rfl H26 ?_
    clear H26; intro a27 H27
    refine plain (y_fieldB rfl z_field50_4 rfl (by first | (simp only [Nat.zero_add, Nat.add_zero, Nat.reduceAdd]; rfl) | rfl)) rfl rfl rfl H27 ?_
    clear H27; intro a28 H28
    refine plain (y_loadB rfl z_agg9 rfl (by repeat (first | exact Mh | apply Mt)) q_ix_c8b32b32_4) rfl rfl rfl H28 ?_
    clear H28; intro a29 H29
    refine st_buildSlice1 (xs := [.tmp 26]) rfl Tryd.underlying122 z_size9 z_zero9 rfl rfl rfl rfl rfl rfl rfl rfl rfl H29 ?_
    clear H29; intro b30 a30 wx30 H30
    refine st_append rfl z_slice122 z_notint122 rfl rfl (fun _ => (by repeat (first | exact Uh | apply Ut))) (fun w hs => Src.slice ((rd_blkA (by repeat (first | exact Mh | apply Mt))) w hs) rfl (by simp [Value.oneCell'])) (by unfold maxLen at *; first | omega | (simp only [List.length_cons, List.length_nil, List.length_append, List.length_map]; omega)) (by omega) rfl rfl rfl H30 ?_
    clear H30; intro v31 a31 wx31 hnil31 H31
    obtain ⟨ArD, crD, hvrD, hRrD, hmrD⟩ := row_shape (v := v31) H31.sep (by repeat (first | exact Mh | apply Mt))
    subst hvrD
    refine st_store1N rfl z_size122 rfl rfl rfl (by repeat (first | exact Uh | apply Ut)) q_len_c1 q_set_c1_0 (by decide) rfl rfl H31 ?_
    clear H31; intro wx32 H32
    refine fin ?_
    refine then_n ?_
    refine wp_seq ?_
    refine wp_seq ?_
    refine reg ?_
    refine plain (y_fieldB rfl z_field50_5 rfl (by first | (simp only [Nat.zero_add, Nat.add_zero, Nat.reduceAdd]; rfl) | rfl)) rfl rfl rfl H32 ?_
    clear H32; intro a33 H33
    refine plain (y_loadB rfl z_agg4 rfl (by repeat (first | exact Mh | apply Mt)) q_ix_c8b32b32_5) rfl rfl rfl H33 ?_
    clear H33; intro a34 H34
    refine fin ?_
    refine then_n ?_
    refine cnd H34 rfl (fun hc35 => ?_) (fun hc35 => ?_) -- cond 2
    · skip
      try simp only [decide_eq_true_eq, decide_eq_false_iff_not, Bool.not_eq_true', Bool.not_eq_false', Bool.and_eq_true, Bool.not_eq_true, Bool.not_eq_false] at hc35
      have hF := Txs.fields_yes hc35
      refine reg ?_
      refine plain (y_move rfl rfl) rfl rfl rfl H34 ?_
      clear H34; intro a36 H36
      refine plain (y_fieldB rfl z_field50_6 rfl (by first | (simp only [Nat.zero_add, Nat.add_zero, Nat.reduceAdd]; rfl) | rfl)) rfl rfl rfl H36 ?_
      clear H36; intro a37 H37
      refine plain (y_loadB rfl z_agg3 rfl (by repeat (first | exact Mh | apply Mt)) q_ix_c8b32b32_6) rfl rfl rfl H37 ?_
      clear H37; intro a38 H38
      refine plain (y_fieldB rfl z_field50_7 rfl (by first | (simp only [Nat.zero_add, Nat.add_zero, Nat.reduceAdd]; rfl) | rfl)) rfl rfl rfl H38 ?_
      clear H38; intro a39 H39
      refine plain (y_loadB rfl z_agg3 rfl (by repeat (first | exact Mh | apply Mt)) q_ix_c8b32b32_7) rfl rfl rfl H39 ?_
      clear H39; intro a40 H40
      refine st_buildSlice1 (xs := [.tmp 33, .tmp 35]) rfl Tryd.underlying23 z_size3 z_zero3 rfl rfl rfl rfl rfl rfl rfl rfl rfl H40 ?_
      clear H40; intro b41 a41 wx41 H41
      refine st_callk1 (is := [It.row 9 1 (.slice ArD 5 crD) 5 (([Note.num t.src, Note.num t.nonce, Note.num t.fee, Note.num t.dst, t.data]).map str), It.blk b13 122 [(.slice ArD 5 crD)]]) (enters_callv (all := [.slice (some ⟨b41, 0, none⟩) 2 2, .pointer (some ⟨b13, 0, none⟩)]) rfl rfl z_call81 rfl rfl) rfl rfl rfl H41 (.cons (by repeat (first | exact Ph | apply Pt)) (.cons (by repeat (first | exact Ph | apply Pt)) (.nil _))) (fun hs hz => bput b13 _ (.slice ArD 5 crD) ([Note.num t.src, Note.num t.nonce, Note.num t.fee, Note.num t.dst, t.data]) rfl (by simp) [t.round, t.turn] (by simp) (by intro x hx; simp only [List.mem_cons, List.not_mem_nil, or_false] at hx; rcases hx with rfl | rfl <;> first | exact wf.round.2 | exact wf.turn.2) _ _ _ (by simp) hs (fun w' l hs' => rd_blkP (Sep.kept H41.sep (.cons (by repeat (first | exact Ph | apply Pt)) (.cons (by repeat (first | exact Ph | apply Pt)) (.nil _))) (by repeat (first | exact Mh | apply Mt)) hs'.frm))) ?_
      clear H41; intro v42 l42 a42 wx42 hf42 H42
      obtain ⟨rfl, vn42, rfl⟩ := hf42
      simp only [List.cons_append, List.nil_append, List.map_cons, List.map_nil, List.length_cons, List.length_nil, Nat.zero_add, Nat.reduceAdd] at H42
      obtain ⟨ArQ42, crQ42, hvQ42, hRQ42, hmQ42⟩ := row_shape (v := vn42) H42.sep (by repeat (first | exact Mh | apply Mt))
      subst hvQ42
      refine fin ?_
      refine then_n ?_
      refine wp_seq ?_
      refine reg ?_
      refine plain (y_loadB rfl z_agg122 rfl (by repeat (first | exact Mh | apply Mt)) q_ix_c1_0) rfl rfl rfl H42 ?_
      clear H42; intro a43 H43
      refine st_callg rfl z_call83 rfl rfl rfl rfl H43 (lst (Txs.fields t) _ _ _ (by rw [hF]; rfl) (by rw [hF]; exact Rd.ofSep (rd_row (by repeat (first | exact Mh | apply Mt))) H43.sep) (by rw [hF]; simp [Txs.F4])) ?_
      clear H43; intro a44 wx44 H44
      refine plain (y_extract rfl rfl rfl) rfl rfl rfl H44 ?_
      clear H44; intro a45 H45
      refine plain (y_extract rfl rfl rfl) rfl rfl rfl H45 ?_
      clear H45; intro a46 H46
      refine plain (y_assign rfl rfl) rfl rfl rfl H46 ?_
      clear H46; intro a47 H47
      refine plain (y_assign rfl rfl) rfl rfl rfl H47 ?_
      clear H47; intro a48 H48
      refine fin ?_
      refine then_n ?_
      refine wp_ret ?_
      -- return 2
      refine ret2 rfl H48 rfl rfl ?_
      first | (have hbad := hbad0; exact ⟨_, [], rfl, ⟨by rw [Txs.body_bad hbad], rfl⟩, H48.sep.sub (List.nil_sublist _)⟩) | exact ⟨_, [], rfl, ⟨by rw [Txs.body_yes hgood], rfl⟩, H48.sep.sub (List.nil_sublist _)⟩
    · skip
      try simp only [decide_eq_true_eq, decide_eq_false_iff_not, Bool.not_eq_true', Bool.not_eq_false', Bool.and_eq_true, Bool.not_eq_true, Bool.not_eq_false] at hc35
      have hF := Txs.fields_no hc35
      refine wp_skip ?_
      refine then_n ?_
      refine wp_seq ?_
      refine reg ?_
      refine plain (y_loadB rfl z_agg122 rfl (by repeat (first | exact Mh | apply Mt)) q_ix_c1_0) rfl rfl rfl H34 ?_
      clear H34; intro a49 H49
      refine st_callg rfl z_call83 rfl rfl rfl rfl H49 (lst (Txs.fields t) _ _ _ (by rw [hF]; rfl) (by rw [hF]; exact Rd.ofSep (rd_row (by repeat (first | exact Mh | apply Mt))) H49.sep) (by rw [hF]; simp [Txs.F4])) ?_
      clear H49; intro a50 wx50 H50
      refine plain (y_extract rfl rfl rfl) rfl rfl rfl H50 ?_
      clear H50; intro a51 H51
      refine plain (y_extract rfl rfl rfl) rfl rfl rfl H51 ?_
      clear H51; intro a52 H52
      refine plain (y_assign rfl rfl) rfl rfl rfl H52 ?_
      clear H52; intro a53 H53
      refine plain (y_assign rfl rfl) rfl rfl rfl H53 ?_
      clear H53; intro a54 H54
      refine fin ?_
      refine then_n ?_
      refine wp_ret ?_
      -- return 3
      refine ret2 rfl H54 rfl rfl ?_
      first | (have hbad := hbad0; exact ⟨_, [], rfl, ⟨by rw [Txs.body_bad hbad], rfl⟩, H54.sep.sub (List.nil_sublist _)⟩) | exact ⟨_, [], rfl, ⟨by rw [Txs.body_yes hgood], rfl⟩, H54.sep.sub (List.nil_sublist _)⟩

end Go.Proofs.YtaeahloenahelaaDoor.A_Body

set_option linter.unusedVariables false
set_option linter.unusedSimpArgs false
namespace Go.Proofs.YtaeahloenahelaaDoor.A_Leaf
open Go.Sx Go.RowKit Go.Proofs.YtaeahloenahelaaDoor.A_Block Go.Proofs.YtaeahloenahelaaDoor.A_Sum Go.Proofs.YtaeahloenahelaaDoor.A_Ref Go.Proofs.YtaeahloenahelaaDoor.A_RSum

theorem z_zero28 : zeroL Tryd.prog 28 = some (List.replicate 32 (.int .u8 0)) := by kernel_rfl
theorem z_size5 : sizeB Tryd.prog 5 = some 1 := by kernel_rfl
theorem z_call69 : callB Tryd.prog 69 = true := by kernel_rfl
theorem z_size28 : sizeB Tryd.prog 28 = some 32 := by kernel_rfl
theorem z_agg28 : aggB Tryd.prog 28 = some true := by kernel_rfl
theorem z_zero5 : zeroL Tryd.prog 5 = some ([.int .u8 0]) := by kernel_rfl
theorem z_agg5 : aggB Tryd.prog 5 = some false := by kernel_rfl
theorem z_slice118 : sliceB Tryd.prog 118 = some (5, 1, 1) := by kernel_rfl
theorem z_notint118 : notIntB Tryd.prog 118 = true := by kernel_rfl

set_option maxRecDepth 100000 in
set_option maxHeartbeats 1000000 in
theorem rbytes (h : List UInt8) (hh : h.length = 32) (w : World) : Calls Tryd.prog 71 #[.agg (h.map u8).toArray] w (Gives (str h) [] w) := by
  refine enterL (args := [.agg (h.map u8).toArray]) Tryd.func71 rfl rfl (l := []) (Sep.refl _) ?_
  intro a0 H0
  refine wp_seq ?_
  refine reg ?_
  refine st_box rfl rfl rfl rfl rfl rfl H0 ?_
  clear H0; intro b1 a1 wx1 H1
  refine plain (y_assign rfl rfl) rfl rfl rfl H1 ?_
  clear H1; intro a2 H2
  refine fin ?_
  refine then_n ?_
  refine wp_seq ?_
  refine reg ?_
  refine st_buildSlice1 (xs := []) rfl Tryd.underlying118 z_size5 z_zero5 rfl rfl rfl rfl rfl rfl rfl rfl rfl H2 ?_
  clear H2; intro b3 a3 wx3 H3
  refine plain (y_assign rfl rfl) rfl rfl rfl H3 ?_
  clear H3; intro a4 H4
  refine fin ?_
  refine then_n ?_
  refine wp_seq ?_
  refine wp_seq ?_
  refine reg ?_
  refine plain (y_assign rfl rfl) rfl rfl rfl H4 ?_
  clear H4; intro a5 H5
  refine fin ?_
  refine then_n ?_
  refine wp_block ?_
  replace H5 := H5.asRow (size := 1) (m := 0) (by repeat (first | exact Uh | apply Ut)) rfl (by unfold maxLen; omega)
  refine loop (ι := Nat × Value) (fun x => [(1, .pointer (some ⟨b1, 0, none⟩)), (3, x.2), (4, .int .i64 (x.1 : Int))]) (fun x => [It.row 5 1 x.2 x.1 ((h.take x.1).map u8), It.blk b1 28 (h.map u8)]) (fun x => x.1 ≤ 32) (fun x => 32 - x.1) ((0, .slice (some ⟨b3, 0, none⟩) 0 0)) (Nat.zero_le _) (H5.weak ⟨rfl, rfl, rfl, trivial⟩ (by rw [List.take_zero]; rfl)) ?_
  clear H5; intro x a6 wx6 hok6 H6
  obtain ⟨k, v⟩ := x
  dsimp only at hok6 H6
  have hok := hok6
  obtain ⟨A0, c0, hv0, hR0, hm0⟩ := row_shape (v := v) H6.sep (by repeat (first | exact Mh | apply Mt))
  subst hv0
  refine wp_seq ?_
  refine wp_seq ?_
  refine reg ?_
  refine plain (y_move rfl rfl) rfl rfl rfl H6 ?_
  clear H6; intro a7 H7
  refine plain (y_lss rfl rfl rfl) rfl rfl rfl H7 ?_
  clear H7; intro a8 H8
  refine fin ?_
  refine then_n ?_
  refine cnd_d H8 rfl (fun hc9 => ?_) (fun hc9 => ?_) -- cond 1
  · skip
    refine wp_skip ?_
    refine then_n ?_
    refine wp_seq ?_
    refine wp_block ?_
    refine reg ?_
    refine plain (y_move rfl rfl) rfl rfl rfl H8 ?_
    clear H8; intro a10 H10
    refine plain (y_move rfl rfl) rfl rfl rfl H10 ?_
    clear H10; intro a11 H11
    refine plain (y_ixA rfl Tryd.underlying28 z_size5 rfl rfl (by omega) (by omega) rfl) rfl rfl rfl H11 ?_
    clear H11; intro a12 H12
    refine plain (y_loadB rfl z_agg5 rfl (by repeat (first | exact Mh | apply Mt)) (by rw [show 0 + (k : Int).toNat * 1 = k by omega]; exact map_get u8 _ _ 0 (by omega))) rfl rfl rfl H12 ?_
    clear H12; intro a13 H13
    refine st_buildSlice1 (xs := [.tmp 13]) rfl Tryd.underlying118 z_size5 z_zero5 rfl rfl rfl rfl rfl rfl rfl rfl rfl H13 ?_
    clear H13; intro b14 a14 wx14 H14
    refine st_append rfl z_slice118 z_notint118 rfl rfl (fun _ => (by repeat (first | exact Uh | apply Ut))) (fun w hs => Src.slice ((rd_blkA (by repeat (first | exact Mh | apply Mt))) w hs) rfl (by simp [Value.oneCell'])) (by unfold maxLen; omega) (by omega) rfl rfl rfl H14 ?_
    clear H14; intro v15 a15 wx15 hnil15 H15
    refine plain (y_assign rfl rfl) rfl rfl rfl H15 ?_
    clear H15; intro a16 H16
    refine fin ?_
    refine inb_n ?_
    refine then_n ?_
    refine reg ?_
    refine plain (y_move rfl rfl) rfl rfl rfl H16 ?_
    clear H16; intro a17 H17
    refine plain (y_add rfl rfl rfl (by first | exact w64 (by omega) (by omega) | rfl)) rfl rfl rfl H17 ?_
    clear H17; intro a18 H18
    refine plain (y_assign rfl rfl) rfl rfl rfl H18 ?_
    clear H18; intro a19 H19
    refine fin ?_
    refine then_n ?_
    refine ⟨(k + 1, v15), by dsimp only; omega, by dsimp only; omega, (H19.drop (List.Sublist.cons _ (List.Sublist.refl _))).weak ⟨rfl, rfl, fi rfl (by dsimp only; omega), trivial⟩ (ir2 (by first | (simp; omega) | simp) ?_ rfl)⟩
    rw [Oct.take_succ 0 (by omega), List.map_append]
    rfl
  · skip
    refine wp_exit ?_
    refine then_x ?_
    refine then_x ?_
    refine inb_hit ?_
    refine then_n ?_
    refine wp_seq ?_
    refine reg ?_
    refine plain (y_move rfl rfl) rfl rfl rfl H8 ?_
    clear H8; intro a20 H20
    refine plain (y_bstr (p := h.take k) rfl Tryd.underlying118 Tryd.underlying5 Tryd.underlying9 rfl (by rw [List.length_take]; omega) (rd_row (by repeat (first | exact Mh | apply Mt)))) rfl rfl rfl H20 ?_
    clear H20; intro a21 H21
    refine plain (y_assign rfl rfl) rfl rfl rfl H21 ?_
    clear H21; intro a22 H22
    refine fin ?_
    refine then_n ?_
    refine wp_ret ?_
    -- return 1
    refine ret1 rfl H22 rfl ?_
    exact ⟨_, [], rfl, ⟨by rw [List.take_of_length_le (by omega)], rfl⟩, H22.sep.sub (List.nil_sublist _)⟩

end Go.Proofs.YtaeahloenahelaaDoor.A_Leaf

set_option linter.unusedVariables false
set_option linter.unusedSimpArgs false
namespace Go.Proofs.YtaeahloenahelaaDoor.A_Key
open Go.Sx Go.RowKit Go.Proofs.YtaeahloenahelaaDoor.A_Block Go.Proofs.YtaeahloenahelaaDoor.A_Sum Go.Proofs.YtaeahloenahelaaDoor.A_Ref Go.Proofs.YtaeahloenahelaaDoor.A_RSum Go.Proofs.YtaeahloenahelaaDoor.A_Leaf Go.Proofs.YtaeahloenahelaaDoor.A_Num

theorem z_zero28 : zeroL Tryd.prog 28 = some (List.replicate 32 (.int .u8 0)) := by kernel_rfl
theorem z_size5 : sizeB Tryd.prog 5 = some 1 := by kernel_rfl
theorem z_call69 : callB Tryd.prog 69 = true := by kernel_rfl
theorem z_size28 : sizeB Tryd.prog 28 = some 32 := by kernel_rfl
theorem z_agg28 : aggB Tryd.prog 28 = some true := by kernel_rfl
theorem z_call82 : callB Tryd.prog 82 = true := by kernel_rfl
theorem z_call72 : callB Tryd.prog 72 = true := by kernel_rfl
theorem z_zero5 : zeroL Tryd.prog 5 = some ([.int .u8 0]) := by kernel_rfl
theorem z_call102 : callB Tryd.prog 102 = true := by kernel_rfl
theorem z_call103 : callB Tryd.prog 103 = true := by kernel_rfl

set_option maxRecDepth 100000 in
set_option maxHeartbeats 1000000 in
theorem dchain2 (h : List UInt8) (hh : h.length = 32) (s : List UInt8) (hs : s.length ≤ 140737488354900) {w : World} (hG : Glob 0 Sha.K w) : Calls Tryd.prog 103 #[.agg (h.map u8).toArray, str s] w (Gives (.agg ((Sha.sum (h ++ s)).map u8).toArray) [] w) := by
  refine enterL (args := [.agg (h.map u8).toArray, str s]) Tryd.func103 rfl rfl (l := []) (Sep.refl _) ?_
  intro a0 H0
  refine wp_seq ?_
  refine reg ?_
  refine st_box rfl rfl rfl rfl rfl rfl H0 ?_
  clear H0; intro b1 a1 wx1 H1
  refine st_alloc rfl z_zero28 rfl rfl rfl H1 ?_
  clear H1; intro b2 a2 wx2 H2
  refine fin ?_
  refine then_n ?_
  refine wp_seq ?_
  refine reg ?_
  refine plain (y_slA_all rfl Tryd.underlying28 z_size5 (by decide) rfl) rfl rfl rfl H2 ?_
  clear H2; intro a3 H3
  refine plain (y_bstr (p := h) rfl Tryd.underlying118 Tryd.underlying5 Tryd.underlying9 rfl hh.symm (rd_blkA (by repeat (first | exact Mh | apply Mt)))) rfl rfl rfl H3 ?_
  clear H3; intro a4 H4
  refine plain (y_move rfl rfl) rfl rfl rfl H4 ?_
  clear H4; intro a5 H5
  refine plain (y_sadd rfl rfl rfl (by omega)) rfl rfl rfl H5 ?_
  clear H5; intro a6 H6
  refine st_callg rfl z_call69 rfl rfl rfl rfl H6 (dsum _ (by rw [List.length_append]; omega) (hG.frm H6.sep.frm (by simp))) ?_
  clear H6; intro a7 wx7 H7
  refine st_store (vs := _) rfl z_size28 rfl rfl (show _ = List.map u8 _ from rfl) (one_u8 _) (by rw [List.length_map, Sha.sum_length]) (by repeat (first | exact Uh | apply Ut)) (by decide) rfl rfl H7 ?_
  clear H7; intro wx8 H8
  refine fin ?_
  refine then_n ?_
  refine wp_ret ?_
  -- return 1
  refine retc rfl H8 rfl z_agg28 z_size28 (by repeat (first | exact Mh | apply Mt)) (by rw [spl_all (by rw [List.length_map, Sha.sum_length]; rfl), List.length_map, Sha.sum_length]) ?_
  refine ⟨_, [], rfl, ⟨?_, rfl⟩, H8.sep.sub (List.nil_sublist _)⟩
  rw [spl_all (by rw [List.length_map, Sha.sum_length]; rfl)]
  try rfl
set_option maxRecDepth 100000 in
set_option maxHeartbeats 1000000 in
theorem skey (who : Int) (hw : -9223372036854775808 ≤ who ∧ who ≤ 9223372036854775807) {w : World} (hG : Glob 0 Sha.K w) : Calls Tryd.prog 102 #[.int .i64 who] w (Gives (.tuple #[.agg ((Seal.key who).1.map u8).toArray, .int .i64 (Seal.key who).2]) [] w) := by
  refine enterL (args := [.int .i64 who]) Tryd.func102 rfl rfl (l := []) (Sep.refl _) ?_
  intro a0 H0
  refine wp_seq ?_
  refine reg ?_
  refine st_alloc rfl z_zero28 rfl rfl rfl H0 ?_
  clear H0; intro b1 a1 wx1 H1
  refine plain (y_assign rfl rfl) rfl rfl rfl H1 ?_
  clear H1; intro a2 H2
  refine fin ?_
  refine then_n ?_
  refine wp_seq ?_
  refine wp_seq ?_
  refine reg ?_
  refine plain (y_move rfl rfl) rfl rfl rfl H2 ?_
  clear H2; intro a3 H3
  refine plain (y_lss rfl rfl rfl) rfl rfl rfl H3 ?_
  clear H3; intro a4 H4
  refine plain (y_move rfl rfl) rfl rfl rfl H4 ?_
  clear H4; intro a5 H5
  refine part_d (d := 8) H5 rfl (fun hg6 => ?_) (fun hg6 => ?_)
  · first
    | fail
    | skip
      clear H5; intro H7
      refine skip rfl rfl rfl H7 ?_
      clear H7; intro a8 H8
      refine skip rfl rfl rfl H8 ?_
      clear H8; intro a9 H9
      refine plain (y_pick_t rfl rfl rfl) rfl rfl rfl H9 ?_
      clear H9; intro a10 H10
      refine fin ?_
      refine then_n ?_
      refine cnd_t H10 rfl ?_
      refine wp_seq ?_
      refine reg ?_
      refine plain (y_buildA rfl z_zero28 Tryd.underlying28 z_size5 rfl rfl) rfl rfl rfl H10 ?_
      clear H10; intro a12 H12
      refine st_store (vs := _) rfl z_size28 rfl rfl rfl rfl rfl (by repeat (first | exact Uh | apply Ut)) (by decide) rfl rfl H12 ?_
      clear H12; intro wx13 H13
      refine plain (y_assign rfl rfl) rfl rfl rfl H13 ?_
      clear H13; intro a14 H14
      refine fin ?_
      refine then_n ?_
      refine wp_ret ?_
      refine then_r ?_
      -- return 1
      refine retct rfl H14 rfl z_agg28 z_size28 (by repeat (first | exact Mh | apply Mt)) rfl rfl ?_
      refine ⟨_, [], rfl, ⟨?_, rfl⟩, H14.sep.sub (List.nil_sublist _)⟩
      rw [Seal.key_bad (by omega)]
      rfl
  · first
    | fail
    | skip
      clear H5; intro H15
      refine plain (y_move rfl rfl) rfl rfl rfl H15 ?_
      clear H15; intro a16 H16
      refine plain (y_gtr rfl rfl rfl) rfl rfl rfl H16 ?_
      clear H16; intro a17 H17
      refine plain (y_pick_f rfl rfl rfl) rfl rfl rfl H17 ?_
      clear H17; intro a18 H18
      refine fin ?_
      refine then_n ?_
      refine cnd_d H18 rfl (fun hc19 => ?_) (fun hc19 => ?_) -- cond 2
      · skip
        refine wp_seq ?_
        refine reg ?_
        refine plain (y_buildA rfl z_zero28 Tryd.underlying28 z_size5 rfl rfl) rfl rfl rfl H18 ?_
        clear H18; intro a20 H20
        refine st_store (vs := _) rfl z_size28 rfl rfl rfl rfl rfl (by repeat (first | exact Uh | apply Ut)) (by decide) rfl rfl H20 ?_
        clear H20; intro wx21 H21
        refine plain (y_assign rfl rfl) rfl rfl rfl H21 ?_
        clear H21; intro a22 H22
        refine fin ?_
        refine then_n ?_
        refine wp_ret ?_
        refine then_r ?_
        -- return 2
        refine retct rfl H22 rfl z_agg28 z_size28 (by repeat (first | exact Mh | apply Mt)) rfl rfl ?_
        refine ⟨_, [], rfl, ⟨?_, rfl⟩, H22.sep.sub (List.nil_sublist _)⟩
        rw [Seal.key_bad (by omega)]
        rfl
      · skip
        refine wp_skip ?_
        refine then_n ?_
        refine wp_seq ?_
        refine reg ?_
        refine plain (y_move rfl rfl) rfl rfl rfl H18 ?_
        clear H18; intro a23 H23
        refine st_callg rfl z_call82 rfl rfl rfl rfl H23 (num _ (by omega) _) ?_
        clear H23; intro a24 wx24 H24
        refine plain (y_move rfl rfl) rfl rfl rfl H24 ?_
        clear H24; intro a25 H25
        refine plain (y_extract rfl rfl rfl) rfl rfl rfl H25 ?_
        clear H25; intro a26 H26
        refine plain (y_extract rfl rfl rfl) rfl rfl rfl H26 ?_
        clear H26; intro a27 H27
        refine plain (y_assign rfl rfl) rfl rfl rfl H27 ?_
        clear H27; intro a28 H28
        refine plain (y_assign rfl rfl) rfl rfl rfl H28 ?_
        clear H28; intro a29 H29
        refine fin ?_
        refine then_n ?_
        refine wp_seq ?_
        refine reg ?_
        refine plain (y_move rfl rfl) rfl rfl rfl H29 ?_
        clear H29; intro a30 H30
        refine plain (y_sadd rfl rfl rfl (by have := Oct.number_len (n := who) (by omega); simp only [List.length_cons, List.length_nil]; omega)) rfl rfl rfl H30 ?_
        clear H30; intro a31 H31
        refine st_callg rfl z_call69 rfl rfl rfl rfl H31 (dsum _ (by have := Oct.number_len (n := who) (by omega); simp only [List.length_append, List.length_cons, List.length_nil]; omega) (hG.frm H31.sep.frm (by simp))) ?_
        clear H31; intro a32 wx32 H32
        refine st_store (vs := _) rfl z_size28 rfl rfl (show _ = List.map u8 _ from rfl) (one_u8 _) (by rw [List.length_map, Sha.sum_length]) (by repeat (first | exact Uh | apply Ut)) (by decide) rfl rfl H32 ?_
        clear H32; intro wx33 H33
        refine plain (y_assign rfl rfl) rfl rfl rfl H33 ?_
        clear H33; intro a34 H34
        refine fin ?_
        refine then_n ?_
        refine wp_ret ?_
        -- return 3
        refine retct rfl H34 rfl z_agg28 z_size28 (by repeat (first | exact Mh | apply Mt)) (by rw [spl_all (by rw [List.length_map, Sha.sum_length]; rfl), List.length_map, Sha.sum_length]) rfl ?_
        refine ⟨_, [], rfl, ⟨?_, rfl⟩, H34.sep.sub (List.nil_sublist _)⟩
        rw [spl_all (by rw [List.length_map, Sha.sum_length]; rfl), Seal.key_ok (by omega)]
set_option maxRecDepth 100000 in
set_option maxHeartbeats 1000000 in
theorem rkey (who : Int) (hw : -9223372036854775808 ≤ who ∧ who ≤ 9223372036854775807) (w : World) : Calls Tryd.prog 97 #[.int .i64 who] w (Gives (.tuple #[.agg ((Seal.key who).1.map u8).toArray, .int .i64 (Seal.key who).2]) [] w) := by
  refine enterL (args := [.int .i64 who]) Tryd.func97 rfl rfl (l := []) (Sep.refl _) ?_
  intro a0 H0
  refine wp_seq ?_
  refine reg ?_
  refine st_alloc rfl z_zero28 rfl rfl rfl H0 ?_
  clear H0; intro b1 a1 wx1 H1
  refine plain (y_assign rfl rfl) rfl rfl rfl H1 ?_
  clear H1; intro a2 H2
  refine fin ?_
  refine then_n ?_
  refine wp_seq ?_
  refine wp_seq ?_
  refine reg ?_
  refine plain (y_move rfl rfl) rfl rfl rfl H2 ?_
  clear H2; intro a3 H3
  refine plain (y_lss rfl rfl rfl) rfl rfl rfl H3 ?_
  clear H3; intro a4 H4
  refine plain (y_move rfl rfl) rfl rfl rfl H4 ?_
  clear H4; intro a5 H5
  refine part_d (d := 6) H5 rfl (fun hg6 => ?_) (fun hg6 => ?_)
  · first
    | fail
    | skip
      clear H5; intro H7
      refine skip rfl rfl rfl H7 ?_
      clear H7; intro a8 H8
      refine skip rfl rfl rfl H8 ?_
      clear H8; intro a9 H9
      refine plain (y_pick_t rfl rfl rfl) rfl rfl rfl H9 ?_
      clear H9; intro a10 H10
      refine fin ?_
      refine then_n ?_
      refine cnd_t H10 rfl ?_
      refine wp_seq ?_
      refine reg ?_
      refine plain (y_buildA rfl z_zero28 Tryd.underlying28 z_size5 rfl rfl) rfl rfl rfl H10 ?_
      clear H10; intro a12 H12
      refine st_store (vs := _) rfl z_size28 rfl rfl rfl rfl rfl (by repeat (first | exact Uh | apply Ut)) (by decide) rfl rfl H12 ?_
      clear H12; intro wx13 H13
      refine plain (y_assign rfl rfl) rfl rfl rfl H13 ?_
      clear H13; intro a14 H14
      refine fin ?_
      refine then_n ?_
      refine wp_ret ?_
      refine then_r ?_
      -- return 1
      refine retct rfl H14 rfl z_agg28 z_size28 (by repeat (first | exact Mh | apply Mt)) rfl rfl ?_
      refine ⟨_, [], rfl, ⟨?_, rfl⟩, H14.sep.sub (List.nil_sublist _)⟩
      rw [Seal.key_bad (by omega)]
      rfl
  · first
    | fail
    | skip
      clear H5; intro H15
      refine plain (y_move rfl rfl) rfl rfl rfl H15 ?_
      clear H15; intro a16 H16
      refine plain (y_gtr rfl rfl rfl) rfl rfl rfl H16 ?_
      clear H16; intro a17 H17
      refine plain (y_pick_f rfl rfl rfl) rfl rfl rfl H17 ?_
      clear H17; intro a18 H18
      refine fin ?_
      refine then_n ?_
      refine cnd_d H18 rfl (fun hc19 => ?_) (fun hc19 => ?_) -- cond 2
      · skip
        refine wp_seq ?_
        refine reg ?_
        refine plain (y_buildA rfl z_zero28 Tryd.underlying28 z_size5 rfl rfl) rfl rfl rfl H18 ?_
        clear H18; intro a20 H20
        refine st_store (vs := _) rfl z_size28 rfl rfl rfl rfl rfl (by repeat (first | exact Uh | apply Ut)) (by decide) rfl rfl H20 ?_
        clear H20; intro wx21 H21
        refine plain (y_assign rfl rfl) rfl rfl rfl H21 ?_
        clear H21; intro a22 H22
        refine fin ?_
        refine then_n ?_
        refine wp_ret ?_
        refine then_r ?_
        -- return 2
        refine retct rfl H22 rfl z_agg28 z_size28 (by repeat (first | exact Mh | apply Mt)) rfl rfl ?_
        refine ⟨_, [], rfl, ⟨?_, rfl⟩, H22.sep.sub (List.nil_sublist _)⟩
        rw [Seal.key_bad (by omega)]
        rfl
      · skip
        refine wp_skip ?_
        refine then_n ?_
        refine wp_seq ?_
        refine wp_seq ?_
        refine reg ?_
        refine plain (y_move rfl rfl) rfl rfl rfl H18 ?_
        clear H18; intro a23 H23
        refine plain (y_eql rfl rfl rfl) rfl rfl rfl H23 ?_
        clear H23; intro a24 H24
        refine fin ?_
        refine then_n ?_
        refine cnd_d H24 rfl (fun hc25 => ?_) (fun hc25 => ?_) -- cond 3
        · skip
          refine wp_seq ?_
          refine reg ?_
          refine st_callg rfl z_call72 rfl rfl rfl rfl H24 (rsum _ (by simp) _) ?_
          clear H24; intro a26 wx26 H26
          refine st_store (vs := _) rfl z_size28 rfl rfl (show _ = List.map u8 _ from rfl) (one_u8 _) (by rw [List.length_map, Sha.sum_length]) (by repeat (first | exact Uh | apply Ut)) (by decide) rfl rfl H26 ?_
          clear H26; intro wx27 H27
          refine plain (y_assign rfl rfl) rfl rfl rfl H27 ?_
          clear H27; intro a28 H28
          refine fin ?_
          refine then_n ?_
          refine wp_ret ?_
          refine then_r ?_
          -- return 3
          refine retct rfl H28 rfl z_agg28 z_size28 (by repeat (first | exact Mh | apply Mt)) (by rw [spl_all (by rw [List.length_map, Sha.sum_length]; rfl), List.length_map, Sha.sum_length]) rfl ?_
          refine ⟨_, [], rfl, ⟨?_, rfl⟩, H28.sep.sub (List.nil_sublist _)⟩
          rw [spl_all (by rw [List.length_map, Sha.sum_length]; rfl), Seal.key_ok (by omega)]
          rw [show who = 0 by omega, Seal.num0]
          rfl
        · skip
          refine wp_skip ?_
          refine then_n ?_
          refine wp_seq ?_
          refine reg ?_
          refine plain (y_move rfl rfl) rfl rfl rfl H24 ?_
          clear H24; intro a29 H29
          refine plain (y_conv rfl Tryd.underlying3 Tryd.underlying5 rfl (show IntKind.u8.wrap who = ((UInt8.ofNat who.toNat).toNat : Int) by rw [wu8_mod, UInt8.toNat_ofNat']; omega)) rfl rfl rfl H29 ?_
          clear H29; intro a30 H30
          refine st_buildSlice1 (xs := [.tmp 15]) rfl Tryd.underlying118 z_size5 z_zero5 rfl rfl rfl rfl rfl rfl rfl rfl rfl H30 ?_
          clear H30; intro b31 a31 wx31 H31
          refine plain (y_bstr (p := [UInt8.ofNat who.toNat]) rfl Tryd.underlying118 Tryd.underlying5 Tryd.underlying9 rfl (by simp) (rd_blkA (by repeat (first | exact Mh | apply Mt)))) rfl rfl rfl H31 ?_
          clear H31; intro a32 H32
          refine plain (y_sadd rfl rfl rfl (by simp)) rfl rfl rfl H32 ?_
          clear H32; intro a33 H33
          refine st_callg rfl z_call72 rfl rfl rfl rfl H33 (rsum _ (by simp) _) ?_
          clear H33; intro a34 wx34 H34
          refine st_store (vs := _) rfl z_size28 rfl rfl (show _ = List.map u8 _ from rfl) (one_u8 _) (by rw [List.length_map, Sha.sum_length]) (by repeat (first | exact Uh | apply Ut)) (by decide) rfl rfl H34 ?_
          clear H34; intro wx35 H35
          refine plain (y_assign rfl rfl) rfl rfl rfl H35 ?_
          clear H35; intro a36 H36
          refine fin ?_
          refine then_n ?_
          refine wp_ret ?_
          -- return 4
          refine retct rfl H36 rfl z_agg28 z_size28 (by repeat (first | exact Mh | apply Mt)) (by rw [spl_all (by rw [List.length_map, Sha.sum_length]; rfl), List.length_map, Sha.sum_length]) rfl ?_
          refine ⟨_, [], rfl, ⟨?_, rfl⟩, H36.sep.sub (List.nil_sublist _)⟩
          rw [spl_all (by rw [List.length_map, Sha.sum_length]; rfl), Seal.key_ok (by omega)]
          rw [Seal.num1 (by omega) (by omega)]
          rfl
set_option maxRecDepth 100000 in
set_option maxHeartbeats 2000000 in
theorem stag (who dom : Int) (hw : -9223372036854775808 ≤ who ∧ who ≤ 9223372036854775807) (hd : -9223372036854775808 ≤ dom ∧ dom ≤ 9223372036854775807) (body : List UInt8) (hbl : body.length ≤ 140737488351232) {w : World} (hG : Glob 0 Sha.K w) : Calls Tryd.prog 84 #[.int .i64 who, .int .i64 dom, str body] w (Gives (.tuple #[.agg ((Seal.tag who dom body).1.map u8).toArray, .int .i64 (Seal.tag who dom body).2]) [] w) := by
  refine enterL (args := [.int .i64 who, .int .i64 dom, str body]) Tryd.func84 rfl rfl (l := []) (Sep.refl _) ?_
  intro a0 H0
  refine wp_seq ?_
  refine reg ?_
  refine st_alloc rfl z_zero28 rfl rfl rfl H0 ?_
  clear H0; intro b1 a1 wx1 H1
  refine plain (y_assign rfl rfl) rfl rfl rfl H1 ?_
  clear H1; intro a2 H2
  refine fin ?_
  refine then_n ?_
  refine wp_seq ?_
  refine reg ?_
  refine plain (y_move rfl rfl) rfl rfl rfl H2 ?_
  clear H2; intro a3 H3
  refine st_callg rfl z_call102 rfl rfl rfl rfl H3 (skey who hw (hG.frm H3.sep.frm (by simp))) ?_
  clear H3; intro a4 wx4 H4
  refine plain (y_move rfl rfl) rfl rfl rfl H4 ?_
  clear H4; intro a5 H5
  refine plain (y_extract rfl rfl rfl) rfl rfl rfl H5 ?_
  clear H5; intro a6 H6
  refine plain (y_extract rfl rfl rfl) rfl rfl rfl H6 ?_
  clear H6; intro a7 H7
  refine st_alloc rfl z_zero28 rfl rfl rfl H7 ?_
  clear H7; intro b8 a8 wx8 H8
  refine st_store (vs := _) rfl z_size28 rfl rfl (show _ = List.map u8 _ from rfl) (one_u8 _) (by rw [List.length_map, Seal.key_len]) (by repeat (first | exact Uh | apply Ut)) (by decide) rfl rfl H8 ?_
  clear H8; intro wx9 H9
  refine plain (y_assign rfl rfl) rfl rfl rfl H9 ?_
  clear H9; intro a10 H10
  refine fin ?_
  refine then_n ?_
  refine wp_seq ?_
  refine wp_seq ?_
  refine reg ?_
  refine plain (y_move rfl rfl) rfl rfl rfl H10 ?_
  clear H10; intro a11 H11
  refine plain (y_neq rfl rfl rfl) rfl rfl rfl H11 ?_
  clear H11; intro a12 H12
  refine fin ?_
  refine then_n ?_
  refine cnd_d H12 rfl (fun hc13 => ?_) (fun hc13 => ?_) -- cond 1
  · skip
    refine wp_seq ?_
    refine reg ?_
    refine plain (y_buildA rfl z_zero28 Tryd.underlying28 z_size5 rfl rfl) rfl rfl rfl H12 ?_
    clear H12; intro a14 H14
    refine plain (y_move rfl rfl) rfl rfl rfl H14 ?_
    clear H14; intro a15 H15
    refine st_store (vs := _) rfl z_size28 rfl rfl rfl rfl rfl (by repeat (first | exact Uh | apply Ut)) (by decide) rfl rfl H15 ?_
    clear H15; intro wx16 H16
    refine plain (y_assign rfl rfl) rfl rfl rfl H16 ?_
    clear H16; intro a17 H17
    refine fin ?_
    refine then_n ?_
    refine wp_ret ?_
    refine then_r ?_
    -- return 1
    refine retct rfl H17 rfl z_agg28 z_size28 (by repeat (first | exact Mh | apply Mt)) rfl rfl ?_
    refine ⟨_, [], rfl, ⟨?_, rfl⟩, H17.sep.sub (List.nil_sublist _)⟩
    rw [Seal.tag_err (by omega)]
    rfl
  · skip
    refine wp_skip ?_
    refine then_n ?_
    refine wp_seq ?_
    refine wp_seq ?_
    refine reg ?_
    refine plain (y_move rfl rfl) rfl rfl rfl H12 ?_
    clear H12; intro a18 H18
    refine plain (y_lss rfl rfl rfl) rfl rfl rfl H18 ?_
    clear H18; intro a19 H19
    refine plain (y_move rfl rfl) rfl rfl rfl H19 ?_
    clear H19; intro a20 H20
    refine part_d (d := 21) H20 rfl (fun hg21 => ?_) (fun hg21 => ?_)
    · first
      | fail
      | skip
        clear H20; intro H22
        refine skip rfl rfl rfl H22 ?_
        clear H22; intro a23 H23
        refine skip rfl rfl rfl H23 ?_
        clear H23; intro a24 H24
        refine plain (y_pick_t rfl rfl rfl) rfl rfl rfl H24 ?_
        clear H24; intro a25 H25
        refine fin ?_
        refine then_n ?_
        refine cnd_t H25 rfl ?_
        refine wp_seq ?_
        refine reg ?_
        refine plain (y_buildA rfl z_zero28 Tryd.underlying28 z_size5 rfl rfl) rfl rfl rfl H25 ?_
        clear H25; intro a27 H27
        refine st_store (vs := _) rfl z_size28 rfl rfl rfl rfl rfl (by repeat (first | exact Uh | apply Ut)) (by decide) rfl rfl H27 ?_
        clear H27; intro wx28 H28
        refine plain (y_assign rfl rfl) rfl rfl rfl H28 ?_
        clear H28; intro a29 H29
        refine fin ?_
        refine then_n ?_
        refine wp_ret ?_
        refine then_r ?_
        -- return 2
        refine retct rfl H29 rfl z_agg28 z_size28 (by repeat (first | exact Mh | apply Mt)) rfl rfl ?_
        refine ⟨_, [], rfl, ⟨?_, rfl⟩, H29.sep.sub (List.nil_sublist _)⟩
        rw [Seal.tag_dom (by omega) (by omega)]
        rfl
    · first
      | fail
      | skip
        clear H20; intro H30
        refine plain (y_move rfl rfl) rfl rfl rfl H30 ?_
        clear H30; intro a31 H31
        refine plain (y_gtr rfl rfl rfl) rfl rfl rfl H31 ?_
        clear H31; intro a32 H32
        refine plain (y_pick_f rfl rfl rfl) rfl rfl rfl H32 ?_
        clear H32; intro a33 H33
        refine fin ?_
        refine then_n ?_
        refine cnd_d H33 rfl (fun hc34 => ?_) (fun hc34 => ?_) -- cond 3
        · skip
          refine wp_seq ?_
          refine reg ?_
          refine plain (y_buildA rfl z_zero28 Tryd.underlying28 z_size5 rfl rfl) rfl rfl rfl H33 ?_
          clear H33; intro a35 H35
          refine st_store (vs := _) rfl z_size28 rfl rfl rfl rfl rfl (by repeat (first | exact Uh | apply Ut)) (by decide) rfl rfl H35 ?_
          clear H35; intro wx36 H36
          refine plain (y_assign rfl rfl) rfl rfl rfl H36 ?_
          clear H36; intro a37 H37
          refine fin ?_
          refine then_n ?_
          refine wp_ret ?_
          refine then_r ?_
          -- return 3
          refine retct rfl H37 rfl z_agg28 z_size28 (by repeat (first | exact Mh | apply Mt)) rfl rfl ?_
          refine ⟨_, [], rfl, ⟨?_, rfl⟩, H37.sep.sub (List.nil_sublist _)⟩
          rw [Seal.tag_dom (by omega) (by omega)]
          rfl
        · skip
          refine wp_skip ?_
          refine then_n ?_
          refine wp_seq ?_
          refine reg ?_
          refine plain (y_loadAB rfl z_agg28 z_size28 rfl (by repeat (first | exact Mh | apply Mt)) (show _ = (Seal.key who).1.map u8 by rw [spl_all (by rw [List.length_map, Seal.key_len]; rfl)]; exact take_all (by rw [List.length_map, Seal.key_len])) (by rw [List.length_map, Seal.key_len])) rfl rfl rfl H33 ?_
          clear H33; intro a38 H38
          refine plain (y_move rfl rfl) rfl rfl rfl H38 ?_
          clear H38; intro a39 H39
          refine plain (y_conv rfl Tryd.underlying3 Tryd.underlying5 rfl (show IntKind.u8.wrap dom = ((UInt8.ofNat dom.toNat).toNat : Int) by rw [wu8_mod, UInt8.toNat_ofNat']; omega)) rfl rfl rfl H39 ?_
          clear H39; intro a40 H40
          refine st_buildSlice1 (xs := [.tmp 28]) rfl Tryd.underlying118 z_size5 z_zero5 rfl rfl rfl rfl rfl rfl rfl rfl rfl H40 ?_
          clear H40; intro b41 a41 wx41 H41
          refine plain (y_bstr (p := [UInt8.ofNat dom.toNat]) rfl Tryd.underlying118 Tryd.underlying5 Tryd.underlying9 rfl (by simp) (rd_blkA (by repeat (first | exact Mh | apply Mt)))) rfl rfl rfl H41 ?_
          clear H41; intro a42 H42
          refine plain (y_move rfl rfl) rfl rfl rfl H42 ?_
          clear H42; intro a43 H43
          refine plain (y_sadd rfl rfl rfl (by simp only [List.length_cons, List.length_nil]; omega)) rfl rfl rfl H43 ?_
          clear H43; intro a44 H44
          refine st_callg rfl z_call103 rfl rfl rfl rfl H44 (dchain2 _ (Seal.key_len who) _ (by simp only [List.length_append, List.length_cons, List.length_nil]; omega) (hG.frm H44.sep.frm (by simp))) ?_
          clear H44; intro a45 wx45 H45
          refine st_store (vs := _) rfl z_size28 rfl rfl (show _ = List.map u8 _ from rfl) (one_u8 _) (by rw [List.length_map, Sha.sum_length]) (by repeat (first | exact Uh | apply Ut)) (by decide) rfl rfl H45 ?_
          clear H45; intro wx46 H46
          refine plain (y_assign rfl rfl) rfl rfl rfl H46 ?_
          clear H46; intro a47 H47
          refine fin ?_
          refine then_n ?_
          refine wp_ret ?_
          -- return 4
          refine retct rfl H47 rfl z_agg28 z_size28 (by repeat (first | exact Mh | apply Mt)) (by rw [spl_all (by rw [List.length_map, Sha.sum_length]; rfl), List.length_map, Sha.sum_length]) rfl ?_
          refine ⟨_, [], rfl, ⟨?_, rfl⟩, H47.sep.sub (List.nil_sublist _)⟩
          rw [spl_all (by rw [List.length_map, Sha.sum_length]; rfl), Seal.tag_ok (by omega) (by omega)]
          try rfl

end Go.Proofs.YtaeahloenahelaaDoor.A_Key

set_option linter.unusedVariables false
set_option linter.unusedSimpArgs false
namespace Go.Proofs.YtaeahloenahelaaDoor.A_Chk
open Go.Sx Go.RowKit Go.Proofs.YtaeahloenahelaaDoor.A_Block Go.Proofs.YtaeahloenahelaaDoor.A_Sum Go.Proofs.YtaeahloenahelaaDoor.A_Ref Go.Proofs.YtaeahloenahelaaDoor.A_RSum Go.Proofs.YtaeahloenahelaaDoor.A_Leaf Go.Proofs.YtaeahloenahelaaDoor.A_Num Go.Proofs.YtaeahloenahelaaDoor.A_Key

theorem z_call84 : callB Tryd.prog 84 = true := by kernel_rfl
theorem z_zero28 : zeroL Tryd.prog 28 = some (List.replicate 32 (.int .u8 0)) := by kernel_rfl
theorem z_size28 : sizeB Tryd.prog 28 = some 32 := by kernel_rfl
theorem z_agg28 : aggB Tryd.prog 28 = some true := by kernel_rfl
theorem z_size5 : sizeB Tryd.prog 5 = some 1 := by kernel_rfl

set_option maxRecDepth 100000 in
set_option maxHeartbeats 1000000 in
theorem scheck (who dom : Int) (hw : -9223372036854775808 ≤ who ∧ who ≤ 9223372036854775807) (hd : -9223372036854775808 ≤ dom ∧ dom ≤ 9223372036854775807) (body : List UInt8) (hbl : body.length ≤ 140737488351232) (t : List UInt8) (ht : t.length = 32) {w : World} (hG : Glob 0 Sha.K w) : Calls Tryd.prog 60 #[.int .i64 who, .int .i64 dom, str body, .agg (t.map u8).toArray] w (Gives (.int .i64 (Seal.check who dom body t)) [] w) := by
  refine enterL (args := [.int .i64 who, .int .i64 dom, str body, .agg (t.map u8).toArray]) Tryd.func60 rfl rfl (l := []) (Sep.refl _) ?_
  intro a0 H0
  refine wp_seq ?_
  refine reg ?_
  refine st_box rfl rfl rfl rfl rfl rfl H0 ?_
  clear H0; intro b1 a1 wx1 H1
  refine plain (y_assign rfl rfl) rfl rfl rfl H1 ?_
  clear H1; intro a2 H2
  refine fin ?_
  refine then_n ?_
  refine wp_seq ?_
  refine reg ?_
  refine plain (y_move rfl rfl) rfl rfl rfl H2 ?_
  clear H2; intro a3 H3
  refine plain (y_move rfl rfl) rfl rfl rfl H3 ?_
  clear H3; intro a4 H4
  refine plain (y_move rfl rfl) rfl rfl rfl H4 ?_
  clear H4; intro a5 H5
  refine st_callg rfl z_call84 rfl rfl rfl rfl H5 (stag who dom hw hd body hbl (hG.frm H5.sep.frm (by simp))) ?_
  clear H5; intro a6 wx6 H6
  refine plain (y_move rfl rfl) rfl rfl rfl H6 ?_
  clear H6; intro a7 H7
  refine plain (y_extract rfl rfl rfl) rfl rfl rfl H7 ?_
  clear H7; intro a8 H8
  refine plain (y_extract rfl rfl rfl) rfl rfl rfl H8 ?_
  clear H8; intro a9 H9
  refine st_alloc rfl z_zero28 rfl rfl rfl H9 ?_
  clear H9; intro b10 a10 wx10 H10
  refine st_store (vs := _) rfl z_size28 rfl rfl (show _ = List.map u8 _ from rfl) (one_u8 _) (by rw [List.length_map, Seal.tag_len]) (by repeat (first | exact Uh | apply Ut)) (by decide) rfl rfl H10 ?_
  clear H10; intro wx11 H11
  refine plain (y_assign rfl rfl) rfl rfl rfl H11 ?_
  clear H11; intro a12 H12
  refine fin ?_
  refine then_n ?_
  refine wp_seq ?_
  refine wp_seq ?_
  refine reg ?_
  rw [spl_all (by rw [List.length_map, Seal.tag_len]; rfl)] at H12
  refine plain (y_move rfl rfl) rfl rfl rfl H12 ?_
  clear H12; intro a13 H13
  refine plain (y_eql rfl rfl rfl) rfl rfl rfl H13 ?_
  clear H13; intro a14 H14
  refine plain (y_move rfl rfl) rfl rfl rfl H14 ?_
  clear H14; intro a15 H15
  refine part_d (d := 20) H15 rfl (fun hg16 => ?_) (fun hg16 => ?_)
  · first
    | fail
    | skip
      clear H15; intro H17
      refine plain (y_loadAB rfl z_agg28 z_size28 rfl (by repeat (first | exact Mh | apply Mt)) (take_all (cs := ((Seal.tag who dom body).1).map u8) (by rw [List.length_map, Seal.tag_len])) (by rw [List.length_map, Seal.tag_len])) rfl rfl rfl H17 ?_
      clear H17; intro a18 H18
      refine plain (y_loadAB rfl z_agg28 z_size28 rfl (by repeat (first | exact Mh | apply Mt)) (take_all (cs := (t).map u8) (by rw [List.length_map, ht])) (by rw [List.length_map, ht])) rfl rfl rfl H18 ?_
      clear H18; intro a19 H19
      refine plain (y_hneq rfl Tryd.eqGuardType28 Tryd.underlying28 Tryd.underlying5 z_size5 rfl rfl (Seal.tag_len _ _ _) ht) rfl rfl rfl H19 ?_
      clear H19; intro a20 H20
      refine plain (y_pick_t rfl rfl rfl) rfl rfl rfl H20 ?_
      clear H20; intro a21 H21
      refine fin ?_
      refine then_n ?_
      refine cnd_d H21 rfl (fun hc22 => ?_) (fun hc22 => ?_) -- cond 1
      · skip
        refine wp_seq ?_
        refine reg ?_
        refine plain (y_assign rfl rfl) rfl rfl rfl H21 ?_
        clear H21; intro a23 H23
        refine fin ?_
        refine then_n ?_
        refine wp_ret ?_
        refine then_r ?_
        -- return 1
        refine ret1 rfl H23 rfl ?_
        exact ⟨_, [], rfl, ⟨by rw [Seal.check_bad (by omega) (by assumption)], rfl⟩, H23.sep.sub (List.nil_sublist _)⟩
      · skip
        refine wp_skip ?_
        refine then_n ?_
        refine wp_seq ?_
        refine reg ?_
        refine plain (y_move rfl rfl) rfl rfl rfl H21 ?_
        clear H21; intro a24 H24
        refine plain (y_assign rfl rfl) rfl rfl rfl H24 ?_
        clear H24; intro a25 H25
        refine fin ?_
        refine then_n ?_
        refine wp_ret ?_
        -- return 2
        refine ret1 rfl H25 rfl ?_
        exact ⟨_, [], rfl, ⟨by rw [Seal.check_ok (by omega) (Decidable.not_not.1 (by assumption)), show (Seal.tag who dom body).2 = 0 by omega], rfl⟩, H25.sep.sub (List.nil_sublist _)⟩
  · first
    | fail
    | skip
      clear H15; intro H26
      refine skip rfl rfl rfl H26 ?_
      clear H26; intro a27 H27
      refine skip rfl rfl rfl H27 ?_
      clear H27; intro a28 H28
      refine skip rfl rfl rfl H28 ?_
      clear H28; intro a29 H29
      refine plain (y_pick_f rfl rfl rfl) rfl rfl rfl H29 ?_
      clear H29; intro a30 H30
      refine fin ?_
      refine then_n ?_
      refine cnd_f H30 rfl ?_
      refine wp_skip ?_
      refine then_n ?_
      refine wp_seq ?_
      refine reg ?_
      refine plain (y_move rfl rfl) rfl rfl rfl H30 ?_
      clear H30; intro a32 H32
      refine plain (y_assign rfl rfl) rfl rfl rfl H32 ?_
      clear H32; intro a33 H33
      refine fin ?_
      refine then_n ?_
      refine wp_ret ?_
      -- return 3
      refine ret1 rfl H33 rfl ?_
      exact ⟨_, [], rfl, ⟨by rw [Seal.check_err (by omega)], rfl⟩, H33.sep.sub (List.nil_sublist _)⟩

end Go.Proofs.YtaeahloenahelaaDoor.A_Chk
