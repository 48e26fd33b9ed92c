/- Part of a proof about given Go functions: contracts of functions, or plain laws. -/
import Derived.Test.YtnnhnnhdoipbaaaDoorNoteV
import Derived.Test.YtnnhnnhdoipbaaaDoorSxI
import Derived.Test.YtnnhnnhdoipbaaaDoorProg
import Derived.Test.YtnnhnnhdoipbaaaDoorW1
import Derived.Test.YtnnhnnhdoipbaaaDoorW2
import Derived.Test.YtnnhnnhdoipbaaaDoorNoteW
import Derived.Test.YtnnhnnhdoipbaaaDoorSxTx
set_option linter.unusedVariables false
set_option linter.unusedSimpArgs false
namespace Go.Proofs.YtnnhnnhdoipbaaaDoor.N_RefR
open Go.Sx Go.RowKit Go.Proofs.YtnnhnnhdoipbaaaDoor.N_Block Go.Proofs.YtnnhnnhdoipbaaaDoor.N_Sum Go.Proofs.YtnnhnnhdoipbaaaDoor.N_Ref Go.Proofs.YtnnhnnhdoipbaaaDoor.N_RSum Go.Proofs.YtnnhnnhdoipbaaaDoor.N_Leaf Go.Proofs.YtnnhnnhdoipbaaaDoor.N_Num Go.Proofs.YtnnhnnhdoipbaaaDoor.N_Key Go.Proofs.YtnnhnnhdoipbaaaDoor.N_Ref Go.Proofs.YtnnhnnhdoipbaaaDoor.N_RSum Go.Proofs.YtnnhnnhdoipbaaaDoor.N_Tag Go.Proofs.YtnnhnnhdoipbaaaDoor.N_Read Go.Proofs.YtnnhnnhdoipbaaaDoor.N_Lay Go.Proofs.YtnnhnnhdoipbaaaDoor.N_Eq Go.Proofs.YtnnhnnhdoipbaaaDoor.N_Ref0

theorem z_zeroN35 : zeroL Tryd.prog 35 = some ((.int .i64 0 :: (.int .i64 0 :: (.int .i64 0 :: (.string ⟨#[]⟩ :: ((List.replicate 32 (0 : UInt8)).map u8 ++ (List.replicate 32 (0 : UInt8)).map u8)))))) := by kernel_rfl
theorem z_call45 : callB Tryd.prog 45 = true := by kernel_rfl
theorem z_places35 : placesB Tryd.prog 35 = some [(0, 1), (1, 1), (2, 1), (3, 1), (4, 32), (36, 32)] := by kernel_rfl
theorem z_size35 : sizeB Tryd.prog 35 = some 68 := by kernel_rfl
theorem q_one_c4b32b32 {a0 a1 a2 a3 : Value} {t4 t5 : List UInt8} (o0 : a0.oneCell' = true) (o1 : a1.oneCell' = true) (o2 : a2.oneCell' = true) (o3 : a3.oneCell' = true) : (a0 :: a1 :: a2 :: a3 :: (t4.map u8 ++ (t5.map u8))).all (·.oneCell') = true := (one_c o0 (one_c o1 (one_c o2 (one_c o3 (one_b (one_u8 _))))))
theorem q_len_c4b32b32 {a0 a1 a2 a3 : Value} {t4 t5 : List UInt8} (h4 : t4.length = 32) (h5 : t5.length = 32) : (a0 :: a1 :: a2 :: a3 :: (t4.map u8 ++ (t5.map u8))).length = 68 := (len_c (n := 67) (len_c (n := 66) (len_c (n := 65) (len_c (n := 64) (len_b (k := 32) (n := 32) h4 (len_e (k := 32) h5))))))
theorem q_spl_c4b32b32_0_c4b32b32 {a0 a1 a2 a3 : Value} {t4 t5 : List UInt8} {b0 b1 b2 b3 : Value} {s4 s5 : List UInt8} (h4 : t4.length = 32) (h5 : t5.length = 32) (g4 : s4.length = 32) (g5 : s5.length = 32) : spl (a0 :: a1 :: a2 :: a3 :: (t4.map u8 ++ (t5.map u8))) 0 (b0 :: b1 :: b2 :: b3 :: (s4.map u8 ++ (s5.map u8))) = b0 :: b1 :: b2 :: b3 :: (s4.map u8 ++ (s5.map u8)) := (spl_a (z := 68) (len_c (n := 67) (len_c (n := 66) (len_c (n := 65) (len_c (n := 64) (len_b (k := 32) (n := 32) h4 (len_e (k := 32) h5)))))) (len_c (n := 67) (len_c (n := 66) (len_c (n := 65) (len_c (n := 64) (len_b (k := 32) (n := 32) g4 (len_e (k := 32) g5)))))))
theorem z_agg35 : aggB Tryd.prog 35 = some true := by kernel_rfl
theorem z_call39 : callB Tryd.prog 39 = true := by kernel_rfl
theorem z_size9 : sizeB Tryd.prog 9 = some 1 := by kernel_rfl
theorem z_zero9 : zeroL Tryd.prog 9 = some ([.string ⟨#[]⟩]) := by kernel_rfl
theorem z_call38 : callB Tryd.prog 38 = true := by kernel_rfl
theorem z_agg23 : aggB Tryd.prog 23 = some true := by kernel_rfl
theorem z_size23 : sizeB Tryd.prog 23 = some 32 := by kernel_rfl
theorem q_ld_b32_0_32 {t0 : List UInt8} (h0 : t0.length = 32) : ((t0.map u8).drop 0).take 32 = t0.map u8 := (ld_a (len_e (k := 32) h0))
theorem q_len_b32 {t0 : List UInt8} (h0 : t0.length = 32) : (t0.map u8).length = 32 := (len_e (k := 32) h0)
theorem z_call46 : callB Tryd.prog 46 = true := by kernel_rfl
theorem q_spl_c4b32b32_0_c1 {a0 a1 a2 a3 : Value} {t4 t5 : List UInt8} {b0 : Value} : spl (a0 :: a1 :: a2 :: a3 :: (t4.map u8 ++ (t5.map u8))) 0 (b0 :: []) = b0 :: a1 :: a2 :: a3 :: (t4.map u8 ++ (t5.map u8)) := spl_0
theorem q_spl_c4b32b32_1_c1 {a0 a1 a2 a3 : Value} {t4 t5 : List UInt8} {b0 : Value} : spl (a0 :: a1 :: a2 :: a3 :: (t4.map u8 ++ (t5.map u8))) 1 (b0 :: []) = a0 :: b0 :: a2 :: a3 :: (t4.map u8 ++ (t5.map u8)) := (spl_c (o := 0) spl_0)
theorem q_spl_c4b32b32_2_c1 {a0 a1 a2 a3 : Value} {t4 t5 : List UInt8} {b0 : Value} : spl (a0 :: a1 :: a2 :: a3 :: (t4.map u8 ++ (t5.map u8))) 2 (b0 :: []) = a0 :: a1 :: b0 :: a3 :: (t4.map u8 ++ (t5.map u8)) := (spl_c (o := 1) (spl_c (o := 0) spl_0))
theorem q_spl_c4b32b32_3_c1 {a0 a1 a2 a3 : Value} {t4 t5 : List UInt8} {b0 : Value} : spl (a0 :: a1 :: a2 :: a3 :: (t4.map u8 ++ (t5.map u8))) 3 (b0 :: []) = a0 :: a1 :: a2 :: b0 :: (t4.map u8 ++ (t5.map u8)) := (spl_c (o := 2) (spl_c (o := 1) (spl_c (o := 0) spl_0)))
theorem q_spl_c4b32b32_4_b32 {a0 a1 a2 a3 : Value} {t4 t5 : List UInt8} {s0 : List UInt8} (h4 : t4.length = 32) (g0 : s0.length = 32) : spl (a0 :: a1 :: a2 :: a3 :: (t4.map u8 ++ (t5.map u8))) 4 (s0.map u8) = a0 :: a1 :: a2 :: a3 :: (s0.map u8 ++ (t5.map u8)) := (spl_c (o := 3) (spl_c (o := 2) (spl_c (o := 1) (spl_c (o := 0) (spl_h (z := 32) (len_e h4) (len_e g0))))))
theorem q_spl_c4b32b32_36_b32 {a0 a1 a2 a3 : Value} {t4 t5 : List UInt8} {s0 : List UInt8} (h4 : t4.length = 32) (h5 : t5.length = 32) (g0 : s0.length = 32) : spl (a0 :: a1 :: a2 :: a3 :: (t4.map u8 ++ (t5.map u8))) 36 (s0.map u8) = a0 :: a1 :: a2 :: a3 :: (t4.map u8 ++ (s0.map u8)) := (spl_c (o := 35) (spl_c (o := 34) (spl_c (o := 33) (spl_c (o := 32) (spl_b (k := 32) (o := 0) h4 rfl (spl_a (z := 32) (len_e (k := 32) h5) (len_e (k := 32) g0)))))))
theorem z_field35_4 : fieldB Tryd.prog 35 4 = some 4 := by kernel_rfl
theorem q_ld_c4b32b32_4_32 {a0 a1 a2 a3 : Value} {t4 t5 : List UInt8} (h4 : t4.length = 32) : ((a0 :: a1 :: a2 :: a3 :: (t4.map u8 ++ (t5.map u8))).drop 4).take 32 = t4.map u8 := (ld_c (o := 3) (ld_c (o := 2) (ld_c (o := 1) (ld_c (o := 0) (ld_h h4)))))
theorem z_field35_0 : fieldB Tryd.prog 35 0 = some 0 := by kernel_rfl
theorem z_agg3 : aggB Tryd.prog 3 = some false := by kernel_rfl
theorem q_ix_c4b32b32_0 {a0 a1 a2 a3 : Value} {t4 t5 : List UInt8} : (a0 :: a1 :: a2 :: a3 :: (t4.map u8 ++ (t5.map u8)))[0]? = some a0 := ix_0
theorem z_field35_1 : fieldB Tryd.prog 35 1 = some 1 := by kernel_rfl
theorem q_ix_c4b32b32_1 {a0 a1 a2 a3 : Value} {t4 t5 : List UInt8} : (a0 :: a1 :: a2 :: a3 :: (t4.map u8 ++ (t5.map u8)))[1]? = some a1 := (ix_c (o := 0) ix_0)
theorem z_field35_2 : fieldB Tryd.prog 35 2 = some 2 := by kernel_rfl
theorem q_ix_c4b32b32_2 {a0 a1 a2 a3 : Value} {t4 t5 : List UInt8} : (a0 :: a1 :: a2 :: a3 :: (t4.map u8 ++ (t5.map u8)))[2]? = some a2 := (ix_c (o := 1) (ix_c (o := 0) ix_0))
theorem z_field35_3 : fieldB Tryd.prog 35 3 = some 3 := by kernel_rfl
theorem z_agg9 : aggB Tryd.prog 9 = some false := by kernel_rfl
theorem q_ix_c4b32b32_3 {a0 a1 a2 a3 : Value} {t4 t5 : List UInt8} : (a0 :: a1 :: a2 :: a3 :: (t4.map u8 ++ (t5.map u8)))[3]? = some a3 := (ix_c (o := 2) (ix_c (o := 1) (ix_c (o := 0) ix_0)))
theorem z_call20 : callB Tryd.prog 20 = true := by kernel_rfl
theorem q_ld_c4b32b32_0_68 {a0 a1 a2 a3 : Value} {t4 t5 : List UInt8} (h4 : t4.length = 32) (h5 : t5.length = 32) : ((a0 :: a1 :: a2 :: a3 :: (t4.map u8 ++ (t5.map u8))).drop 0).take 68 = a0 :: a1 :: a2 :: a3 :: (t4.map u8 ++ (t5.map u8)) := (ld_a (len_c (n := 67) (len_c (n := 66) (len_c (n := 65) (len_c (n := 64) (len_b (k := 32) (n := 32) h4 (len_e (k := 32) h5)))))))
theorem z_field35_5 : fieldB Tryd.prog 35 5 = some 36 := by kernel_rfl
theorem q_ld_c4b32b32_36_32 {a0 a1 a2 a3 : Value} {t4 t5 : List UInt8} (h4 : t4.length = 32) (h5 : t5.length = 32) : ((a0 :: a1 :: a2 :: a3 :: (t4.map u8 ++ (t5.map u8))).drop 36).take 32 = t5.map u8 := (ld_c (o := 35) (ld_c (o := 34) (ld_c (o := 33) (ld_c (o := 32) (ld_b (k := 32) (o := 0) h4 rfl (ld_a (len_e (k := 32) h5)))))))
theorem z_call40 : callB Tryd.prog 40 = true := by kernel_rfl
theorem z_size3 : sizeB Tryd.prog 3 = some 1 := by kernel_rfl
set_option maxRecDepth 100000 in
set_option maxHeartbeats 1000000 in
theorem rlink (prev : List UInt8) (hp : prev.length = 32) (index kind time : Int) (hi : Note.I64 index) (hkd : Note.I64 kind) (hti : Note.I64 time) (body : List UInt8) (hbl : body.length ≤ 140737488351232) {w : World}  : Calls Tryd.prog 20 #[.agg (prev.map u8).toArray, .int .i64 index, .int .i64 kind, .int .i64 time, str body] w (Gives (.tuple #[.agg (Note.Receipt.cells (Note.link prev index kind time body).1).toArray, .int .i64 (Note.link prev index kind time body).2]) [] w) := by
  have lz32 : (List.replicate 32 (0 : UInt8)).length = 32 := List.length_replicate
  refine enterL (args := [.agg (prev.map u8).toArray, .int .i64 index, .int .i64 kind, .int .i64 time, str body]) Tryd.func20 rfl rfl (l := []) (Sep.refl _) ?_
  intro a0 H0
  refine wp_seq ?_
  refine reg ?_
  refine st_box rfl rfl (agg_cells _) rfl rfl rfl H0 ?_
  clear H0; intro b1 a1 wx1 H1
  refine st_alloc rfl z_zeroN35 rfl rfl rfl H1 ?_
  clear H1; intro b2 a2 wx2 H2
  refine plain (y_assign rfl rfl) rfl rfl rfl H2 ?_
  clear H2; intro a3 H3
  refine fin ?_
  refine then_n ?_
  refine wp_seq ?_
  refine wp_seq ?_
  refine reg ?_
  refine plain (y_move rfl rfl) rfl rfl rfl H3 ?_
  clear H3; intro a4 H4
  refine st_callg rfl z_call45 rfl rfl rfl rfl H4 (rwithin _ _ _) ?_
  clear H4; intro a5 wx5 H5
  refine plain ((by first | exact y_not_d rfl rfl | exact y_not rfl rfl)) rfl rfl rfl H5 ?_
  clear H5; intro a6 H6
  refine plain (y_move rfl rfl) rfl rfl rfl H6 ?_
  clear H6; intro a7 H7
  refine Sx.part (d := 17) H7 rfl (fun hg8 => ?_) (fun hg8 => ?_)
  · first
    | fail
    | skip
      clear H7; intro H9
      try simp only [decide_eq_true_eq, decide_eq_false_iff_not, Bool.not_eq_true', Bool.not_eq_false', Bool.and_eq_true, Bool.not_eq_true, Bool.not_eq_false] at hg8
      refine skip rfl rfl rfl H9 ?_
      clear H9; intro a10 H10
      refine skip rfl rfl rfl H10 ?_
      clear H10; intro a11 H11
      refine skip rfl rfl rfl H11 ?_
      clear H11; intro a12 H12
      refine plain (y_pick_t rfl rfl rfl) rfl rfl rfl H12 ?_
      clear H12; intro a13 H13
      refine plain (y_move rfl rfl) rfl rfl rfl H13 ?_
      clear H13; intro a14 H14
      refine skip rfl rfl rfl H14 ?_
      clear H14; intro a15 H15
      refine skip rfl rfl rfl H15 ?_
      clear H15; intro a16 H16
      refine skip rfl rfl rfl H16 ?_
      clear H16; intro a17 H17
      refine skip rfl rfl rfl H17 ?_
      clear H17; intro a18 H18
      refine skip rfl rfl rfl H18 ?_
      clear H18; intro a19 H19
      refine skip rfl rfl rfl H19 ?_
      clear H19; intro a20 H20
      refine plain (y_pick_t rfl rfl rfl) rfl rfl rfl H20 ?_
      clear H20; intro a21 H21
      refine plain (y_move rfl rfl) rfl rfl rfl H21 ?_
      clear H21; intro a22 H22
      refine skip rfl rfl rfl H22 ?_
      clear H22; intro a23 H23
      refine skip rfl rfl rfl H23 ?_
      clear H23; intro a24 H24
      refine skip rfl rfl rfl H24 ?_
      clear H24; intro a25 H25
      refine plain (y_pick_t rfl rfl rfl) rfl rfl rfl H25 ?_
      clear H25; intro a26 H26
      refine fin ?_
      refine then_n ?_
      refine cnd_t H26 rfl ?_
      refine wp_seq ?_
      refine reg ?_
      refine plain (y_build rfl z_zeroN35 z_places35 rfl lay_n) rfl rfl rfl H26 ?_
      clear H26; intro a28 H28
      refine st_storeN rfl z_size35 rfl rfl (agg_cells _) (by repeat (first | exact Uh | apply Ut)) (q_one_c4b32b32 rfl rfl rfl rfl) (q_len_c4b32b32 (by first | assumption | exact Sha.sum_length _) (by first | assumption | exact Sha.sum_length _)) (q_len_c4b32b32 (by first | assumption | exact Sha.sum_length _) (by first | assumption | exact Sha.sum_length _)) (q_spl_c4b32b32_0_c4b32b32 (by first | assumption | exact Sha.sum_length _) (by first | assumption | exact Sha.sum_length _) (by first | assumption | exact Sha.sum_length _) (by first | assumption | exact Sha.sum_length _)) (by decide) rfl rfl H28 ?_
      clear H28; intro wx29 H29
      refine plain (y_assign rfl rfl) rfl rfl rfl H29 ?_
      clear H29; intro a30 H30
      refine fin ?_
      refine then_n ?_
      refine wp_ret ?_
      refine then_r ?_
      -- return 1
      refine retct rfl H30 rfl z_agg35 z_size35 (by repeat (first | exact Mh | apply Mt)) (q_len_c4b32b32 (by first | assumption | exact Sha.sum_length _) (by first | assumption | exact Sha.sum_length _)) rfl ?_
      refine ⟨_, [], rfl, ⟨?_, rfl⟩, H30.sep.sub (List.nil_sublist _)⟩
      have hk := Note.Receipt.ok_is (⟨index, kind, time, body, prev, Note.Z⟩ : Note.Receipt)
      first | (rw [Note.link, if_neg (by rw [hk]; simp only [decide_eq_true_eq]; omega)]; rfl) | (rw [Note.link, if_pos (by rw [hk]; simp only [decide_eq_true_eq]; omega)]; rfl)
  · first
    | fail
    | skip
      clear H7; intro H31
      try simp only [decide_eq_true_eq, decide_eq_false_iff_not, Bool.not_eq_true', Bool.not_eq_false', Bool.and_eq_true, Bool.not_eq_true, Bool.not_eq_false] at hg8
      refine plain (y_move rfl rfl) rfl rfl rfl H31 ?_
      clear H31; intro a32 H32
      refine st_callg rfl z_call45 rfl rfl rfl rfl H32 (rwithin _ _ _) ?_
      clear H32; intro a33 wx33 H33
      refine plain ((by first | exact y_not_d rfl rfl | exact y_not rfl rfl)) rfl rfl rfl H33 ?_
      clear H33; intro a34 H34
      refine plain (y_pick_f rfl rfl rfl) rfl rfl rfl H34 ?_
      clear H34; intro a35 H35
      refine plain (y_move rfl rfl) rfl rfl rfl H35 ?_
      clear H35; intro a36 H36
      refine Sx.part (d := 22) H36 rfl (fun hg37 => ?_) (fun hg37 => ?_)
      · first
        | fail
        | skip
          clear H36; intro H38
          try simp only [decide_eq_true_eq, decide_eq_false_iff_not, Bool.not_eq_true', Bool.not_eq_false', Bool.and_eq_true, Bool.not_eq_true, Bool.not_eq_false] at hg37
          refine skip rfl rfl rfl H38 ?_
          clear H38; intro a39 H39
          refine skip rfl rfl rfl H39 ?_
          clear H39; intro a40 H40
          refine skip rfl rfl rfl H40 ?_
          clear H40; intro a41 H41
          refine skip rfl rfl rfl H41 ?_
          clear H41; intro a42 H42
          refine skip rfl rfl rfl H42 ?_
          clear H42; intro a43 H43
          refine skip rfl rfl rfl H43 ?_
          clear H43; intro a44 H44
          refine plain (y_pick_t rfl rfl rfl) rfl rfl rfl H44 ?_
          clear H44; intro a45 H45
          refine plain (y_move rfl rfl) rfl rfl rfl H45 ?_
          clear H45; intro a46 H46
          refine skip rfl rfl rfl H46 ?_
          clear H46; intro a47 H47
          refine skip rfl rfl rfl H47 ?_
          clear H47; intro a48 H48
          refine skip rfl rfl rfl H48 ?_
          clear H48; intro a49 H49
          refine plain (y_pick_t rfl rfl rfl) rfl rfl rfl H49 ?_
          clear H49; intro a50 H50
          refine fin ?_
          refine then_n ?_
          refine cnd_t H50 rfl ?_
          refine wp_seq ?_
          refine reg ?_
          refine plain (y_build rfl z_zeroN35 z_places35 rfl lay_n) rfl rfl rfl H50 ?_
          clear H50; intro a52 H52
          refine st_storeN rfl z_size35 rfl rfl (agg_cells _) (by repeat (first | exact Uh | apply Ut)) (q_one_c4b32b32 rfl rfl rfl rfl) (q_len_c4b32b32 (by first | assumption | exact Sha.sum_length _) (by first | assumption | exact Sha.sum_length _)) (q_len_c4b32b32 (by first | assumption | exact Sha.sum_length _) (by first | assumption | exact Sha.sum_length _)) (q_spl_c4b32b32_0_c4b32b32 (by first | assumption | exact Sha.sum_length _) (by first | assumption | exact Sha.sum_length _) (by first | assumption | exact Sha.sum_length _) (by first | assumption | exact Sha.sum_length _)) (by decide) rfl rfl H52 ?_
          clear H52; intro wx53 H53
          refine plain (y_assign rfl rfl) rfl rfl rfl H53 ?_
          clear H53; intro a54 H54
          refine fin ?_
          refine then_n ?_
          refine wp_ret ?_
          refine then_r ?_
          -- return 2
          refine retct rfl H54 rfl z_agg35 z_size35 (by repeat (first | exact Mh | apply Mt)) (q_len_c4b32b32 (by first | assumption | exact Sha.sum_length _) (by first | assumption | exact Sha.sum_length _)) rfl ?_
          refine ⟨_, [], rfl, ⟨?_, rfl⟩, H54.sep.sub (List.nil_sublist _)⟩
          have hk := Note.Receipt.ok_is (⟨index, kind, time, body, prev, Note.Z⟩ : Note.Receipt)
          first | (rw [Note.link, if_neg (by rw [hk]; simp only [decide_eq_true_eq]; omega)]; rfl) | (rw [Note.link, if_pos (by rw [hk]; simp only [decide_eq_true_eq]; omega)]; rfl)
      · first
        | fail
        | skip
          clear H36; intro H55
          try simp only [decide_eq_true_eq, decide_eq_false_iff_not, Bool.not_eq_true', Bool.not_eq_false', Bool.and_eq_true, Bool.not_eq_true, Bool.not_eq_false] at hg37
          refine plain (y_move rfl rfl) rfl rfl rfl H55 ?_
          clear H55; intro a56 H56
          refine plain (y_neq rfl rfl rfl) rfl rfl rfl H56 ?_
          clear H56; intro a57 H57
          refine plain (y_move rfl rfl) rfl rfl rfl H57 ?_
          clear H57; intro a58 H58
          refine Sx.part (d := 25) H58 rfl (fun hg59 => ?_) (fun hg59 => ?_)
          · first
            | fail
            | skip
              clear H58; intro H60
              try simp only [decide_eq_true_eq, decide_eq_false_iff_not, Bool.not_eq_true', Bool.not_eq_false', Bool.and_eq_true, Bool.not_eq_true, Bool.not_eq_false] at hg59
              refine plain (y_move rfl rfl) rfl rfl rfl H60 ?_
              clear H60; intro a61 H61
              refine plain (y_neq rfl rfl rfl) rfl rfl rfl H61 ?_
              clear H61; intro a62 H62
              refine plain (y_pick_t rfl rfl rfl) rfl rfl rfl H62 ?_
              clear H62; intro a63 H63
              refine plain (y_pick_f rfl rfl rfl) rfl rfl rfl H63 ?_
              clear H63; intro a64 H64
              refine plain (y_move rfl rfl) rfl rfl rfl H64 ?_
              clear H64; intro a65 H65
              refine Sx.part (d := 30) H65 rfl (fun hg66 => ?_) (fun hg66 => ?_)
              · first
                | fail
                | skip
                  clear H65; intro H67
                  try simp only [decide_eq_true_eq, decide_eq_false_iff_not, Bool.not_eq_true', Bool.not_eq_false', Bool.and_eq_true, Bool.not_eq_true, Bool.not_eq_false] at hg66
                  refine skip rfl rfl rfl H67 ?_
                  clear H67; intro a68 H68
                  refine skip rfl rfl rfl H68 ?_
                  clear H68; intro a69 H69
                  refine skip rfl rfl rfl H69 ?_
                  clear H69; intro a70 H70
                  refine plain (y_pick_t rfl rfl rfl) rfl rfl rfl H70 ?_
                  clear H70; intro a71 H71
                  refine fin ?_
                  refine then_n ?_
                  refine cnd_t H71 rfl ?_
                  refine wp_seq ?_
                  refine reg ?_
                  refine plain (y_build rfl z_zeroN35 z_places35 rfl lay_n) rfl rfl rfl H71 ?_
                  clear H71; intro a73 H73
                  refine st_storeN rfl z_size35 rfl rfl (agg_cells _) (by repeat (first | exact Uh | apply Ut)) (q_one_c4b32b32 rfl rfl rfl rfl) (q_len_c4b32b32 (by first | assumption | exact Sha.sum_length _) (by first | assumption | exact Sha.sum_length _)) (q_len_c4b32b32 (by first | assumption | exact Sha.sum_length _) (by first | assumption | exact Sha.sum_length _)) (q_spl_c4b32b32_0_c4b32b32 (by first | assumption | exact Sha.sum_length _) (by first | assumption | exact Sha.sum_length _) (by first | assumption | exact Sha.sum_length _) (by first | assumption | exact Sha.sum_length _)) (by decide) rfl rfl H73 ?_
                  clear H73; intro wx74 H74
                  refine plain (y_assign rfl rfl) rfl rfl rfl H74 ?_
                  clear H74; intro a75 H75
                  refine fin ?_
                  refine then_n ?_
                  refine wp_ret ?_
                  refine then_r ?_
                  -- return 3
                  refine retct rfl H75 rfl z_agg35 z_size35 (by repeat (first | exact Mh | apply Mt)) (q_len_c4b32b32 (by first | assumption | exact Sha.sum_length _) (by first | assumption | exact Sha.sum_length _)) rfl ?_
                  refine ⟨_, [], rfl, ⟨?_, rfl⟩, H75.sep.sub (List.nil_sublist _)⟩
                  have hk := Note.Receipt.ok_is (⟨index, kind, time, body, prev, Note.Z⟩ : Note.Receipt)
                  first | (rw [Note.link, if_neg (by rw [hk]; simp only [decide_eq_true_eq]; omega)]; rfl) | (rw [Note.link, if_pos (by rw [hk]; simp only [decide_eq_true_eq]; omega)]; rfl)
              · first
                | fail
                | skip
                  clear H65; intro H76
                  try simp only [decide_eq_true_eq, decide_eq_false_iff_not, Bool.not_eq_true', Bool.not_eq_false', Bool.and_eq_true, Bool.not_eq_true, Bool.not_eq_false] at hg66
                  refine plain (y_move rfl rfl) rfl rfl rfl H76 ?_
                  clear H76; intro a77 H77
                  refine plain (y_slen rfl Tryd.underlying9 rfl) rfl rfl rfl H77 ?_
                  clear H77; intro a78 H78
                  refine plain (y_gtr rfl rfl rfl) rfl rfl rfl H78 ?_
                  clear H78; intro a79 H79
                  refine plain (y_pick_f rfl rfl rfl) rfl rfl rfl H79 ?_
                  clear H79; intro a80 H80
                  refine fin ?_
                  refine then_n ?_
                  refine cnd H80 rfl (fun hc81 => ?_) (fun hc81 => ?_) -- cond 4
                  · skip
                    try simp only [decide_eq_true_eq, decide_eq_false_iff_not, Bool.not_eq_true', Bool.not_eq_false', Bool.and_eq_true, Bool.not_eq_true, Bool.not_eq_false] at hc81
                    refine wp_seq ?_
                    refine reg ?_
                    refine plain (y_build rfl z_zeroN35 z_places35 rfl lay_n) rfl rfl rfl H80 ?_
                    clear H80; intro a82 H82
                    refine st_storeN rfl z_size35 rfl rfl (agg_cells _) (by repeat (first | exact Uh | apply Ut)) (q_one_c4b32b32 rfl rfl rfl rfl) (q_len_c4b32b32 (by first | assumption | exact Sha.sum_length _) (by first | assumption | exact Sha.sum_length _)) (q_len_c4b32b32 (by first | assumption | exact Sha.sum_length _) (by first | assumption | exact Sha.sum_length _)) (q_spl_c4b32b32_0_c4b32b32 (by first | assumption | exact Sha.sum_length _) (by first | assumption | exact Sha.sum_length _) (by first | assumption | exact Sha.sum_length _) (by first | assumption | exact Sha.sum_length _)) (by decide) rfl rfl H82 ?_
                    clear H82; intro wx83 H83
                    refine plain (y_assign rfl rfl) rfl rfl rfl H83 ?_
                    clear H83; intro a84 H84
                    refine fin ?_
                    refine then_n ?_
                    refine wp_ret ?_
                    refine then_r ?_
                    -- return 4
                    refine retct rfl H84 rfl z_agg35 z_size35 (by repeat (first | exact Mh | apply Mt)) (q_len_c4b32b32 (by first | assumption | exact Sha.sum_length _) (by first | assumption | exact Sha.sum_length _)) rfl ?_
                    refine ⟨_, [], rfl, ⟨?_, rfl⟩, H84.sep.sub (List.nil_sublist _)⟩
                    have hk := Note.Receipt.ok_is (⟨index, kind, time, body, prev, Note.Z⟩ : Note.Receipt)
                    first | (rw [Note.link, if_neg (by rw [hk]; simp only [decide_eq_true_eq]; omega)]; rfl) | (rw [Note.link, if_pos (by rw [hk]; simp only [decide_eq_true_eq]; omega)]; rfl)
                  · skip
                    try simp only [decide_eq_true_eq, decide_eq_false_iff_not, Bool.not_eq_true', Bool.not_eq_false', Bool.and_eq_true, Bool.not_eq_true, Bool.not_eq_false] at hc81
                    refine wp_skip ?_
                    refine then_n ?_
                    refine wp_seq ?_
                    refine reg ?_
                    refine plain (y_move rfl rfl) rfl rfl rfl H80 ?_
                    clear H80; intro a85 H85
                    refine st_callg rfl z_call39 rfl rfl rfl rfl H85 (rtext _ (by first | exact hi.2 | exact hkd.2 | exact hti.2) _) ?_
                    clear H85; intro a86 wx86 H86
                    refine plain (y_move rfl rfl) rfl rfl rfl H86 ?_
                    clear H86; intro a87 H87
                    refine st_callg rfl z_call39 rfl rfl rfl rfl H87 (rtext _ (by first | exact hi.2 | exact hkd.2 | exact hti.2) _) ?_
                    clear H87; intro a88 wx88 H88
                    refine plain (y_move rfl rfl) rfl rfl rfl H88 ?_
                    clear H88; intro a89 H89
                    refine st_callg rfl z_call39 rfl rfl rfl rfl H89 (rtext _ (by first | exact hi.2 | exact hkd.2 | exact hti.2) _) ?_
                    clear H89; intro a90 wx90 H90
                    refine plain (y_move rfl rfl) rfl rfl rfl H90 ?_
                    clear H90; intro a91 H91
                    refine st_buildSlice1 (xs := [.tmp 38, .tmp 40, .tmp 42, .tmp 43]) rfl Tryd.underlying49 z_size9 z_zero9 rfl rfl rfl rfl rfl rfl rfl rfl rfl H91 ?_
                    clear H91; intro b92 a92 wx92 H92
                    refine st_callg rfl z_call38 rfl rfl rfl rfl H92 (rlist [Note.num index, Note.num kind, Note.num time, body] _ _ _ rfl (Rd.ofSep (rd_blkA (by repeat (first | exact Mh | apply Mt))) H92.sep) (by simp)) ?_
                    clear H92; intro a93 wx93 H93
                    refine plain (y_move rfl rfl) rfl rfl rfl H93 ?_
                    clear H93; intro a94 H94
                    refine plain (y_extract rfl rfl rfl) rfl rfl rfl H94 ?_
                    clear H94; intro a95 H95
                    refine plain (y_extract rfl rfl rfl) rfl rfl rfl H95 ?_
                    clear H95; intro a96 H96
                    refine plain (y_assign rfl rfl) rfl rfl rfl H96 ?_
                    clear H96; intro a97 H97
                    refine plain (y_assign rfl rfl) rfl rfl rfl H97 ?_
                    clear H97; intro a98 H98
                    refine fin ?_
                    refine then_n ?_
                    refine wp_seq ?_
                    refine hreg [It.blk b1 23 (prev.map u8)] (fun _ h => (h.sub (by first | exact S0 | exact S1 | repeat (first | exact S1 | exact S0 | apply S2 | apply S3)))) (by kernel_rfl) H98 ?_
                    clear H98; intro wx99 H99
                    refine htake 0 rfl (by kernel_rfl) (y_move rfl rfl) rfl rfl rfl (fun _ h => (h.sub (by first | exact S0 | exact S1 | repeat (first | exact S1 | exact S0 | apply S2 | apply S3)))) H99 ?_
                    clear H99; intro a100 H100
                    refine htake 1 rfl (by kernel_rfl) (y_move rfl rfl) rfl rfl rfl (fun _ h => (h.sub (by first | exact S0 | exact S1 | repeat (first | exact S1 | exact S0 | apply S2 | apply S3)))) H100 ?_
                    clear H100; intro a101 H101
                    refine htake 2 rfl (by kernel_rfl) (y_move rfl rfl) rfl rfl rfl (fun _ h => (h.sub (by first | exact S0 | exact S1 | repeat (first | exact S1 | exact S0 | apply S2 | apply S3)))) H101 ?_
                    clear H101; intro a102 H102
                    refine htake 3 rfl (by kernel_rfl) (y_move rfl rfl) rfl rfl rfl (fun _ h => (h.sub (by first | exact S0 | exact S1 | repeat (first | exact S1 | exact S0 | apply S2 | apply S3)))) H102 ?_
                    clear H102; intro a103 H103
                    refine htake 4 rfl (by kernel_rfl) (y_loadAB rfl z_agg23 z_size23 rfl (by repeat (first | exact Mh | apply Mt)) (q_ld_b32_0_32 (by first | assumption | exact Sha.sum_length _)) (q_len_b32 (by first | assumption | exact Sha.sum_length _))) rfl rfl rfl (fun _ h => (h.sub (by first | exact S0 | exact S1 | repeat (first | exact S1 | exact S0 | apply S2 | apply S3)))) H103 ?_
                    clear H103; intro a104 H104
                    refine htake 5 rfl (by kernel_rfl) (y_loadAB rfl z_agg23 z_size23 rfl (by repeat (first | exact Mh | apply Mt)) (q_ld_b32_0_32 (by first | assumption | exact Sha.sum_length _)) (q_len_b32 (by first | assumption | exact Sha.sum_length _))) rfl rfl rfl (fun _ h => (h.sub (by first | exact S0 | exact S1 | repeat (first | exact S1 | exact S0 | apply S2 | apply S3)))) H104 ?_
                    clear H104; intro a105 H105
                    refine htake 6 rfl (by kernel_rfl) (y_move rfl rfl) rfl rfl rfl (fun _ h => (h.sub (by first | exact S0 | exact S1 | repeat (first | exact S1 | exact S0 | apply S2 | apply S3)))) H105 ?_
                    clear H105; intro a106 H106
                    refine hgo 7 rfl (by kernel_rfl) ?_
                    refine st_callg rfl z_call46 rfl rfl rfl rfl H106 (rchain prev hp _ (by have := Oct.list_len (l := [Note.num index, Note.num kind, Note.num time, body]); omega)) ?_
                    clear H106; intro a107 wx107 H107
                    refine hfin (H107.sep.sub (by first | exact S0 | exact S1 | repeat (first | exact S1 | exact S0 | apply S2 | apply S3))) ?_
                    refine htake 8 rfl (by kernel_rfl) (y_build rfl z_zeroN35 z_places35 rfl (lay_1 (off := 0) (n := 68) rfl (q_len_c4b32b32 (by first | assumption | exact Sha.sum_length _) (by first | assumption | exact Sha.sum_length _)) (by decide) q_spl_c4b32b32_0_c1 (lay_1 (off := 1) (n := 68) rfl (q_len_c4b32b32 (by first | assumption | exact Sha.sum_length _) (by first | assumption | exact Sha.sum_length _)) (by decide) q_spl_c4b32b32_1_c1 (lay_1 (off := 2) (n := 68) rfl (q_len_c4b32b32 (by first | assumption | exact Sha.sum_length _) (by first | assumption | exact Sha.sum_length _)) (by decide) q_spl_c4b32b32_2_c1 (lay_1 (off := 3) (n := 68) rfl (q_len_c4b32b32 (by first | assumption | exact Sha.sum_length _) (by first | assumption | exact Sha.sum_length _)) (by decide) q_spl_c4b32b32_3_c1 (lay_f (off := 4) (z := 32) (n := 68) rfl (agg_cells _) (q_len_b32 (by first | assumption | exact Sha.sum_length _)) (q_len_c4b32b32 (by first | assumption | exact Sha.sum_length _) (by first | assumption | exact Sha.sum_length _)) (by decide) (q_spl_c4b32b32_4_b32 (by first | assumption | exact Sha.sum_length _) (by first | assumption | exact Sha.sum_length _)) (lay_f (off := 36) (z := 32) (n := 68) rfl (agg_cells _) (q_len_b32 (by first | assumption | exact Sha.sum_length _)) (q_len_c4b32b32 (by first | assumption | exact Sha.sum_length _) (by first | assumption | exact Sha.sum_length _)) (by decide) (q_spl_c4b32b32_36_b32 (by first | assumption | exact Sha.sum_length _) (by first | assumption | exact Sha.sum_length _) (by first | assumption | exact Sha.sum_length _)) lay_n)) (by rfl)) (by rfl)) (by rfl)) (by rfl))) rfl rfl rfl (fun _ h => (h.sub (by first | exact S0 | exact S1 | repeat (first | exact S1 | exact S0 | apply S2 | apply S3)))) H107 ?_
                    clear H107; intro a108 H108
                    refine hgo 9 rfl (by kernel_rfl) ?_
                    refine st_storeN rfl z_size35 rfl rfl (agg_cells _) (by repeat (first | exact Uh | apply Ut)) (q_one_c4b32b32 rfl rfl rfl rfl) (q_len_c4b32b32 (by first | assumption | exact Sha.sum_length _) (by first | assumption | exact Sha.sum_length _)) (q_len_c4b32b32 (by first | assumption | exact Sha.sum_length _) (by first | assumption | exact Sha.sum_length _)) (q_spl_c4b32b32_0_c4b32b32 (by first | assumption | exact Sha.sum_length _) (by first | assumption | exact Sha.sum_length _) (by first | assumption | exact Sha.sum_length _) (by first | assumption | exact Sha.sum_length _)) (by decide) rfl rfl H108 ?_
                    clear H108; intro wx109 H109
                    refine hfin (H109.sep.sub (by first | exact S0 | exact S1 | repeat (first | exact S1 | exact S0 | apply S2 | apply S3))) ?_
                    refine htake 10 rfl (by kernel_rfl) (y_assign rfl rfl) rfl rfl rfl (fun _ h => (h.sub (by first | exact S0 | exact S1 | repeat (first | exact S1 | exact S0 | apply S2 | apply S3)))) H109 ?_
                    clear H109; intro a110 H110
                    refine hdone (by kernel_rfl) ?_
                    refine then_n ?_
                    refine wp_ret ?_
                    -- return 5
                    refine retct rfl H110 rfl z_agg35 z_size35 (by repeat (first | exact Mh | apply Mt)) (q_len_c4b32b32 (by first | assumption | exact Sha.sum_length _) (by first | assumption | exact Sha.sum_length _)) rfl ?_
                    refine ⟨_, [], rfl, ⟨?_, rfl⟩, H110.sep.sub (List.nil_sublist _)⟩
                    have hk := Note.Receipt.ok_is (⟨index, kind, time, body, prev, Note.Z⟩ : Note.Receipt)
                    first | (rw [Note.link, if_neg (by rw [hk]; simp only [decide_eq_true_eq]; omega)]; rfl) | (rw [Note.link, if_pos (by rw [hk]; simp only [decide_eq_true_eq]; omega)]; rfl)
          · first
            | fail
            | skip
              clear H58; intro H111
              try simp only [decide_eq_true_eq, decide_eq_false_iff_not, Bool.not_eq_true', Bool.not_eq_false', Bool.and_eq_true, Bool.not_eq_true, Bool.not_eq_false] at hg59
              refine skip rfl rfl rfl H111 ?_
              clear H111; intro a112 H112
              refine skip rfl rfl rfl H112 ?_
              clear H112; intro a113 H113
              refine plain (y_pick_f rfl rfl rfl) rfl rfl rfl H113 ?_
              clear H113; intro a114 H114
              refine plain (y_pick_f rfl rfl rfl) rfl rfl rfl H114 ?_
              clear H114; intro a115 H115
              refine plain (y_move rfl rfl) rfl rfl rfl H115 ?_
              clear H115; intro a116 H116
              refine plain (y_move rfl rfl) rfl rfl rfl H116 ?_
              clear H116; intro a117 H117
              refine plain (y_slen rfl Tryd.underlying9 rfl) rfl rfl rfl H117 ?_
              clear H117; intro a118 H118
              refine plain (y_gtr rfl rfl rfl) rfl rfl rfl H118 ?_
              clear H118; intro a119 H119
              refine plain (y_pick_f rfl rfl rfl) rfl rfl rfl H119 ?_
              clear H119; intro a120 H120
              refine fin ?_
              refine then_n ?_
              refine cnd H120 rfl (fun hc121 => ?_) (fun hc121 => ?_) -- cond 5
              · skip
                try simp only [decide_eq_true_eq, decide_eq_false_iff_not, Bool.not_eq_true', Bool.not_eq_false', Bool.and_eq_true, Bool.not_eq_true, Bool.not_eq_false] at hc121
                refine wp_seq ?_
                refine reg ?_
                refine plain (y_build rfl z_zeroN35 z_places35 rfl lay_n) rfl rfl rfl H120 ?_
                clear H120; intro a122 H122
                refine st_storeN rfl z_size35 rfl rfl (agg_cells _) (by repeat (first | exact Uh | apply Ut)) (q_one_c4b32b32 rfl rfl rfl rfl) (q_len_c4b32b32 (by first | assumption | exact Sha.sum_length _) (by first | assumption | exact Sha.sum_length _)) (q_len_c4b32b32 (by first | assumption | exact Sha.sum_length _) (by first | assumption | exact Sha.sum_length _)) (q_spl_c4b32b32_0_c4b32b32 (by first | assumption | exact Sha.sum_length _) (by first | assumption | exact Sha.sum_length _) (by first | assumption | exact Sha.sum_length _) (by first | assumption | exact Sha.sum_length _)) (by decide) rfl rfl H122 ?_
                clear H122; intro wx123 H123
                refine plain (y_assign rfl rfl) rfl rfl rfl H123 ?_
                clear H123; intro a124 H124
                refine fin ?_
                refine then_n ?_
                refine wp_ret ?_
                refine then_r ?_
                -- return 6
                refine retct rfl H124 rfl z_agg35 z_size35 (by repeat (first | exact Mh | apply Mt)) (q_len_c4b32b32 (by first | assumption | exact Sha.sum_length _) (by first | assumption | exact Sha.sum_length _)) rfl ?_
                refine ⟨_, [], rfl, ⟨?_, rfl⟩, H124.sep.sub (List.nil_sublist _)⟩
                have hk := Note.Receipt.ok_is (⟨index, kind, time, body, prev, Note.Z⟩ : Note.Receipt)
                first | (rw [Note.link, if_neg (by rw [hk]; simp only [decide_eq_true_eq]; omega)]; rfl) | (rw [Note.link, if_pos (by rw [hk]; simp only [decide_eq_true_eq]; omega)]; rfl)
              · skip
                try simp only [decide_eq_true_eq, decide_eq_false_iff_not, Bool.not_eq_true', Bool.not_eq_false', Bool.and_eq_true, Bool.not_eq_true, Bool.not_eq_false] at hc121
                refine wp_skip ?_
                refine then_n ?_
                refine wp_seq ?_
                refine reg ?_
                refine plain (y_move rfl rfl) rfl rfl rfl H120 ?_
                clear H120; intro a125 H125
                refine st_callg rfl z_call39 rfl rfl rfl rfl H125 (rtext _ (by first | exact hi.2 | exact hkd.2 | exact hti.2) _) ?_
                clear H125; intro a126 wx126 H126
                refine plain (y_move rfl rfl) rfl rfl rfl H126 ?_
                clear H126; intro a127 H127
                refine st_callg rfl z_call39 rfl rfl rfl rfl H127 (rtext _ (by first | exact hi.2 | exact hkd.2 | exact hti.2) _) ?_
                clear H127; intro a128 wx128 H128
                refine plain (y_move rfl rfl) rfl rfl rfl H128 ?_
                clear H128; intro a129 H129
                refine st_callg rfl z_call39 rfl rfl rfl rfl H129 (rtext _ (by first | exact hi.2 | exact hkd.2 | exact hti.2) _) ?_
                clear H129; intro a130 wx130 H130
                refine plain (y_move rfl rfl) rfl rfl rfl H130 ?_
                clear H130; intro a131 H131
                refine st_buildSlice1 (xs := [.tmp 38, .tmp 40, .tmp 42, .tmp 43]) rfl Tryd.underlying49 z_size9 z_zero9 rfl rfl rfl rfl rfl rfl rfl rfl rfl H131 ?_
                clear H131; intro b132 a132 wx132 H132
                refine st_callg rfl z_call38 rfl rfl rfl rfl H132 (rlist [Note.num index, Note.num kind, Note.num time, body] _ _ _ rfl (Rd.ofSep (rd_blkA (by repeat (first | exact Mh | apply Mt))) H132.sep) (by simp)) ?_
                clear H132; intro a133 wx133 H133
                refine plain (y_move rfl rfl) rfl rfl rfl H133 ?_
                clear H133; intro a134 H134
                refine plain (y_extract rfl rfl rfl) rfl rfl rfl H134 ?_
                clear H134; intro a135 H135
                refine plain (y_extract rfl rfl rfl) rfl rfl rfl H135 ?_
                clear H135; intro a136 H136
                refine plain (y_assign rfl rfl) rfl rfl rfl H136 ?_
                clear H136; intro a137 H137
                refine plain (y_assign rfl rfl) rfl rfl rfl H137 ?_
                clear H137; intro a138 H138
                refine fin ?_
                refine then_n ?_
                refine wp_seq ?_
                refine hreg [It.blk b1 23 (prev.map u8)] (fun _ h => (h.sub (by first | exact S0 | exact S1 | repeat (first | exact S1 | exact S0 | apply S2 | apply S3)))) (by kernel_rfl) H138 ?_
                clear H138; intro wx139 H139
                refine htake 0 rfl (by kernel_rfl) (y_move rfl rfl) rfl rfl rfl (fun _ h => (h.sub (by first | exact S0 | exact S1 | repeat (first | exact S1 | exact S0 | apply S2 | apply S3)))) H139 ?_
                clear H139; intro a140 H140
                refine htake 1 rfl (by kernel_rfl) (y_move rfl rfl) rfl rfl rfl (fun _ h => (h.sub (by first | exact S0 | exact S1 | repeat (first | exact S1 | exact S0 | apply S2 | apply S3)))) H140 ?_
                clear H140; intro a141 H141
                refine htake 2 rfl (by kernel_rfl) (y_move rfl rfl) rfl rfl rfl (fun _ h => (h.sub (by first | exact S0 | exact S1 | repeat (first | exact S1 | exact S0 | apply S2 | apply S3)))) H141 ?_
                clear H141; intro a142 H142
                refine htake 3 rfl (by kernel_rfl) (y_move rfl rfl) rfl rfl rfl (fun _ h => (h.sub (by first | exact S0 | exact S1 | repeat (first | exact S1 | exact S0 | apply S2 | apply S3)))) H142 ?_
                clear H142; intro a143 H143
                refine htake 4 rfl (by kernel_rfl) (y_loadAB rfl z_agg23 z_size23 rfl (by repeat (first | exact Mh | apply Mt)) (q_ld_b32_0_32 (by first | assumption | exact Sha.sum_length _)) (q_len_b32 (by first | assumption | exact Sha.sum_length _))) rfl rfl rfl (fun _ h => (h.sub (by first | exact S0 | exact S1 | repeat (first | exact S1 | exact S0 | apply S2 | apply S3)))) H143 ?_
                clear H143; intro a144 H144
                refine htake 5 rfl (by kernel_rfl) (y_loadAB rfl z_agg23 z_size23 rfl (by repeat (first | exact Mh | apply Mt)) (q_ld_b32_0_32 (by first | assumption | exact Sha.sum_length _)) (q_len_b32 (by first | assumption | exact Sha.sum_length _))) rfl rfl rfl (fun _ h => (h.sub (by first | exact S0 | exact S1 | repeat (first | exact S1 | exact S0 | apply S2 | apply S3)))) H144 ?_
                clear H144; intro a145 H145
                refine htake 6 rfl (by kernel_rfl) (y_move rfl rfl) rfl rfl rfl (fun _ h => (h.sub (by first | exact S0 | exact S1 | repeat (first | exact S1 | exact S0 | apply S2 | apply S3)))) H145 ?_
                clear H145; intro a146 H146
                refine hgo 7 rfl (by kernel_rfl) ?_
                refine st_callg rfl z_call46 rfl rfl rfl rfl H146 (rchain prev hp _ (by have := Oct.list_len (l := [Note.num index, Note.num kind, Note.num time, body]); omega)) ?_
                clear H146; intro a147 wx147 H147
                refine hfin (H147.sep.sub (by first | exact S0 | exact S1 | repeat (first | exact S1 | exact S0 | apply S2 | apply S3))) ?_
                refine htake 8 rfl (by kernel_rfl) (y_build rfl z_zeroN35 z_places35 rfl (lay_1 (off := 0) (n := 68) rfl (q_len_c4b32b32 (by first | assumption | exact Sha.sum_length _) (by first | assumption | exact Sha.sum_length _)) (by decide) q_spl_c4b32b32_0_c1 (lay_1 (off := 1) (n := 68) rfl (q_len_c4b32b32 (by first | assumption | exact Sha.sum_length _) (by first | assumption | exact Sha.sum_length _)) (by decide) q_spl_c4b32b32_1_c1 (lay_1 (off := 2) (n := 68) rfl (q_len_c4b32b32 (by first | assumption | exact Sha.sum_length _) (by first | assumption | exact Sha.sum_length _)) (by decide) q_spl_c4b32b32_2_c1 (lay_1 (off := 3) (n := 68) rfl (q_len_c4b32b32 (by first | assumption | exact Sha.sum_length _) (by first | assumption | exact Sha.sum_length _)) (by decide) q_spl_c4b32b32_3_c1 (lay_f (off := 4) (z := 32) (n := 68) rfl (agg_cells _) (q_len_b32 (by first | assumption | exact Sha.sum_length _)) (q_len_c4b32b32 (by first | assumption | exact Sha.sum_length _) (by first | assumption | exact Sha.sum_length _)) (by decide) (q_spl_c4b32b32_4_b32 (by first | assumption | exact Sha.sum_length _) (by first | assumption | exact Sha.sum_length _)) (lay_f (off := 36) (z := 32) (n := 68) rfl (agg_cells _) (q_len_b32 (by first | assumption | exact Sha.sum_length _)) (q_len_c4b32b32 (by first | assumption | exact Sha.sum_length _) (by first | assumption | exact Sha.sum_length _)) (by decide) (q_spl_c4b32b32_36_b32 (by first | assumption | exact Sha.sum_length _) (by first | assumption | exact Sha.sum_length _) (by first | assumption | exact Sha.sum_length _)) lay_n)) (by rfl)) (by rfl)) (by rfl)) (by rfl))) rfl rfl rfl (fun _ h => (h.sub (by first | exact S0 | exact S1 | repeat (first | exact S1 | exact S0 | apply S2 | apply S3)))) H147 ?_
                clear H147; intro a148 H148
                refine hgo 9 rfl (by kernel_rfl) ?_
                refine st_storeN rfl z_size35 rfl rfl (agg_cells _) (by repeat (first | exact Uh | apply Ut)) (q_one_c4b32b32 rfl rfl rfl rfl) (q_len_c4b32b32 (by first | assumption | exact Sha.sum_length _) (by first | assumption | exact Sha.sum_length _)) (q_len_c4b32b32 (by first | assumption | exact Sha.sum_length _) (by first | assumption | exact Sha.sum_length _)) (q_spl_c4b32b32_0_c4b32b32 (by first | assumption | exact Sha.sum_length _) (by first | assumption | exact Sha.sum_length _) (by first | assumption | exact Sha.sum_length _) (by first | assumption | exact Sha.sum_length _)) (by decide) rfl rfl H148 ?_
                clear H148; intro wx149 H149
                refine hfin (H149.sep.sub (by first | exact S0 | exact S1 | repeat (first | exact S1 | exact S0 | apply S2 | apply S3))) ?_
                refine htake 10 rfl (by kernel_rfl) (y_assign rfl rfl) rfl rfl rfl (fun _ h => (h.sub (by first | exact S0 | exact S1 | repeat (first | exact S1 | exact S0 | apply S2 | apply S3)))) H149 ?_
                clear H149; intro a150 H150
                refine hdone (by kernel_rfl) ?_
                refine then_n ?_
                refine wp_ret ?_
                -- return 7
                refine retct rfl H150 rfl z_agg35 z_size35 (by repeat (first | exact Mh | apply Mt)) (q_len_c4b32b32 (by first | assumption | exact Sha.sum_length _) (by first | assumption | exact Sha.sum_length _)) rfl ?_
                refine ⟨_, [], rfl, ⟨?_, rfl⟩, H150.sep.sub (List.nil_sublist _)⟩
                have hk := Note.Receipt.ok_is (⟨index, kind, time, body, prev, Note.Z⟩ : Note.Receipt)
                first | (rw [Note.link, if_neg (by rw [hk]; simp only [decide_eq_true_eq]; omega)]; rfl) | (rw [Note.link, if_pos (by rw [hk]; simp only [decide_eq_true_eq]; omega)]; rfl)
set_option maxRecDepth 100000 in
set_option maxHeartbeats 2000000 in
theorem rwrec (r : Note.Receipt) (wf : Note.Receipt.Wf r) {w : World} : Calls Tryd.prog 18 #[.agg (Note.Receipt.cells r).toArray] w (Gives (.tuple #[str (Note.writeReceipt r).1, .int .i64 (Note.writeReceipt r).2]) [] w) := by
  have lz32 : (List.replicate 32 (0 : UInt8)).length = 32 := List.length_replicate
  have lz0 := wf.prev
  have lz1 := wf.hash
  refine enterL (args := [.agg (Note.Receipt.cells r).toArray]) Tryd.func18 rfl rfl (l := []) (Sep.refl _) ?_
  intro a0 H0
  refine wp_seq ?_
  refine reg ?_
  refine st_box rfl rfl (agg_cells _) rfl rfl rfl H0 ?_
  clear H0; intro b1 a1 wx1 H1
  refine plain (y_assign rfl rfl) rfl rfl rfl H1 ?_
  clear H1; intro a2 H2
  refine plain (y_assign rfl rfl) rfl rfl rfl H2 ?_
  clear H2; intro a3 H3
  refine fin ?_
  refine then_n ?_
  refine wp_seq ?_
  refine reg ?_
  refine plain (y_fieldB rfl z_field35_4 rfl (by first | (simp only [Nat.zero_add, Nat.add_zero, Nat.reduceAdd]; rfl) | rfl)) rfl rfl rfl H3 ?_
  clear H3; intro a4 H4
  refine plain (y_loadAB rfl z_agg23 z_size23 rfl (by repeat (first | exact Mh | apply Mt)) (q_ld_c4b32b32_4_32 (by first | assumption | exact Note.linkF_prev _ wf.prev | exact Note.linkF_hash _ _ _ _ _)) (q_len_b32 (by first | assumption | exact Note.linkF_prev _ wf.prev | exact Note.linkF_hash _ _ _ _ _))) rfl rfl rfl H4 ?_
  clear H4; intro a5 H5
  refine plain (y_fieldB rfl z_field35_0 rfl (by first | (simp only [Nat.zero_add, Nat.add_zero, Nat.reduceAdd]; rfl) | rfl)) rfl rfl rfl H5 ?_
  clear H5; intro a6 H6
  refine plain (y_loadB rfl z_agg3 rfl (by repeat (first | exact Mh | apply Mt)) q_ix_c4b32b32_0) rfl rfl rfl H6 ?_
  clear H6; intro a7 H7
  refine plain (y_fieldB rfl z_field35_1 rfl (by first | (simp only [Nat.zero_add, Nat.add_zero, Nat.reduceAdd]; rfl) | rfl)) rfl rfl rfl H7 ?_
  clear H7; intro a8 H8
  refine plain (y_loadB rfl z_agg3 rfl (by repeat (first | exact Mh | apply Mt)) q_ix_c4b32b32_1) rfl rfl rfl H8 ?_
  clear H8; intro a9 H9
  refine plain (y_fieldB rfl z_field35_2 rfl (by first | (simp only [Nat.zero_add, Nat.add_zero, Nat.reduceAdd]; rfl) | rfl)) rfl rfl rfl H9 ?_
  clear H9; intro a10 H10
  refine plain (y_loadB rfl z_agg3 rfl (by repeat (first | exact Mh | apply Mt)) q_ix_c4b32b32_2) rfl rfl rfl H10 ?_
  clear H10; intro a11 H11
  refine plain (y_fieldB rfl z_field35_3 rfl (by first | (simp only [Nat.zero_add, Nat.add_zero, Nat.reduceAdd]; rfl) | rfl)) rfl rfl rfl H11 ?_
  clear H11; intro a12 H12
  refine plain (y_loadB rfl z_agg9 rfl (by repeat (first | exact Mh | apply Mt)) q_ix_c4b32b32_3) rfl rfl rfl H12 ?_
  clear H12; intro a13 H13
  refine st_callg rfl z_call20 rfl rfl rfl rfl H13 (rlink r.prev wf.prev r.index r.kind r.time wf.index wf.kind wf.time r.body wf.body) ?_
  clear H13; intro a14 wx14 H14
  refine plain (y_move rfl rfl) rfl rfl rfl H14 ?_
  clear H14; intro a15 H15
  refine plain (y_extract rfl rfl rfl) rfl rfl rfl H15 ?_
  clear H15; intro a16 H16
  refine plain (y_extract rfl rfl rfl) rfl rfl rfl H16 ?_
  clear H16; intro a17 H17
  refine st_alloc rfl z_zeroN35 rfl rfl rfl H17 ?_
  clear H17; intro b18 a18 wx18 H18
  refine st_storeN rfl z_size35 rfl rfl (agg_cells _) (by repeat (first | exact Uh | apply Ut)) (q_one_c4b32b32 rfl rfl rfl rfl) (q_len_c4b32b32 (by first | assumption | exact Note.linkF_prev _ wf.prev | exact Note.linkF_hash _ _ _ _ _) (by first | assumption | exact Note.linkF_prev _ wf.prev | exact Note.linkF_hash _ _ _ _ _)) (q_len_c4b32b32 (by first | assumption | exact Note.linkF_prev _ wf.prev | exact Note.linkF_hash _ _ _ _ _) (by first | assumption | exact Note.linkF_prev _ wf.prev | exact Note.linkF_hash _ _ _ _ _)) (q_spl_c4b32b32_0_c4b32b32 (by first | assumption | exact Note.linkF_prev _ wf.prev | exact Note.linkF_hash _ _ _ _ _) (by first | assumption | exact Note.linkF_prev _ wf.prev | exact Note.linkF_hash _ _ _ _ _) (by first | assumption | exact Note.linkF_prev _ wf.prev | exact Note.linkF_hash _ _ _ _ _) (by first | assumption | exact Note.linkF_prev _ wf.prev | exact Note.linkF_hash _ _ _ _ _)) (by decide) rfl rfl H18 ?_
  clear H18; intro wx19 H19
  refine plain (y_assign rfl rfl) rfl rfl rfl H19 ?_
  clear H19; intro a20 H20
  refine fin ?_
  refine then_n ?_
  refine wp_seq ?_
  refine wp_seq ?_
  refine reg ?_
  refine plain (y_move rfl rfl) rfl rfl rfl H20 ?_
  clear H20; intro a21 H21
  refine plain (y_neq rfl rfl rfl) rfl rfl rfl H21 ?_
  clear H21; intro a22 H22
  refine fin ?_
  refine then_n ?_
  refine cnd H22 rfl (fun hc23 => ?_) (fun hc23 => ?_) -- cond 1
  · skip
    try simp only [decide_eq_true_eq, decide_eq_false_iff_not, Bool.not_eq_true', Bool.not_eq_false', Bool.and_eq_true, Bool.not_eq_true, Bool.not_eq_false] at hc23
    refine wp_seq ?_
    refine reg ?_
    refine plain (y_move rfl rfl) rfl rfl rfl H22 ?_
    clear H22; intro a24 H24
    refine plain (y_assign rfl rfl) rfl rfl rfl H24 ?_
    clear H24; intro a25 H25
    refine plain (y_assign rfl rfl) rfl rfl rfl H25 ?_
    clear H25; intro a26 H26
    refine fin ?_
    refine then_n ?_
    refine wp_ret ?_
    refine then_r ?_
    -- return 1
    refine ret2 rfl H26 rfl rfl ?_
    exact ⟨_, [], rfl, ⟨by rw [Note.wrec_err (by assumption)], rfl⟩, H26.sep.sub (List.nil_sublist _)⟩
  · skip
    try simp only [decide_eq_true_eq, decide_eq_false_iff_not, Bool.not_eq_true', Bool.not_eq_false', Bool.and_eq_true, Bool.not_eq_true, Bool.not_eq_false] at hc23
    refine wp_skip ?_
    refine then_n ?_
    refine wp_seq ?_
    refine wp_seq ?_
    refine reg ?_
    refine plain (y_loadAB rfl z_agg35 z_size35 rfl (by repeat (first | exact Mh | apply Mt)) (q_ld_c4b32b32_0_68 (by first | assumption | exact Note.linkF_prev _ wf.prev | exact Note.linkF_hash _ _ _ _ _) (by first | assumption | exact Note.linkF_prev _ wf.prev | exact Note.linkF_hash _ _ _ _ _)) (q_len_c4b32b32 (by first | assumption | exact Note.linkF_prev _ wf.prev | exact Note.linkF_hash _ _ _ _ _) (by first | assumption | exact Note.linkF_prev _ wf.prev | exact Note.linkF_hash _ _ _ _ _))) rfl rfl rfl H22 ?_
    clear H22; intro a27 H27
    refine plain (y_loadAB rfl z_agg35 z_size35 rfl (by repeat (first | exact Mh | apply Mt)) (q_ld_c4b32b32_0_68 (by first | assumption | exact Note.linkF_prev _ wf.prev | exact Note.linkF_hash _ _ _ _ _) (by first | assumption | exact Note.linkF_prev _ wf.prev | exact Note.linkF_hash _ _ _ _ _)) (q_len_c4b32b32 (by first | assumption | exact Note.linkF_prev _ wf.prev | exact Note.linkF_hash _ _ _ _ _) (by first | assumption | exact Note.linkF_prev _ wf.prev | exact Note.linkF_hash _ _ _ _ _))) rfl rfl rfl H27 ?_
    clear H27; intro a28 H28
    refine plain (y_tneq rfl (by kernel_rfl) rfl rfl (eqr_Receipt (Note.link r.prev r.index r.kind r.time r.body).1 r (Note.linkF_prev _ wf.prev) wf.prev (Note.linkF_hash _ _ _ _ _) wf.hash)) rfl rfl rfl H28 ?_
    clear H28; intro a29 H29
    refine fin ?_
    refine then_n ?_
    refine cnd H29 rfl (fun hc30 => ?_) (fun hc30 => ?_) -- cond 2
    · skip
      try simp only [decide_eq_true_eq, decide_eq_false_iff_not, Bool.not_eq_true', Bool.not_eq_false', Bool.and_eq_true, Bool.not_eq_true, Bool.not_eq_false] at hc30
      refine wp_seq ?_
      refine reg ?_
      refine plain (y_assign rfl rfl) rfl rfl rfl H29 ?_
      clear H29; intro a31 H31
      refine plain (y_assign rfl rfl) rfl rfl rfl H31 ?_
      clear H31; intro a32 H32
      refine fin ?_
      refine then_n ?_
      refine wp_ret ?_
      refine then_r ?_
      -- return 2
      refine ret2 rfl H32 rfl rfl ?_
      exact ⟨_, [], rfl, ⟨by rw [Note.wrec_sum (by omega) (by assumption)], rfl⟩, H32.sep.sub (List.nil_sublist _)⟩
    · skip
      try simp only [decide_eq_true_eq, decide_eq_false_iff_not, Bool.not_eq_true', Bool.not_eq_false', Bool.and_eq_true, Bool.not_eq_true, Bool.not_eq_false] at hc30
      refine wp_skip ?_
      refine then_n ?_
      refine wp_seq ?_
      refine hreg _ (fun _ h => h) (by kernel_rfl) H29 ?_
      clear H29; intro wx33 H33
      refine htake 0 rfl (by kernel_rfl) (y_fieldB rfl z_field35_0 rfl (by first | (simp only [Nat.zero_add, Nat.add_zero, Nat.reduceAdd]; rfl) | rfl)) rfl rfl rfl (fun _ h => (h.sub (by first | exact S0 | exact S1 | repeat (first | exact S1 | exact S0 | apply S2 | apply S3)))) H33 ?_
      clear H33; intro a34 H34
      refine htake 1 rfl (by kernel_rfl) (y_loadB rfl z_agg3 rfl (by repeat (first | exact Mh | apply Mt)) q_ix_c4b32b32_0) rfl rfl rfl (fun _ h => (h.sub (by first | exact S0 | exact S1 | repeat (first | exact S1 | exact S0 | apply S2 | apply S3)))) H34 ?_
      clear H34; intro a35 H35
      refine htake 3 rfl (by kernel_rfl) (y_fieldB rfl z_field35_1 rfl (by first | (simp only [Nat.zero_add, Nat.add_zero, Nat.reduceAdd]; rfl) | rfl)) rfl rfl rfl (fun _ h => (h.sub (by first | exact S0 | exact S1 | repeat (first | exact S1 | exact S0 | apply S2 | apply S3)))) H35 ?_
      clear H35; intro a36 H36
      refine htake 4 rfl (by kernel_rfl) (y_loadB rfl z_agg3 rfl (by repeat (first | exact Mh | apply Mt)) q_ix_c4b32b32_1) rfl rfl rfl (fun _ h => (h.sub (by first | exact S0 | exact S1 | repeat (first | exact S1 | exact S0 | apply S2 | apply S3)))) H36 ?_
      clear H36; intro a37 H37
      refine htake 6 rfl (by kernel_rfl) (y_fieldB rfl z_field35_2 rfl (by first | (simp only [Nat.zero_add, Nat.add_zero, Nat.reduceAdd]; rfl) | rfl)) rfl rfl rfl (fun _ h => (h.sub (by first | exact S0 | exact S1 | repeat (first | exact S1 | exact S0 | apply S2 | apply S3)))) H37 ?_
      clear H37; intro a38 H38
      refine htake 7 rfl (by kernel_rfl) (y_loadB rfl z_agg3 rfl (by repeat (first | exact Mh | apply Mt)) q_ix_c4b32b32_2) rfl rfl rfl (fun _ h => (h.sub (by first | exact S0 | exact S1 | repeat (first | exact S1 | exact S0 | apply S2 | apply S3)))) H38 ?_
      clear H38; intro a39 H39
      refine htake 9 rfl (by kernel_rfl) (y_fieldB rfl z_field35_3 rfl (by first | (simp only [Nat.zero_add, Nat.add_zero, Nat.reduceAdd]; rfl) | rfl)) rfl rfl rfl (fun _ h => (h.sub (by first | exact S0 | exact S1 | repeat (first | exact S1 | exact S0 | apply S2 | apply S3)))) H39 ?_
      clear H39; intro a40 H40
      refine htake 10 rfl (by kernel_rfl) (y_loadB rfl z_agg9 rfl (by repeat (first | exact Mh | apply Mt)) q_ix_c4b32b32_3) rfl rfl rfl (fun _ h => (h.sub (by first | exact S0 | exact S1 | repeat (first | exact S1 | exact S0 | apply S2 | apply S3)))) H40 ?_
      clear H40; intro a41 H41
      refine htake 11 rfl (by kernel_rfl) (y_fieldB rfl z_field35_4 rfl (by first | (simp only [Nat.zero_add, Nat.add_zero, Nat.reduceAdd]; rfl) | rfl)) rfl rfl rfl (fun _ h => (h.sub (by first | exact S0 | exact S1 | repeat (first | exact S1 | exact S0 | apply S2 | apply S3)))) H41 ?_
      clear H41; intro a42 H42
      refine htake 12 rfl (by kernel_rfl) (y_loadAB rfl z_agg23 z_size23 rfl (by repeat (first | exact Mh | apply Mt)) (q_ld_c4b32b32_4_32 (by first | assumption | exact Note.linkF_prev _ wf.prev | exact Note.linkF_hash _ _ _ _ _)) (q_len_b32 (by first | assumption | exact Note.linkF_prev _ wf.prev | exact Note.linkF_hash _ _ _ _ _))) rfl rfl rfl (fun _ h => (h.sub (by first | exact S0 | exact S1 | repeat (first | exact S1 | exact S0 | apply S2 | apply S3)))) H42 ?_
      clear H42; intro a43 H43
      refine htake 14 rfl (by kernel_rfl) (y_fieldB rfl z_field35_5 rfl (by first | (simp only [Nat.zero_add, Nat.add_zero, Nat.reduceAdd]; rfl) | rfl)) rfl rfl rfl (fun _ h => (h.sub (by first | exact S0 | exact S1 | repeat (first | exact S1 | exact S0 | apply S2 | apply S3)))) H43 ?_
      clear H43; intro a44 H44
      refine htake 15 rfl (by kernel_rfl) (y_loadAB rfl z_agg23 z_size23 rfl (by repeat (first | exact Mh | apply Mt)) (q_ld_c4b32b32_36_32 (by first | assumption | exact Note.linkF_prev _ wf.prev | exact Note.linkF_hash _ _ _ _ _) (by first | assumption | exact Note.linkF_prev _ wf.prev | exact Note.linkF_hash _ _ _ _ _)) (q_len_b32 (by first | assumption | exact Note.linkF_prev _ wf.prev | exact Note.linkF_hash _ _ _ _ _))) rfl rfl rfl (fun _ h => (h.sub (by first | exact S0 | exact S1 | repeat (first | exact S1 | exact S0 | apply S2 | apply S3)))) H44 ?_
      clear H44; intro a45 H45
      refine hgo 2 rfl (by kernel_rfl) ?_
      refine st_callg rfl z_call39 rfl rfl rfl rfl H45 (rtext _ (by first | exact wf.index.2 | exact wf.kind.2 | exact wf.time.2) _) ?_
      clear H45; intro a46 wx46 H46
      refine hfin (H46.sep.sub (by first | exact S0 | exact S1 | repeat (first | exact S1 | exact S0 | apply S2 | apply S3))) ?_
      refine hgo 5 rfl (by kernel_rfl) ?_
      refine st_callg rfl z_call39 rfl rfl rfl rfl H46 (rtext _ (by first | exact wf.index.2 | exact wf.kind.2 | exact wf.time.2) _) ?_
      clear H46; intro a47 wx47 H47
      refine hfin (H47.sep.sub (by first | exact S0 | exact S1 | repeat (first | exact S1 | exact S0 | apply S2 | apply S3))) ?_
      refine hgo 8 rfl (by kernel_rfl) ?_
      refine st_callg rfl z_call39 rfl rfl rfl rfl H47 (rtext _ (by first | exact wf.index.2 | exact wf.kind.2 | exact wf.time.2) _) ?_
      clear H47; intro a48 wx48 H48
      refine hfin (H48.sep.sub (by first | exact S0 | exact S1 | repeat (first | exact S1 | exact S0 | apply S2 | apply S3))) ?_
      refine hgo 13 rfl (by kernel_rfl) ?_
      refine st_callg rfl z_call40 rfl rfl rfl rfl H48 (rbytes _ (by first | exact wf.prev | exact wf.hash) _) ?_
      clear H48; intro a49 wx49 H49
      refine hfin (H49.sep.sub (by first | exact S0 | exact S1 | repeat (first | exact S1 | exact S0 | apply S2 | apply S3))) ?_
      refine hgo 16 rfl (by kernel_rfl) ?_
      refine st_callg rfl z_call40 rfl rfl rfl rfl H49 (rbytes _ (by first | exact wf.prev | exact wf.hash) _) ?_
      clear H49; intro a50 wx50 H50
      refine hfin (H50.sep.sub (by first | exact S0 | exact S1 | repeat (first | exact S1 | exact S0 | apply S2 | apply S3))) ?_
      refine hgo 17 rfl (by kernel_rfl) ?_
      refine st_buildSlice1 (xs := [.tmp 28, .tmp 31, .tmp 34, .tmp 36, .tmp 39, .tmp 42]) rfl Tryd.underlying49 z_size9 z_zero9 rfl rfl rfl rfl rfl rfl rfl rfl rfl H50 ?_
      clear H50; intro b51 a51 wx51 H51
      refine hfin (H51.sep.sub (by first | exact S0 | exact S1 | repeat (first | exact S1 | exact S0 | apply S2 | apply S3))) ?_
      refine hgo 18 rfl (by kernel_rfl) ?_
      refine st_callg rfl z_call38 rfl rfl rfl rfl H51 (rlist [Note.num r.index, Note.num r.kind, Note.num r.time, r.body, r.prev, r.hash] _ _ _ rfl (Rd.ofSep (rd_blkA (by repeat (first | exact Mh | apply Mt))) H51.sep) (by simp)) ?_
      clear H51; intro a52 wx52 H52
      refine hfin (H52.sep.sub (by first | exact S0 | exact S1 | repeat (first | exact S1 | exact S0 | apply S2 | apply S3))) ?_
      refine htake 19 rfl (by kernel_rfl) (y_extract rfl rfl rfl) rfl rfl rfl (fun _ h => (h.sub (by first | exact S0 | exact S1 | repeat (first | exact S1 | exact S0 | apply S2 | apply S3)))) H52 ?_
      clear H52; intro a53 H53
      refine htake 20 rfl (by kernel_rfl) (y_extract rfl rfl rfl) rfl rfl rfl (fun _ h => (h.sub (by first | exact S0 | exact S1 | repeat (first | exact S1 | exact S0 | apply S2 | apply S3)))) H53 ?_
      clear H53; intro a54 H54
      refine htake 21 rfl (by kernel_rfl) (y_assign rfl rfl) rfl rfl rfl (fun _ h => (h.sub (by first | exact S0 | exact S1 | repeat (first | exact S1 | exact S0 | apply S2 | apply S3)))) H54 ?_
      clear H54; intro a55 H55
      refine htake 22 rfl (by kernel_rfl) (y_assign rfl rfl) rfl rfl rfl (fun _ h => (h.sub (by first | exact S0 | exact S1 | repeat (first | exact S1 | exact S0 | apply S2 | apply S3)))) H55 ?_
      clear H55; intro a56 H56
      refine hdone (by kernel_rfl) ?_
      refine then_n ?_
      refine wp_ret ?_
      -- return 3
      refine ret2 rfl H56 rfl rfl ?_
      exact ⟨_, [], rfl, ⟨by rw [Note.wrec_ok (by omega) (fun h => h (by assumption))], rfl⟩, H56.sep.sub (List.nil_sublist _)⟩
end Go.Proofs.YtnnhnnhdoipbaaaDoor.N_RefR

set_option linter.unusedVariables false
set_option linter.unusedSimpArgs false
namespace Go.Proofs.YtnnhnnhdoipbaaaDoor.N_RWBatch
open Go.Sx Go.RowKit Go.Proofs.YtnnhnnhdoipbaaaDoor.N_Block Go.Proofs.YtnnhnnhdoipbaaaDoor.N_Sum Go.Proofs.YtnnhnnhdoipbaaaDoor.N_Ref Go.Proofs.YtnnhnnhdoipbaaaDoor.N_RSum Go.Proofs.YtnnhnnhdoipbaaaDoor.N_Leaf Go.Proofs.YtnnhnnhdoipbaaaDoor.N_Num Go.Proofs.YtnnhnnhdoipbaaaDoor.N_Key Go.Proofs.YtnnhnnhdoipbaaaDoor.N_Ref Go.Proofs.YtnnhnnhdoipbaaaDoor.N_RSum Go.Proofs.YtnnhnnhdoipbaaaDoor.N_Tag Go.Proofs.YtnnhnnhdoipbaaaDoor.N_Read Go.Proofs.YtnnhnnhdoipbaaaDoor.N_Lay Go.Proofs.YtnnhnnhdoipbaaaDoor.N_Eq Go.Proofs.YtnnhnnhdoipbaaaDoor.N_Ref0

theorem z_agg9 : aggB Tryd.prog 9 = some false := by kernel_rfl
theorem z_agg3 : aggB Tryd.prog 3 = some false := by kernel_rfl
theorem z_call45 : callB Tryd.prog 45 = true := by kernel_rfl
theorem z_call39 : callB Tryd.prog 39 = true := by kernel_rfl
theorem z_size9 : sizeB Tryd.prog 9 = some 1 := by kernel_rfl
theorem z_zero9 : zeroL Tryd.prog 9 = some ([.string ⟨#[]⟩]) := by kernel_rfl
theorem z_slice49 : sliceB Tryd.prog 49 = some (9, 1, 16) := by kernel_rfl
theorem z_notint49 : notIntB Tryd.prog 49 = true := by kernel_rfl
theorem z_call38 : callB Tryd.prog 38 = true := by kernel_rfl

end Go.Proofs.YtnnhnnhdoipbaaaDoor.N_RWBatch

set_option linter.unusedVariables false
set_option linter.unusedSimpArgs false
namespace Go.Proofs.YtnnhnnhdoipbaaaDoor.N_RRBatch
open Go.Sx Go.RowKit Go.Proofs.YtnnhnnhdoipbaaaDoor.N_Block Go.Proofs.YtnnhnnhdoipbaaaDoor.N_Sum Go.Proofs.YtnnhnnhdoipbaaaDoor.N_Ref Go.Proofs.YtnnhnnhdoipbaaaDoor.N_RSum Go.Proofs.YtnnhnnhdoipbaaaDoor.N_Leaf Go.Proofs.YtnnhnnhdoipbaaaDoor.N_Num Go.Proofs.YtnnhnnhdoipbaaaDoor.N_Key Go.Proofs.YtnnhnnhdoipbaaaDoor.N_Ref Go.Proofs.YtnnhnnhdoipbaaaDoor.N_RSum Go.Proofs.YtnnhnnhdoipbaaaDoor.N_Tag Go.Proofs.YtnnhnnhdoipbaaaDoor.N_Read Go.Proofs.YtnnhnnhdoipbaaaDoor.N_Lay Go.Proofs.YtnnhnnhdoipbaaaDoor.N_Eq Go.Proofs.YtnnhnnhdoipbaaaDoor.N_Ref0 Go.Proofs.YtnnhnnhdoipbaaaDoor.N_RWBatch

theorem z_size3 : sizeB Tryd.prog 3 = some 1 := by kernel_rfl
theorem z_agg3 : aggB Tryd.prog 3 = some false := by kernel_rfl
theorem z_size9 : sizeB Tryd.prog 9 = some 1 := by kernel_rfl
theorem z_agg9 : aggB Tryd.prog 9 = some false := by kernel_rfl
theorem z_call45 : callB Tryd.prog 45 = true := by kernel_rfl
end Go.Proofs.YtnnhnnhdoipbaaaDoor.N_RRBatch

set_option linter.unusedVariables false
set_option linter.unusedSimpArgs false
namespace Go.Proofs.YtnnhnnhdoipbaaaDoor.N_Aw
open Go.Sx Go.RowKit Go.Proofs.YtnnhnnhdoipbaaaDoor.N_Block Go.Proofs.YtnnhnnhdoipbaaaDoor.N_Sum Go.Proofs.YtnnhnnhdoipbaaaDoor.N_Ref Go.Proofs.YtnnhnnhdoipbaaaDoor.N_RSum Go.Proofs.YtnnhnnhdoipbaaaDoor.N_Leaf Go.Proofs.YtnnhnnhdoipbaaaDoor.N_Num Go.Proofs.YtnnhnnhdoipbaaaDoor.N_Key Go.Proofs.YtnnhnnhdoipbaaaDoor.N_Ref Go.Proofs.YtnnhnnhdoipbaaaDoor.N_RSum Go.Proofs.YtnnhnnhdoipbaaaDoor.N_Tag Go.Proofs.YtnnhnnhdoipbaaaDoor.N_Read Go.Proofs.YtnnhnnhdoipbaaaDoor.N_Lay Go.Proofs.YtnnhnnhdoipbaaaDoor.N_Eq Go.Proofs.YtnnhnnhdoipbaaaDoor.N_Ref0 Go.Proofs.YtnnhnnhdoipbaaaDoor.N_Rec Go.Proofs.YtnnhnnhdoipbaaaDoor.N_RRec Go.Proofs.YtnnhnnhdoipbaaaDoor.N_Fields Go.Proofs.YtnnhnnhdoipbaaaDoor.N_RBid Go.Proofs.YtnnhnnhdoipbaaaDoor.N_Sign Go.Proofs.YtnnhnnhdoipbaaaDoor.N_Item Go.Proofs.YtnnhnnhdoipbaaaDoor.N_WBatch Go.Proofs.YtnnhnnhdoipbaaaDoor.N_RBatch Go.Proofs.YtnnhnnhdoipbaaaDoor.N_RefB Go.Proofs.YtnnhnnhdoipbaaaDoor.N_RefI Go.Proofs.YtnnhnnhdoipbaaaDoor.N_RefR Go.Proofs.YtnnhnnhdoipbaaaDoor.N_RWBatch Go.Proofs.YtnnhnnhdoipbaaaDoor.N_RRBatch

theorem z_zeroN25 : zeroL Tryd.prog 25 = some ((.int .i64 0 :: (.int .i64 0 :: (.int .i64 0 :: (.int .i64 0 :: (List.replicate 32 (0 : UInt8)).map u8))))) := by kernel_rfl
theorem z_places25 : placesB Tryd.prog 25 = some [(0, 1), (1, 1), (2, 1), (3, 1), (4, 32)] := by kernel_rfl
theorem q_len_c4b32 {a0 a1 a2 a3 : Value} {t4 : List UInt8} (h4 : t4.length = 32) : (a0 :: a1 :: a2 :: a3 :: t4.map u8).length = 36 := (len_c (n := 35) (len_c (n := 34) (len_c (n := 33) (len_c (n := 32) (len_e (k := 32) h4)))))
theorem q_spl_c4b32_0_c1 {a0 a1 a2 a3 : Value} {t4 : List UInt8} {b0 : Value} : spl (a0 :: a1 :: a2 :: a3 :: t4.map u8) 0 (b0 :: []) = b0 :: a1 :: a2 :: a3 :: t4.map u8 := spl_0
theorem q_spl_c4b32_1_c1 {a0 a1 a2 a3 : Value} {t4 : List UInt8} {b0 : Value} : spl (a0 :: a1 :: a2 :: a3 :: t4.map u8) 1 (b0 :: []) = a0 :: b0 :: a2 :: a3 :: t4.map u8 := (spl_c (o := 0) spl_0)
theorem q_spl_c4b32_2_c1 {a0 a1 a2 a3 : Value} {t4 : List UInt8} {b0 : Value} : spl (a0 :: a1 :: a2 :: a3 :: t4.map u8) 2 (b0 :: []) = a0 :: a1 :: b0 :: a3 :: t4.map u8 := (spl_c (o := 1) (spl_c (o := 0) spl_0))
theorem z_call12 : callB Tryd.prog 12 = true := by kernel_rfl
theorem z_size25 : sizeB Tryd.prog 25 = some 36 := by kernel_rfl
theorem q_one_c4b32 {a0 a1 a2 a3 : Value} {t4 : List UInt8} (o0 : a0.oneCell' = true) (o1 : a1.oneCell' = true) (o2 : a2.oneCell' = true) (o3 : a3.oneCell' = true) : (a0 :: a1 :: a2 :: a3 :: t4.map u8).all (·.oneCell') = true := (one_c o0 (one_c o1 (one_c o2 (one_c o3 (one_u8 _)))))
theorem q_spl_c4b32_0_c4b32 {a0 a1 a2 a3 : Value} {t4 : List UInt8} {b0 b1 b2 b3 : Value} {s4 : List UInt8} (h4 : t4.length = 32) (g4 : s4.length = 32) : spl (a0 :: a1 :: a2 :: a3 :: t4.map u8) 0 (b0 :: b1 :: b2 :: b3 :: s4.map u8) = b0 :: b1 :: b2 :: b3 :: s4.map u8 := (spl_a (z := 36) (len_c (n := 35) (len_c (n := 34) (len_c (n := 33) (len_c (n := 32) (len_e (k := 32) h4))))) (len_c (n := 35) (len_c (n := 34) (len_c (n := 33) (len_c (n := 32) (len_e (k := 32) g4))))))
theorem z_agg25 : aggB Tryd.prog 25 = some true := by kernel_rfl
theorem q_ld_c4b32_0_36 {a0 a1 a2 a3 : Value} {t4 : List UInt8} (h4 : t4.length = 32) : ((a0 :: a1 :: a2 :: a3 :: t4.map u8).drop 0).take 36 = a0 :: a1 :: a2 :: a3 :: t4.map u8 := (ld_a (len_c (n := 35) (len_c (n := 34) (len_c (n := 33) (len_c (n := 32) (len_e (k := 32) h4))))))
theorem z_call10 : callB Tryd.prog 10 = true := by kernel_rfl
theorem z_call26 : callB Tryd.prog 26 = true := by kernel_rfl
theorem z_zeroN23 : zeroL Tryd.prog 23 = some ((List.replicate 32 (0 : UInt8)).map u8) := by kernel_rfl
theorem z_size5 : sizeB Tryd.prog 5 = some 1 := by kernel_rfl
theorem z_call19 : callB Tryd.prog 19 = true := by kernel_rfl
theorem z_zeroN35 : zeroL Tryd.prog 35 = some ((.int .i64 0 :: (.int .i64 0 :: (.int .i64 0 :: (.string ⟨#[]⟩ :: ((List.replicate 32 (0 : UInt8)).map u8 ++ (List.replicate 32 (0 : UInt8)).map u8)))))) := by kernel_rfl
theorem z_size35 : sizeB Tryd.prog 35 = some 68 := by kernel_rfl
theorem q_one_c4b32b32 {a0 a1 a2 a3 : Value} {t4 t5 : List UInt8} (o0 : a0.oneCell' = true) (o1 : a1.oneCell' = true) (o2 : a2.oneCell' = true) (o3 : a3.oneCell' = true) : (a0 :: a1 :: a2 :: a3 :: (t4.map u8 ++ (t5.map u8))).all (·.oneCell') = true := (one_c o0 (one_c o1 (one_c o2 (one_c o3 (one_b (one_u8 _))))))
theorem q_len_c4b32b32 {a0 a1 a2 a3 : Value} {t4 t5 : List UInt8} (h4 : t4.length = 32) (h5 : t5.length = 32) : (a0 :: a1 :: a2 :: a3 :: (t4.map u8 ++ (t5.map u8))).length = 68 := (len_c (n := 67) (len_c (n := 66) (len_c (n := 65) (len_c (n := 64) (len_b (k := 32) (n := 32) h4 (len_e (k := 32) h5))))))
theorem q_spl_c4b32b32_0_c4b32b32 {a0 a1 a2 a3 : Value} {t4 t5 : List UInt8} {b0 b1 b2 b3 : Value} {s4 s5 : List UInt8} (h4 : t4.length = 32) (h5 : t5.length = 32) (g4 : s4.length = 32) (g5 : s5.length = 32) : spl (a0 :: a1 :: a2 :: a3 :: (t4.map u8 ++ (t5.map u8))) 0 (b0 :: b1 :: b2 :: b3 :: (s4.map u8 ++ (s5.map u8))) = b0 :: b1 :: b2 :: b3 :: (s4.map u8 ++ (s5.map u8)) := (spl_a (z := 68) (len_c (n := 67) (len_c (n := 66) (len_c (n := 65) (len_c (n := 64) (len_b (k := 32) (n := 32) h4 (len_e (k := 32) h5)))))) (len_c (n := 67) (len_c (n := 66) (len_c (n := 65) (len_c (n := 64) (len_b (k := 32) (n := 32) g4 (len_e (k := 32) g5)))))))
theorem z_call15 : callB Tryd.prog 15 = true := by kernel_rfl
theorem z_field35_5 : fieldB Tryd.prog 35 5 = some 36 := by kernel_rfl
theorem z_agg23 : aggB Tryd.prog 23 = some true := by kernel_rfl
theorem z_size23 : sizeB Tryd.prog 23 = some 32 := by kernel_rfl
theorem q_ld_c4b32b32_36_32 {a0 a1 a2 a3 : Value} {t4 t5 : List UInt8} (h4 : t4.length = 32) (h5 : t5.length = 32) : ((a0 :: a1 :: a2 :: a3 :: (t4.map u8 ++ (t5.map u8))).drop 36).take 32 = t5.map u8 := (ld_c (o := 35) (ld_c (o := 34) (ld_c (o := 33) (ld_c (o := 32) (ld_b (k := 32) (o := 0) h4 rfl (ld_a (len_e (k := 32) h5)))))))
theorem q_len_b32 {t0 : List UInt8} (h0 : t0.length = 32) : (t0.map u8).length = 32 := (len_e (k := 32) h0)

set_option maxRecDepth 100000 in
set_option maxHeartbeats 2000000 in
theorem awake5 {w : World} (hG : Glob 0 Sha.K w) : Calls Tryd.prog 14 #[] w (Gives (.bool true) [] w) := by
  obtain ⟨sb, hsb⟩ : ∃ x, x = Note.signBid Note.b0 := ⟨_, rfl⟩
  obtain ⟨lk, hlk⟩ : ∃ x, x = Note.link Note.Z 0 1 5 [97] := ⟨_, rfl⟩
  have hs2 : sb.2 = 0 := by rw [hsb]; exact Note.aw_sign
  have hsl : sb.1.tag.length = 32 := by rw [hsb]; exact Note.sb_len
  have hsw : (Note.writeBid sb.1).2 = 0 := by rw [hsb]; exact Note.aw_write
  have hsr : Note.readBid (Note.writeBid sb.1).1 = (sb.1, 0) := by rw [hsb]; exact Note.aw_read
  have hsc : Note.checkBid sb.1 = 0 := by rw [hsb]; exact Note.aw_check
  have wfs : Note.Bid.Wf sb.1 := by rw [hsb]; exact Note.bid_wf Note.sb_ok Note.sb_len
  have hl2 : lk.2 = 0 := by rw [hlk, Note.aw_link]
  have hlp : lk.1.prev.length = 32 := by rw [hlk]; exact Note.linkF_prev _ rfl
  have hlh : lk.1.hash.length = 32 := by rw [hlk]; exact Note.linkF_hash _ _ _ _ _
  have hln : lk.1.hash ≠ List.replicate 32 0 := by rw [hlk]; exact Note.aw_hash
  have hrl : (Note.readBid (Note.writeBid sb.1).1).1.tag.length = 32 := Note.readBid_len
  have hsg : ∀ {w : World}, Glob 0 Sha.K w → Calls Tryd.prog 12 #[.agg (Note.Bid.cells Note.b0).toArray] w (Gives (.tuple #[.agg (Note.Bid.cells sb.1).toArray, .int .i64 sb.2]) [] w) := fun hG => by rw [hsb]; exact nsign Note.b0 (Note.bid_wf Note.b0_ok rfl) hG
  have hlg : ∀ {w : World}, Glob 0 Sha.K w → Calls Tryd.prog 19 #[.agg (Note.Z.map u8).toArray, .int .i64 0, .int .i64 1, .int .i64 5, str [97]] w (Gives (.tuple #[.agg (Note.Receipt.cells lk.1).toArray, .int .i64 lk.2]) [] w) := fun hG => by rw [hlk]; exact nlinkF Note.Z rfl 0 1 5 (by omega) (by omega) (by omega) [97] (by simp) hG
  clear hsb hlk
  have lz32 : (List.replicate 32 (0 : UInt8)).length = 32 := List.length_replicate
  refine enterL (args := []) Tryd.func14 rfl rfl (l := []) (Sep.refl _) ?_
  intro a0 H0
  refine wp_seq ?_
  refine reg ?_
  refine plain (y_assign rfl rfl) rfl rfl rfl H0 ?_
  clear H0; intro a1 H1
  refine fin ?_
  refine then_n ?_
  refine wp_seq ?_
  refine reg ?_
  refine plain (y_build rfl z_zeroN25 z_places25 rfl (lay_1 (off := 0) (n := 36) rfl (q_len_c4b32 (by assumption)) (by decide) q_spl_c4b32_0_c1 (lay_1 (off := 1) (n := 36) rfl (q_len_c4b32 (by assumption)) (by decide) q_spl_c4b32_1_c1 (lay_1 (off := 2) (n := 36) rfl (q_len_c4b32 (by assumption)) (by decide) q_spl_c4b32_2_c1 lay_n (by rfl)) (by rfl)) (by rfl))) rfl rfl rfl H1 ?_
  clear H1; intro a2 H2
  refine st_callg rfl z_call12 rfl rfl rfl rfl H2 (hsg (hG.frm H2.sep.frm (by simp))) ?_
  clear H2; intro a3 wx3 H3
  refine plain (y_move rfl rfl) rfl rfl rfl H3 ?_
  clear H3; intro a4 H4
  refine plain (y_extract rfl rfl rfl) rfl rfl rfl H4 ?_
  clear H4; intro a5 H5
  refine plain (y_extract rfl rfl rfl) rfl rfl rfl H5 ?_
  clear H5; intro a6 H6
  refine st_alloc rfl z_zeroN25 rfl rfl rfl H6 ?_
  clear H6; intro b7 a7 wx7 H7
  refine st_storeN rfl z_size25 rfl rfl (agg_cells _) (by repeat (first | exact Uh | apply Ut)) (q_one_c4b32 rfl rfl rfl rfl) (q_len_c4b32 (by assumption)) (q_len_c4b32 (by assumption)) (q_spl_c4b32_0_c4b32 (by assumption) (by assumption)) (by decide) rfl rfl H7 ?_
  clear H7; intro wx8 H8
  refine plain (y_assign rfl rfl) rfl rfl rfl H8 ?_
  clear H8; intro a9 H9
  refine fin ?_
  refine then_n ?_
  refine wp_seq ?_
  refine reg ?_
  refine plain (y_loadAB rfl z_agg25 z_size25 rfl (by repeat (first | exact Mh | apply Mt)) (q_ld_c4b32_0_36 (by assumption)) (q_len_c4b32 (by assumption))) rfl rfl rfl H9 ?_
  clear H9; intro a10 H10
  refine st_callg rfl z_call10 rfl rfl rfl rfl H10 (nwbid sb.1 wfs _) ?_
  clear H10; intro a11 wx11 H11
  refine plain (y_move rfl rfl) rfl rfl rfl H11 ?_
  clear H11; intro a12 H12
  refine plain (y_extract rfl rfl rfl) rfl rfl rfl H12 ?_
  clear H12; intro a13 H13
  refine plain (y_extract rfl rfl rfl) rfl rfl rfl H13 ?_
  clear H13; intro a14 H14
  refine plain (y_assign rfl rfl) rfl rfl rfl H14 ?_
  clear H14; intro a15 H15
  refine plain (y_assign rfl rfl) rfl rfl rfl H15 ?_
  clear H15; intro a16 H16
  refine fin ?_
  refine then_n ?_
  refine wp_seq ?_
  refine reg ?_
  refine plain (y_move rfl rfl) rfl rfl rfl H16 ?_
  clear H16; intro a17 H17
  refine st_callg rfl z_call26 rfl rfl rfl rfl H17 (nreadbid (Note.writeBid sb.1).1 (by have := Note.wbid_len (b := sb.1); omega)) ?_
  clear H17; intro a18 wx18 H18
  refine plain (y_move rfl rfl) rfl rfl rfl H18 ?_
  clear H18; intro a19 H19
  refine plain (y_extract rfl rfl rfl) rfl rfl rfl H19 ?_
  clear H19; intro a20 H20
  refine plain (y_extract rfl rfl rfl) rfl rfl rfl H20 ?_
  clear H20; intro a21 H21
  refine st_alloc rfl z_zeroN25 rfl rfl rfl H21 ?_
  clear H21; intro b22 a22 wx22 H22
  refine st_storeN rfl z_size25 rfl rfl (agg_cells _) (by repeat (first | exact Uh | apply Ut)) (q_one_c4b32 rfl rfl rfl rfl) (q_len_c4b32 (by assumption)) (q_len_c4b32 (by assumption)) (q_spl_c4b32_0_c4b32 (by assumption) (by assumption)) (by decide) rfl rfl H22 ?_
  clear H22; intro wx23 H23
  refine plain (y_assign rfl rfl) rfl rfl rfl H23 ?_
  clear H23; intro a24 H24
  refine fin ?_
  refine then_n ?_
  refine wp_seq ?_
  refine reg ?_
  refine plain (y_buildA rfl z_zeroN23 Tryd.underlying23 z_size5 rfl lay_n) rfl rfl rfl H24 ?_
  clear H24; intro a25 H25
  refine st_callg rfl z_call19 rfl rfl rfl rfl H25 (hlg (hG.frm H25.sep.frm (by simp))) ?_
  clear H25; intro a26 wx26 H26
  refine plain (y_move rfl rfl) rfl rfl rfl H26 ?_
  clear H26; intro a27 H27
  refine plain (y_extract rfl rfl rfl) rfl rfl rfl H27 ?_
  clear H27; intro a28 H28
  refine plain (y_extract rfl rfl rfl) rfl rfl rfl H28 ?_
  clear H28; intro a29 H29
  refine st_alloc rfl z_zeroN35 rfl rfl rfl H29 ?_
  clear H29; intro b30 a30 wx30 H30
  refine st_storeN rfl z_size35 rfl rfl (agg_cells _) (by repeat (first | exact Uh | apply Ut)) (q_one_c4b32b32 rfl rfl rfl rfl) (q_len_c4b32b32 (by assumption) (by assumption)) (q_len_c4b32b32 (by assumption) (by assumption)) (q_spl_c4b32b32_0_c4b32b32 (by assumption) (by assumption) (by assumption) (by assumption)) (by decide) rfl rfl H30 ?_
  clear H30; intro wx31 H31
  refine plain (y_assign rfl rfl) rfl rfl rfl H31 ?_
  clear H31; intro a32 H32
  refine fin ?_
  refine then_n ?_
  refine wp_seq ?_
  refine reg ?_
  refine plain (y_move rfl rfl) rfl rfl rfl H32 ?_
  clear H32; intro a33 H33
  refine plain (y_eql rfl rfl rfl) rfl rfl rfl H33 ?_
  clear H33; intro a34 H34
  refine plain (y_move rfl rfl) rfl rfl rfl H34 ?_
  clear H34; intro a35 H35
  have H37 := H35.know (d := 31) (v := .bool true) rfl (congrArg Value.bool (decide_eq_true (hs2)))
  clear H35
  refine plain (y_move rfl rfl) rfl rfl rfl H37 ?_
  clear H37; intro a38 H38
  refine plain (y_eql rfl rfl rfl) rfl rfl rfl H38 ?_
  clear H38; intro a39 H39
  refine plain (y_pick_t rfl rfl rfl) rfl rfl rfl H39 ?_
  clear H39; intro a40 H40
  refine plain (y_move rfl rfl) rfl rfl rfl H40 ?_
  clear H40; intro a41 H41
  have H43 := H41.know (d := 35) (v := .bool true) rfl (congrArg Value.bool (decide_eq_true (hsw)))
  clear H41
  refine plain (y_move rfl rfl) rfl rfl rfl H43 ?_
  clear H43; intro a44 H44
  refine plain (y_eql rfl rfl rfl) rfl rfl rfl H44 ?_
  clear H44; intro a45 H45
  refine plain (y_pick_t rfl rfl rfl) rfl rfl rfl H45 ?_
  clear H45; intro a46 H46
  refine plain (y_move rfl rfl) rfl rfl rfl H46 ?_
  clear H46; intro a47 H47
  have H49 := H47.know (d := 39) (v := .bool true) rfl (congrArg Value.bool (decide_eq_true (by rw [hsr])))
  clear H47
  refine plain (y_loadAB rfl z_agg25 z_size25 rfl (by repeat (first | exact Mh | apply Mt)) (q_ld_c4b32_0_36 (by assumption)) (q_len_c4b32 (by assumption))) rfl rfl rfl H49 ?_
  clear H49; intro a50 H50
  refine plain (y_loadAB rfl z_agg25 z_size25 rfl (by repeat (first | exact Mh | apply Mt)) (q_ld_c4b32_0_36 (by assumption)) (q_len_c4b32 (by assumption))) rfl rfl rfl H50 ?_
  clear H50; intro a51 H51
  refine plain (y_teql rfl (by kernel_rfl) rfl rfl (eqr_Bid sb.1 (Note.readBid (Note.writeBid sb.1).1).1 hsl hrl)) rfl rfl rfl H51 ?_
  clear H51; intro a52 H52
  refine plain (y_pick_t rfl rfl rfl) rfl rfl rfl H52 ?_
  clear H52; intro a53 H53
  refine plain (y_move rfl rfl) rfl rfl rfl H53 ?_
  clear H53; intro a54 H54
  have H56 := H54.know (d := 44) (v := .bool true) rfl (congrArg Value.bool (decide_eq_true (by rw [hsr])))
  clear H54
  refine plain (y_loadAB rfl z_agg25 z_size25 rfl (by repeat (first | exact Mh | apply Mt)) (q_ld_c4b32_0_36 (by assumption)) (q_len_c4b32 (by assumption))) rfl rfl rfl H56 ?_
  clear H56; intro a57 H57
  refine st_callg rfl z_call15 rfl rfl rfl rfl H57 (ncheck sb.1 wfs (hG.frm H57.sep.frm (by simp))) ?_
  clear H57; intro a58 wx58 H58
  refine plain (y_eql rfl rfl rfl) rfl rfl rfl H58 ?_
  clear H58; intro a59 H59
  refine plain (y_pick_t rfl rfl rfl) rfl rfl rfl H59 ?_
  clear H59; intro a60 H60
  refine plain (y_move rfl rfl) rfl rfl rfl H60 ?_
  clear H60; intro a61 H61
  have H63 := H61.know (d := 49) (v := .bool true) rfl (congrArg Value.bool (decide_eq_true (hsc)))
  clear H61
  refine plain (y_move rfl rfl) rfl rfl rfl H63 ?_
  clear H63; intro a64 H64
  refine plain (y_eql rfl rfl rfl) rfl rfl rfl H64 ?_
  clear H64; intro a65 H65
  refine plain (y_pick_t rfl rfl rfl) rfl rfl rfl H65 ?_
  clear H65; intro a66 H66
  refine plain (y_move rfl rfl) rfl rfl rfl H66 ?_
  clear H66; intro a67 H67
  have H69 := H67.know (d := 53) (v := .bool true) rfl (congrArg Value.bool (decide_eq_true (hl2)))
  clear H67
  refine plain (y_fieldB rfl z_field35_5 rfl (by first | (simp only [Nat.zero_add, Nat.add_zero, Nat.reduceAdd]; rfl) | rfl)) rfl rfl rfl H69 ?_
  clear H69; intro a70 H70
  refine plain (y_loadAB rfl z_agg23 z_size23 rfl (by repeat (first | exact Mh | apply Mt)) (q_ld_c4b32b32_36_32 (by assumption) (by assumption)) (q_len_b32 (by assumption))) rfl rfl rfl H70 ?_
  clear H70; intro a71 H71
  refine plain (y_buildA rfl z_zeroN23 Tryd.underlying23 z_size5 rfl lay_n) rfl rfl rfl H71 ?_
  clear H71; intro a72 H72
  refine plain (y_hneq rfl Tryd.eqGuardType23 Tryd.underlying23 Tryd.underlying5 z_size5 rfl rfl (by assumption) (by assumption)) rfl rfl rfl H72 ?_
  clear H72; intro a73 H73
  refine plain (y_pick_t rfl rfl rfl) rfl rfl rfl H73 ?_
  clear H73; intro a74 H74
  refine plain (y_assign rfl rfl) rfl rfl rfl H74 ?_
  clear H74; intro a75 H75
  refine fin ?_
  refine then_n ?_
  refine wp_ret ?_
  -- return 1
  refine ret1 rfl H75 rfl ?_
  exact ⟨_, [], rfl, ⟨congrArg Value.bool (decide_eq_true hln), rfl⟩, H75.sep.sub (List.nil_sublist _)⟩

end Go.Proofs.YtnnhnnhdoipbaaaDoor.N_Aw

set_option linter.unusedVariables false
set_option linter.unusedSimpArgs false
namespace Go.Proofs.YtnnhnnhdoipbaaaDoor.N_L1
open Go.Sx Go.RowKit Go.Proofs.YtnnhnnhdoipbaaaDoor.N_Block Go.Proofs.YtnnhnnhdoipbaaaDoor.N_Sum Go.Proofs.YtnnhnnhdoipbaaaDoor.N_Ref Go.Proofs.YtnnhnnhdoipbaaaDoor.N_RSum Go.Proofs.YtnnhnnhdoipbaaaDoor.N_Leaf Go.Proofs.YtnnhnnhdoipbaaaDoor.N_Num Go.Proofs.YtnnhnnhdoipbaaaDoor.N_Key Go.Proofs.YtnnhnnhdoipbaaaDoor.N_Ref Go.Proofs.YtnnhnnhdoipbaaaDoor.N_RSum Go.Proofs.YtnnhnnhdoipbaaaDoor.N_Tag Go.Proofs.YtnnhnnhdoipbaaaDoor.N_Read Go.Proofs.YtnnhnnhdoipbaaaDoor.N_Lay Go.Proofs.YtnnhnnhdoipbaaaDoor.N_Eq Go.Proofs.YtnnhnnhdoipbaaaDoor.N_Ref0 Go.Proofs.YtnnhnnhdoipbaaaDoor.N_Rec Go.Proofs.YtnnhnnhdoipbaaaDoor.N_RRec Go.Proofs.YtnnhnnhdoipbaaaDoor.N_Fields Go.Proofs.YtnnhnnhdoipbaaaDoor.N_RBid Go.Proofs.YtnnhnnhdoipbaaaDoor.N_Sign Go.Proofs.YtnnhnnhdoipbaaaDoor.N_Item Go.Proofs.YtnnhnnhdoipbaaaDoor.N_WBatch Go.Proofs.YtnnhnnhdoipbaaaDoor.N_RBatch Go.Proofs.YtnnhnnhdoipbaaaDoor.N_RefB Go.Proofs.YtnnhnnhdoipbaaaDoor.N_RefI Go.Proofs.YtnnhnnhdoipbaaaDoor.N_RefR Go.Proofs.YtnnhnnhdoipbaaaDoor.N_RWBatch Go.Proofs.YtnnhnnhdoipbaaaDoor.N_RRBatch Go.Proofs.YtnnhnnhdoipbaaaDoor.N_Aw

theorem z_agg25 : aggB Tryd.prog 25 = some true := by kernel_rfl
theorem z_size25 : sizeB Tryd.prog 25 = some 36 := by kernel_rfl
theorem q_ld_c4b32_0_36 {a0 a1 a2 a3 : Value} {t4 : List UInt8} (h4 : t4.length = 32) : ((a0 :: a1 :: a2 :: a3 :: t4.map u8).drop 0).take 36 = a0 :: a1 :: a2 :: a3 :: t4.map u8 := (ld_a (len_c (n := 35) (len_c (n := 34) (len_c (n := 33) (len_c (n := 32) (len_e (k := 32) h4))))))
theorem q_len_c4b32 {a0 a1 a2 a3 : Value} {t4 : List UInt8} (h4 : t4.length = 32) : (a0 :: a1 :: a2 :: a3 :: t4.map u8).length = 36 := (len_c (n := 35) (len_c (n := 34) (len_c (n := 33) (len_c (n := 32) (len_e (k := 32) h4)))))
theorem z_call10 : callB Tryd.prog 10 = true := by kernel_rfl
theorem z_call12 : callB Tryd.prog 12 = true := by kernel_rfl
theorem z_zeroN25 : zeroL Tryd.prog 25 = some ((.int .i64 0 :: (.int .i64 0 :: (.int .i64 0 :: (.int .i64 0 :: (List.replicate 32 (0 : UInt8)).map u8))))) := by kernel_rfl
theorem q_one_c4b32 {a0 a1 a2 a3 : Value} {t4 : List UInt8} (o0 : a0.oneCell' = true) (o1 : a1.oneCell' = true) (o2 : a2.oneCell' = true) (o3 : a3.oneCell' = true) : (a0 :: a1 :: a2 :: a3 :: t4.map u8).all (·.oneCell') = true := (one_c o0 (one_c o1 (one_c o2 (one_c o3 (one_u8 _)))))
theorem q_spl_c4b32_0_c4b32 {a0 a1 a2 a3 : Value} {t4 : List UInt8} {b0 b1 b2 b3 : Value} {s4 : List UInt8} (h4 : t4.length = 32) (g4 : s4.length = 32) : spl (a0 :: a1 :: a2 :: a3 :: t4.map u8) 0 (b0 :: b1 :: b2 :: b3 :: s4.map u8) = b0 :: b1 :: b2 :: b3 :: s4.map u8 := (spl_a (z := 36) (len_c (n := 35) (len_c (n := 34) (len_c (n := 33) (len_c (n := 32) (len_e (k := 32) h4))))) (len_c (n := 35) (len_c (n := 34) (len_c (n := 33) (len_c (n := 32) (len_e (k := 32) g4))))))
theorem z_call14 : callB Tryd.prog 14 = true := by kernel_rfl
theorem z_call15 : callB Tryd.prog 15 = true := by kernel_rfl
theorem z_agg35 : aggB Tryd.prog 35 = some true := by kernel_rfl
theorem z_size35 : sizeB Tryd.prog 35 = some 68 := by kernel_rfl
theorem q_ld_c4b32b32_0_68 {a0 a1 a2 a3 : Value} {t4 t5 : List UInt8} (h4 : t4.length = 32) (h5 : t5.length = 32) : ((a0 :: a1 :: a2 :: a3 :: (t4.map u8 ++ (t5.map u8))).drop 0).take 68 = a0 :: a1 :: a2 :: a3 :: (t4.map u8 ++ (t5.map u8)) := (ld_a (len_c (n := 67) (len_c (n := 66) (len_c (n := 65) (len_c (n := 64) (len_b (k := 32) (n := 32) h4 (len_e (k := 32) h5)))))))
theorem q_len_c4b32b32 {a0 a1 a2 a3 : Value} {t4 t5 : List UInt8} (h4 : t4.length = 32) (h5 : t5.length = 32) : (a0 :: a1 :: a2 :: a3 :: (t4.map u8 ++ (t5.map u8))).length = 68 := (len_c (n := 67) (len_c (n := 66) (len_c (n := 65) (len_c (n := 64) (len_b (k := 32) (n := 32) h4 (len_e (k := 32) h5))))))
theorem z_call17 : callB Tryd.prog 17 = true := by kernel_rfl
theorem z_call18 : callB Tryd.prog 18 = true := by kernel_rfl
theorem z_field35_4 : fieldB Tryd.prog 35 4 = some 4 := by kernel_rfl
theorem z_agg23 : aggB Tryd.prog 23 = some true := by kernel_rfl
theorem z_size23 : sizeB Tryd.prog 23 = some 32 := by kernel_rfl
theorem q_ld_c4b32b32_4_32 {a0 a1 a2 a3 : Value} {t4 t5 : List UInt8} (h4 : t4.length = 32) : ((a0 :: a1 :: a2 :: a3 :: (t4.map u8 ++ (t5.map u8))).drop 4).take 32 = t4.map u8 := (ld_c (o := 3) (ld_c (o := 2) (ld_c (o := 1) (ld_c (o := 0) (ld_h h4)))))
theorem q_len_b32 {t0 : List UInt8} (h0 : t0.length = 32) : (t0.map u8).length = 32 := (len_e (k := 32) h0)
theorem z_field35_0 : fieldB Tryd.prog 35 0 = some 0 := by kernel_rfl
theorem z_agg3 : aggB Tryd.prog 3 = some false := by kernel_rfl
theorem q_ix_c4b32b32_0 {a0 a1 a2 a3 : Value} {t4 t5 : List UInt8} : (a0 :: a1 :: a2 :: a3 :: (t4.map u8 ++ (t5.map u8)))[0]? = some a0 := ix_0
theorem z_field35_1 : fieldB Tryd.prog 35 1 = some 1 := by kernel_rfl
theorem q_ix_c4b32b32_1 {a0 a1 a2 a3 : Value} {t4 t5 : List UInt8} : (a0 :: a1 :: a2 :: a3 :: (t4.map u8 ++ (t5.map u8)))[1]? = some a1 := (ix_c (o := 0) ix_0)
theorem z_field35_2 : fieldB Tryd.prog 35 2 = some 2 := by kernel_rfl
theorem q_ix_c4b32b32_2 {a0 a1 a2 a3 : Value} {t4 t5 : List UInt8} : (a0 :: a1 :: a2 :: a3 :: (t4.map u8 ++ (t5.map u8)))[2]? = some a2 := (ix_c (o := 1) (ix_c (o := 0) ix_0))
theorem z_field35_3 : fieldB Tryd.prog 35 3 = some 3 := by kernel_rfl
theorem z_agg9 : aggB Tryd.prog 9 = some false := by kernel_rfl
theorem q_ix_c4b32b32_3 {a0 a1 a2 a3 : Value} {t4 t5 : List UInt8} : (a0 :: a1 :: a2 :: a3 :: (t4.map u8 ++ (t5.map u8)))[3]? = some a3 := (ix_c (o := 2) (ix_c (o := 1) (ix_c (o := 0) ix_0)))
theorem z_call19 : callB Tryd.prog 19 = true := by kernel_rfl
theorem z_zeroN35 : zeroL Tryd.prog 35 = some ((.int .i64 0 :: (.int .i64 0 :: (.int .i64 0 :: (.string ⟨#[]⟩ :: ((List.replicate 32 (0 : UInt8)).map u8 ++ (List.replicate 32 (0 : UInt8)).map u8)))))) := by kernel_rfl
theorem q_one_c4b32b32 {a0 a1 a2 a3 : Value} {t4 t5 : List UInt8} (o0 : a0.oneCell' = true) (o1 : a1.oneCell' = true) (o2 : a2.oneCell' = true) (o3 : a3.oneCell' = true) : (a0 :: a1 :: a2 :: a3 :: (t4.map u8 ++ (t5.map u8))).all (·.oneCell') = true := (one_c o0 (one_c o1 (one_c o2 (one_c o3 (one_b (one_u8 _))))))
theorem q_spl_c4b32b32_0_c4b32b32 {a0 a1 a2 a3 : Value} {t4 t5 : List UInt8} {b0 b1 b2 b3 : Value} {s4 s5 : List UInt8} (h4 : t4.length = 32) (h5 : t5.length = 32) (g4 : s4.length = 32) (g5 : s5.length = 32) : spl (a0 :: a1 :: a2 :: a3 :: (t4.map u8 ++ (t5.map u8))) 0 (b0 :: b1 :: b2 :: b3 :: (s4.map u8 ++ (s5.map u8))) = b0 :: b1 :: b2 :: b3 :: (s4.map u8 ++ (s5.map u8)) := (spl_a (z := 68) (len_c (n := 67) (len_c (n := 66) (len_c (n := 65) (len_c (n := 64) (len_b (k := 32) (n := 32) h4 (len_e (k := 32) h5)))))) (len_c (n := 67) (len_c (n := 66) (len_c (n := 65) (len_c (n := 64) (len_b (k := 32) (n := 32) g4 (len_e (k := 32) g5)))))))
theorem z_call20 : callB Tryd.prog 20 = true := by kernel_rfl
set_option maxRecDepth 100000 in
set_option maxHeartbeats 2000000 in
theorem notesReceipts (r : Note.Receipt) (wf : Note.Receipt.Wf r) {w : World} (hG : Glob 0 Sha.K w) : Calls Tryd.prog 4 #[.agg (Note.Receipt.cells r).toArray] w (Gives (.bool true) [] w) := by
  have lz32 : (List.replicate 32 (0 : UInt8)).length = 32 := List.length_replicate
  have lz0 := wf.prev
  have lz1 := wf.hash
  refine enterL (args := [.agg (Note.Receipt.cells r).toArray]) Tryd.func4 rfl rfl (l := []) (Sep.refl _) ?_
  intro a0 H0
  refine wp_seq ?_
  refine reg ?_
  refine st_box rfl rfl (agg_cells _) rfl rfl rfl H0 ?_
  clear H0; intro b1 a1 wx1 H1
  refine plain (y_assign rfl rfl) rfl rfl rfl H1 ?_
  clear H1; intro a2 H2
  refine fin ?_
  refine then_n ?_
  refine wp_seq ?_
  refine reg ?_
  refine plain (y_loadAB rfl z_agg35 z_size35 rfl (by repeat (first | exact Mh | apply Mt)) (q_ld_c4b32b32_0_68 (by first | assumption | exact Note.linkF_prev _ wf.prev | exact Note.linkF_hash _ _ _ _ _) (by first | assumption | exact Note.linkF_prev _ wf.prev | exact Note.linkF_hash _ _ _ _ _)) (q_len_c4b32b32 (by first | assumption | exact Note.linkF_prev _ wf.prev | exact Note.linkF_hash _ _ _ _ _) (by first | assumption | exact Note.linkF_prev _ wf.prev | exact Note.linkF_hash _ _ _ _ _))) rfl rfl rfl H2 ?_
  clear H2; intro a3 H3
  refine st_callg rfl z_call17 rfl rfl rfl rfl H3 (nwrec r wf (hG.frm H3.sep.frm (by simp))) ?_
  clear H3; intro a4 wx4 H4
  refine plain (y_move rfl rfl) rfl rfl rfl H4 ?_
  clear H4; intro a5 H5
  refine plain (y_extract rfl rfl rfl) rfl rfl rfl H5 ?_
  clear H5; intro a6 H6
  refine plain (y_extract rfl rfl rfl) rfl rfl rfl H6 ?_
  clear H6; intro a7 H7
  refine plain (y_assign rfl rfl) rfl rfl rfl H7 ?_
  clear H7; intro a8 H8
  refine plain (y_assign rfl rfl) rfl rfl rfl H8 ?_
  clear H8; intro a9 H9
  refine fin ?_
  refine then_n ?_
  refine wp_seq ?_
  refine reg ?_
  refine plain (y_loadAB rfl z_agg35 z_size35 rfl (by repeat (first | exact Mh | apply Mt)) (q_ld_c4b32b32_0_68 (by first | assumption | exact Note.linkF_prev _ wf.prev | exact Note.linkF_hash _ _ _ _ _) (by first | assumption | exact Note.linkF_prev _ wf.prev | exact Note.linkF_hash _ _ _ _ _)) (q_len_c4b32b32 (by first | assumption | exact Note.linkF_prev _ wf.prev | exact Note.linkF_hash _ _ _ _ _) (by first | assumption | exact Note.linkF_prev _ wf.prev | exact Note.linkF_hash _ _ _ _ _))) rfl rfl rfl H9 ?_
  clear H9; intro a10 H10
  refine st_callg rfl z_call18 rfl rfl rfl rfl H10 (rwrec r wf) ?_
  clear H10; intro a11 wx11 H11
  refine plain (y_move rfl rfl) rfl rfl rfl H11 ?_
  clear H11; intro a12 H12
  refine plain (y_extract rfl rfl rfl) rfl rfl rfl H12 ?_
  clear H12; intro a13 H13
  refine plain (y_extract rfl rfl rfl) rfl rfl rfl H13 ?_
  clear H13; intro a14 H14
  refine plain (y_assign rfl rfl) rfl rfl rfl H14 ?_
  clear H14; intro a15 H15
  refine plain (y_assign rfl rfl) rfl rfl rfl H15 ?_
  clear H15; intro a16 H16
  refine fin ?_
  refine then_n ?_
  refine wp_seq ?_
  refine reg ?_
  refine plain (y_fieldB rfl z_field35_4 rfl (by first | (simp only [Nat.zero_add, Nat.add_zero, Nat.reduceAdd]; rfl) | rfl)) rfl rfl rfl H16 ?_
  clear H16; intro a17 H17
  refine plain (y_loadAB rfl z_agg23 z_size23 rfl (by repeat (first | exact Mh | apply Mt)) (q_ld_c4b32b32_4_32 (by first | assumption | exact Note.linkF_prev _ wf.prev | exact Note.linkF_hash _ _ _ _ _)) (q_len_b32 (by first | assumption | exact Note.linkF_prev _ wf.prev | exact Note.linkF_hash _ _ _ _ _))) rfl rfl rfl H17 ?_
  clear H17; intro a18 H18
  refine plain (y_fieldB rfl z_field35_0 rfl (by first | (simp only [Nat.zero_add, Nat.add_zero, Nat.reduceAdd]; rfl) | rfl)) rfl rfl rfl H18 ?_
  clear H18; intro a19 H19
  refine plain (y_loadB rfl z_agg3 rfl (by repeat (first | exact Mh | apply Mt)) q_ix_c4b32b32_0) rfl rfl rfl H19 ?_
  clear H19; intro a20 H20
  refine plain (y_fieldB rfl z_field35_1 rfl (by first | (simp only [Nat.zero_add, Nat.add_zero, Nat.reduceAdd]; rfl) | rfl)) rfl rfl rfl H20 ?_
  clear H20; intro a21 H21
  refine plain (y_loadB rfl z_agg3 rfl (by repeat (first | exact Mh | apply Mt)) q_ix_c4b32b32_1) rfl rfl rfl H21 ?_
  clear H21; intro a22 H22
  refine plain (y_fieldB rfl z_field35_2 rfl (by first | (simp only [Nat.zero_add, Nat.add_zero, Nat.reduceAdd]; rfl) | rfl)) rfl rfl rfl H22 ?_
  clear H22; intro a23 H23
  refine plain (y_loadB rfl z_agg3 rfl (by repeat (first | exact Mh | apply Mt)) q_ix_c4b32b32_2) rfl rfl rfl H23 ?_
  clear H23; intro a24 H24
  refine plain (y_fieldB rfl z_field35_3 rfl (by first | (simp only [Nat.zero_add, Nat.add_zero, Nat.reduceAdd]; rfl) | rfl)) rfl rfl rfl H24 ?_
  clear H24; intro a25 H25
  refine plain (y_loadB rfl z_agg9 rfl (by repeat (first | exact Mh | apply Mt)) q_ix_c4b32b32_3) rfl rfl rfl H25 ?_
  clear H25; intro a26 H26
  refine st_callg rfl z_call19 rfl rfl rfl rfl H26 (nlinkF r.prev wf.prev r.index r.kind r.time wf.index wf.kind wf.time r.body wf.body (hG.frm H26.sep.frm (by simp))) ?_
  clear H26; intro a27 wx27 H27
  refine plain (y_move rfl rfl) rfl rfl rfl H27 ?_
  clear H27; intro a28 H28
  refine plain (y_extract rfl rfl rfl) rfl rfl rfl H28 ?_
  clear H28; intro a29 H29
  refine plain (y_extract rfl rfl rfl) rfl rfl rfl H29 ?_
  clear H29; intro a30 H30
  refine st_alloc rfl z_zeroN35 rfl rfl rfl H30 ?_
  clear H30; intro b31 a31 wx31 H31
  refine st_storeN rfl z_size35 rfl rfl (agg_cells _) (by repeat (first | exact Uh | apply Ut)) (q_one_c4b32b32 rfl rfl rfl rfl) (q_len_c4b32b32 (by first | assumption | exact Note.linkF_prev _ wf.prev | exact Note.linkF_hash _ _ _ _ _) (by first | assumption | exact Note.linkF_prev _ wf.prev | exact Note.linkF_hash _ _ _ _ _)) (q_len_c4b32b32 (by first | assumption | exact Note.linkF_prev _ wf.prev | exact Note.linkF_hash _ _ _ _ _) (by first | assumption | exact Note.linkF_prev _ wf.prev | exact Note.linkF_hash _ _ _ _ _)) (q_spl_c4b32b32_0_c4b32b32 (by first | assumption | exact Note.linkF_prev _ wf.prev | exact Note.linkF_hash _ _ _ _ _) (by first | assumption | exact Note.linkF_prev _ wf.prev | exact Note.linkF_hash _ _ _ _ _) (by first | assumption | exact Note.linkF_prev _ wf.prev | exact Note.linkF_hash _ _ _ _ _) (by first | assumption | exact Note.linkF_prev _ wf.prev | exact Note.linkF_hash _ _ _ _ _)) (by decide) rfl rfl H31 ?_
  clear H31; intro wx32 H32
  refine plain (y_assign rfl rfl) rfl rfl rfl H32 ?_
  clear H32; intro a33 H33
  refine fin ?_
  refine then_n ?_
  refine wp_seq ?_
  refine reg ?_
  refine plain (y_fieldB rfl z_field35_4 rfl (by first | (simp only [Nat.zero_add, Nat.add_zero, Nat.reduceAdd]; rfl) | rfl)) rfl rfl rfl H33 ?_
  clear H33; intro a34 H34
  refine plain (y_loadAB rfl z_agg23 z_size23 rfl (by repeat (first | exact Mh | apply Mt)) (q_ld_c4b32b32_4_32 (by first | assumption | exact Note.linkF_prev _ wf.prev | exact Note.linkF_hash _ _ _ _ _)) (q_len_b32 (by first | assumption | exact Note.linkF_prev _ wf.prev | exact Note.linkF_hash _ _ _ _ _))) rfl rfl rfl H34 ?_
  clear H34; intro a35 H35
  refine plain (y_fieldB rfl z_field35_0 rfl (by first | (simp only [Nat.zero_add, Nat.add_zero, Nat.reduceAdd]; rfl) | rfl)) rfl rfl rfl H35 ?_
  clear H35; intro a36 H36
  refine plain (y_loadB rfl z_agg3 rfl (by repeat (first | exact Mh | apply Mt)) q_ix_c4b32b32_0) rfl rfl rfl H36 ?_
  clear H36; intro a37 H37
  refine plain (y_fieldB rfl z_field35_1 rfl (by first | (simp only [Nat.zero_add, Nat.add_zero, Nat.reduceAdd]; rfl) | rfl)) rfl rfl rfl H37 ?_
  clear H37; intro a38 H38
  refine plain (y_loadB rfl z_agg3 rfl (by repeat (first | exact Mh | apply Mt)) q_ix_c4b32b32_1) rfl rfl rfl H38 ?_
  clear H38; intro a39 H39
  refine plain (y_fieldB rfl z_field35_2 rfl (by first | (simp only [Nat.zero_add, Nat.add_zero, Nat.reduceAdd]; rfl) | rfl)) rfl rfl rfl H39 ?_
  clear H39; intro a40 H40
  refine plain (y_loadB rfl z_agg3 rfl (by repeat (first | exact Mh | apply Mt)) q_ix_c4b32b32_2) rfl rfl rfl H40 ?_
  clear H40; intro a41 H41
  refine plain (y_fieldB rfl z_field35_3 rfl (by first | (simp only [Nat.zero_add, Nat.add_zero, Nat.reduceAdd]; rfl) | rfl)) rfl rfl rfl H41 ?_
  clear H41; intro a42 H42
  refine plain (y_loadB rfl z_agg9 rfl (by repeat (first | exact Mh | apply Mt)) q_ix_c4b32b32_3) rfl rfl rfl H42 ?_
  clear H42; intro a43 H43
  refine st_callg rfl z_call20 rfl rfl rfl rfl H43 (rlink r.prev wf.prev r.index r.kind r.time wf.index wf.kind wf.time r.body wf.body) ?_
  clear H43; intro a44 wx44 H44
  refine plain (y_move rfl rfl) rfl rfl rfl H44 ?_
  clear H44; intro a45 H45
  refine plain (y_extract rfl rfl rfl) rfl rfl rfl H45 ?_
  clear H45; intro a46 H46
  refine plain (y_extract rfl rfl rfl) rfl rfl rfl H46 ?_
  clear H46; intro a47 H47
  refine st_alloc rfl z_zeroN35 rfl rfl rfl H47 ?_
  clear H47; intro b48 a48 wx48 H48
  refine st_storeN rfl z_size35 rfl rfl (agg_cells _) (by repeat (first | exact Uh | apply Ut)) (q_one_c4b32b32 rfl rfl rfl rfl) (q_len_c4b32b32 (by first | assumption | exact Note.linkF_prev _ wf.prev | exact Note.linkF_hash _ _ _ _ _) (by first | assumption | exact Note.linkF_prev _ wf.prev | exact Note.linkF_hash _ _ _ _ _)) (q_len_c4b32b32 (by first | assumption | exact Note.linkF_prev _ wf.prev | exact Note.linkF_hash _ _ _ _ _) (by first | assumption | exact Note.linkF_prev _ wf.prev | exact Note.linkF_hash _ _ _ _ _)) (q_spl_c4b32b32_0_c4b32b32 (by first | assumption | exact Note.linkF_prev _ wf.prev | exact Note.linkF_hash _ _ _ _ _) (by first | assumption | exact Note.linkF_prev _ wf.prev | exact Note.linkF_hash _ _ _ _ _) (by first | assumption | exact Note.linkF_prev _ wf.prev | exact Note.linkF_hash _ _ _ _ _) (by first | assumption | exact Note.linkF_prev _ wf.prev | exact Note.linkF_hash _ _ _ _ _)) (by decide) rfl rfl H48 ?_
  clear H48; intro wx49 H49
  refine plain (y_assign rfl rfl) rfl rfl rfl H49 ?_
  clear H49; intro a50 H50
  refine fin ?_
  refine then_n ?_
  refine wp_seq ?_
  refine reg ?_
  refine st_callg rfl z_call14 rfl rfl rfl rfl H50 (awake5 (hG.frm H50.sep.frm (by simp))) ?_
  clear H50; intro a51 wx51 H51
  refine plain (y_move rfl rfl) rfl rfl rfl H51 ?_
  clear H51; intro a52 H52
  refine plain (y_move rfl rfl) rfl rfl rfl H52 ?_
  clear H52; intro a53 H53
  refine plain (y_move rfl rfl) rfl rfl rfl H53 ?_
  clear H53; intro a54 H54
  refine plain (y_seql rfl rfl rfl) rfl rfl rfl H54 ?_
  clear H54; intro a55 H55
  refine plain (y_pick_t rfl rfl rfl) rfl rfl rfl H55 ?_
  clear H55; intro a56 H56
  refine plain (y_move rfl rfl) rfl rfl rfl H56 ?_
  clear H56; intro a57 H57
  have H59 := H57.know (d := 55) (v := .bool true) rfl (congrArg Value.bool (decide_eq_true (rfl)))
  clear H57
  refine plain (y_move rfl rfl) rfl rfl rfl H59 ?_
  clear H59; intro a60 H60
  refine plain (y_move rfl rfl) rfl rfl rfl H60 ?_
  clear H60; intro a61 H61
  refine plain (y_eql rfl rfl rfl) rfl rfl rfl H61 ?_
  clear H61; intro a62 H62
  refine plain (y_pick_t rfl rfl rfl) rfl rfl rfl H62 ?_
  clear H62; intro a63 H63
  refine plain (y_move rfl rfl) rfl rfl rfl H63 ?_
  clear H63; intro a64 H64
  have H66 := H64.know (d := 60) (v := .bool true) rfl (congrArg Value.bool (decide_eq_true (rfl)))
  clear H64
  refine plain (y_loadAB rfl z_agg35 z_size35 rfl (by repeat (first | exact Mh | apply Mt)) (q_ld_c4b32b32_0_68 (by first | assumption | exact Note.linkF_prev _ wf.prev | exact Note.linkF_hash _ _ _ _ _) (by first | assumption | exact Note.linkF_prev _ wf.prev | exact Note.linkF_hash _ _ _ _ _)) (q_len_c4b32b32 (by first | assumption | exact Note.linkF_prev _ wf.prev | exact Note.linkF_hash _ _ _ _ _) (by first | assumption | exact Note.linkF_prev _ wf.prev | exact Note.linkF_hash _ _ _ _ _))) rfl rfl rfl H66 ?_
  clear H66; intro a67 H67
  refine plain (y_loadAB rfl z_agg35 z_size35 rfl (by repeat (first | exact Mh | apply Mt)) (q_ld_c4b32b32_0_68 (by first | assumption | exact Note.linkF_prev _ wf.prev | exact Note.linkF_hash _ _ _ _ _) (by first | assumption | exact Note.linkF_prev _ wf.prev | exact Note.linkF_hash _ _ _ _ _)) (q_len_c4b32b32 (by first | assumption | exact Note.linkF_prev _ wf.prev | exact Note.linkF_hash _ _ _ _ _) (by first | assumption | exact Note.linkF_prev _ wf.prev | exact Note.linkF_hash _ _ _ _ _))) rfl rfl rfl H67 ?_
  clear H67; intro a68 H68
  refine plain (y_teql rfl (by kernel_rfl) rfl rfl (eqr_Receipt (Note.link r.prev r.index r.kind r.time r.body).1 (Note.link r.prev r.index r.kind r.time r.body).1 (Note.linkF_prev _ wf.prev) (Note.linkF_prev _ wf.prev) (Note.linkF_hash _ _ _ _ _) (Note.linkF_hash _ _ _ _ _))) rfl rfl rfl H68 ?_
  clear H68; intro a69 H69
  refine plain (y_pick_t rfl rfl rfl) rfl rfl rfl H69 ?_
  clear H69; intro a70 H70
  refine plain (y_move rfl rfl) rfl rfl rfl H70 ?_
  clear H70; intro a71 H71
  have H73 := H71.know (d := 65) (v := .bool true) rfl (congrArg Value.bool (decide_eq_true (rfl)))
  clear H71
  refine plain (y_move rfl rfl) rfl rfl rfl H73 ?_
  clear H73; intro a74 H74
  refine plain (y_move rfl rfl) rfl rfl rfl H74 ?_
  clear H74; intro a75 H75
  refine plain (y_eql rfl rfl rfl) rfl rfl rfl H75 ?_
  clear H75; intro a76 H76
  refine plain (y_pick_t rfl rfl rfl) rfl rfl rfl H76 ?_
  clear H76; intro a77 H77
  refine plain (y_assign rfl rfl) rfl rfl rfl H77 ?_
  clear H77; intro a78 H78
  refine fin ?_
  refine then_n ?_
  refine wp_ret ?_
  -- return 1
  refine ret1 rfl H78 rfl ?_
  exact ⟨_, [], rfl, ⟨congrArg Value.bool (decide_eq_true rfl), rfl⟩, H78.sep.sub (List.nil_sublist _)⟩
end Go.Proofs.YtnnhnnhdoipbaaaDoor.N_L1

set_option linter.unusedVariables false
set_option linter.unusedSimpArgs false
namespace Go.Proofs.YtnnhnnhdoipbaaaDoor.N_Rd
open Go.Sx Go.RowKit

theorem rd_Receipt {H : Type} {enc : TypeId × Value → H} {W : World} {sp : Nat → Bool} {held : Bool} {cs : List Value} (h : Trw enc Tryd.prog W sp held 35 cs) : ∃ (x : Note.Receipt), cs = Note.Receipt.cells x ∧ Note.Receipt.Wf x := by
  have hp := h.pieces Tryd.underlying35 [1, 1, 1, 1, 32, 32] (by kernel_rfl)
  obtain ⟨v0, e0, w0⟩ := (h.field Tryd.underlying35 0 rfl (o := 0) rfl (T := 3) rfl (k := 1) (by kernel_rfl)).i64 Tryd.underlying3
  obtain ⟨v1, e1, w1⟩ := (h.field Tryd.underlying35 1 rfl (o := 1) rfl (T := 3) rfl (k := 1) (by kernel_rfl)).i64 Tryd.underlying3
  obtain ⟨v2, e2, w2⟩ := (h.field Tryd.underlying35 2 rfl (o := 2) rfl (T := 3) rfl (k := 1) (by kernel_rfl)).i64 Tryd.underlying3
  obtain ⟨v3, e3, w3⟩ := (h.field Tryd.underlying35 3 rfl (o := 3) rfl (T := 9) rfl (k := 1) (by kernel_rfl)).str Tryd.underlying9
  obtain ⟨v4, e4, w4⟩ := (h.field Tryd.underlying35 4 rfl (o := 4) rfl (T := 23) rfl (k := 32) (by kernel_rfl)).bytes Tryd.underlying23 Tryd.underlying5 (by kernel_rfl) (by kernel_rfl)
  obtain ⟨v5, e5, w5⟩ := (h.field Tryd.underlying35 5 rfl (o := 36) rfl (T := 23) rfl (k := 32) (by kernel_rfl)).bytes Tryd.underlying23 Tryd.underlying5 (by kernel_rfl) (by kernel_rfl)
  refine ⟨⟨v0, v1, v2, v3, v4, v5⟩, ?_, w0, w1, w2, w3, w4, w5⟩
  rw [hp]
  simp only [Sx.pieces, Nat.zero_add, Nat.reduceAdd, e0, e1, e2, e3, e4, e5]
  first | rfl | simp [Note.Receipt.cells]
end Go.Proofs.YtnnhnnhdoipbaaaDoor.N_Rd
