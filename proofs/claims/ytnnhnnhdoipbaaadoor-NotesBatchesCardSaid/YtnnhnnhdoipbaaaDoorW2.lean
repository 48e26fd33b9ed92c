/- Part of a proof about given Go functions: contracts of functions, or plain laws. -/
import Derived.Test.YtnnhnnhdoipbaaaDoorNoteV
import Derived.Test.YtnnhnnhdoipbaaaDoorSxI
import Derived.Test.YtnnhnnhdoipbaaaDoorProg
import Derived.Test.YtnnhnnhdoipbaaaDoorW1
import Derived.Test.YtnnhnnhdoipbaaaDoorNoteW
import Derived.Test.YtnnhnnhdoipbaaaDoorSxTx
set_option linter.unusedVariables false
set_option linter.unusedSimpArgs false
namespace Go.Proofs.YtnnhnnhdoipbaaaDoor.N_Eq
open Go.Sx Go.RowKit

theorem z_agg23 : aggB Tryd.prog 23 = some true := by kernel_rfl
theorem z_size23 : sizeB Tryd.prog 23 = some 32 := by kernel_rfl
theorem q_len_c4b32 {a0 a1 a2 a3 : Value} {t4 : List UInt8} (h4 : t4.length = 32) : (a0 :: a1 :: a2 :: a3 :: t4.map u8).length = 36 := (len_c (n := 35) (len_c (n := 34) (len_c (n := 33) (len_c (n := 32) (len_e (k := 32) h4)))))
theorem q_ld_c4b32_4_32 {a0 a1 a2 a3 : Value} {t4 : List UInt8} (h4 : t4.length = 32) : ((a0 :: a1 :: a2 :: a3 :: t4.map u8).drop 4).take 32 = t4.map u8 := (ld_c (o := 3) (ld_c (o := 2) (ld_c (o := 1) (ld_c (o := 0) (ld_a (len_e (k := 32) h4))))))
theorem z_size5 : sizeB Tryd.prog 5 = some 1 := by kernel_rfl
theorem z_agg3 : aggB Tryd.prog 3 = some false := by kernel_rfl
theorem q_ix_c4b32_3 {a0 a1 a2 a3 : Value} {t4 : List UInt8} : (a0 :: a1 :: a2 :: a3 :: t4.map u8)[3]? = some a3 := (ix_c (o := 2) (ix_c (o := 1) (ix_c (o := 0) ix_0)))
theorem q_ix_c4b32_2 {a0 a1 a2 a3 : Value} {t4 : List UInt8} : (a0 :: a1 :: a2 :: a3 :: t4.map u8)[2]? = some a2 := (ix_c (o := 1) (ix_c (o := 0) ix_0))
theorem q_ix_c4b32_1 {a0 a1 a2 a3 : Value} {t4 : List UInt8} : (a0 :: a1 :: a2 :: a3 :: t4.map u8)[1]? = some a1 := (ix_c (o := 0) ix_0)
theorem q_ix_c4b32_0 {a0 a1 a2 a3 : Value} {t4 : List UInt8} : (a0 :: a1 :: a2 :: a3 :: t4.map u8)[0]? = some a0 := ix_0
theorem q_len_c4b32b32 {a0 a1 a2 a3 : Value} {t4 t5 : List UInt8} (h4 : t4.length = 32) (h5 : t5.length = 32) : (a0 :: a1 :: a2 :: a3 :: (t4.map u8 ++ (t5.map u8))).length = 68 := (len_c (n := 67) (len_c (n := 66) (len_c (n := 65) (len_c (n := 64) (len_b (k := 32) (n := 32) h4 (len_e (k := 32) h5))))))
theorem q_ld_c4b32b32_36_32 {a0 a1 a2 a3 : Value} {t4 t5 : List UInt8} (h4 : t4.length = 32) (h5 : t5.length = 32) : ((a0 :: a1 :: a2 :: a3 :: (t4.map u8 ++ (t5.map u8))).drop 36).take 32 = t5.map u8 := (ld_c (o := 35) (ld_c (o := 34) (ld_c (o := 33) (ld_c (o := 32) (ld_b (k := 32) (o := 0) h4 rfl (ld_a (len_e (k := 32) h5)))))))
theorem q_ld_c4b32b32_4_32 {a0 a1 a2 a3 : Value} {t4 t5 : List UInt8} (h4 : t4.length = 32) : ((a0 :: a1 :: a2 :: a3 :: (t4.map u8 ++ (t5.map u8))).drop 4).take 32 = t4.map u8 := (ld_c (o := 3) (ld_c (o := 2) (ld_c (o := 1) (ld_c (o := 0) (ld_h h4)))))
theorem z_agg9 : aggB Tryd.prog 9 = some false := by kernel_rfl
theorem q_ix_c4b32b32_3 {a0 a1 a2 a3 : Value} {t4 t5 : List UInt8} : (a0 :: a1 :: a2 :: a3 :: (t4.map u8 ++ (t5.map u8)))[3]? = some a3 := (ix_c (o := 2) (ix_c (o := 1) (ix_c (o := 0) ix_0)))
theorem q_ix_c4b32b32_2 {a0 a1 a2 a3 : Value} {t4 t5 : List UInt8} : (a0 :: a1 :: a2 :: a3 :: (t4.map u8 ++ (t5.map u8)))[2]? = some a2 := (ix_c (o := 1) (ix_c (o := 0) ix_0))
theorem q_ix_c4b32b32_1 {a0 a1 a2 a3 : Value} {t4 t5 : List UInt8} : (a0 :: a1 :: a2 :: a3 :: (t4.map u8 ++ (t5.map u8)))[1]? = some a1 := (ix_c (o := 0) ix_0)
theorem q_ix_c4b32b32_0 {a0 a1 a2 a3 : Value} {t4 t5 : List UInt8} : (a0 :: a1 :: a2 :: a3 :: (t4.map u8 ++ (t5.map u8)))[0]? = some a0 := ix_0
theorem q_ix_c4_3 {a0 a1 a2 a3 : Value} : (a0 :: a1 :: a2 :: a3 :: [])[3]? = some a3 := (ix_c (o := 2) (ix_c (o := 1) (ix_c (o := 0) ix_0)))
theorem q_ix_c4_2 {a0 a1 a2 a3 : Value} : (a0 :: a1 :: a2 :: a3 :: [])[2]? = some a2 := (ix_c (o := 1) (ix_c (o := 0) ix_0))
theorem q_ix_c4_1 {a0 a1 a2 a3 : Value} : (a0 :: a1 :: a2 :: a3 :: [])[1]? = some a1 := (ix_c (o := 0) ix_0)
theorem q_ix_c4_0 {a0 a1 a2 a3 : Value} : (a0 :: a1 :: a2 :: a3 :: [])[0]? = some a0 := ix_0
theorem q_ix_c2_1 {a0 a1 : Value} : (a0 :: a1 :: [])[1]? = some a1 := (ix_c (o := 0) ix_0)
theorem z_agg4 : aggB Tryd.prog 4 = some false := by kernel_rfl
theorem q_ix_c2_0 {a0 a1 : Value} : (a0 :: a1 :: [])[0]? = some a0 := ix_0
theorem eqr_Bid (x y : Note.Bid) (hx_tag : x.tag.length = 32) (hy_tag : y.tag.length = 32) : EqR Tryd.prog 10000 25 (.agg (Note.Bid.cells x).toArray) (.agg (Note.Bid.cells y).toArray) (decide (x = y)) := by
  have h : EqR Tryd.prog 10000 25 (.agg (Note.Bid.cells x).toArray) (.agg (Note.Bid.cells y).toArray) (decide (x.round = y.round) && (decide (x.who = y.who) && (decide (x.amount = y.amount) && (decide (x.salt = y.salt) && (decide (x.tag = y.tag) && true))))) := eqr_struct Tryd.underlying25 (by kernel_rfl) (eqf_c (by decide) (pa_1 z_agg3 q_ix_c4b32_0) (pa_1 z_agg3 q_ix_c4b32_0) (eqr_int Tryd.underlying3) (eqf_c (by decide) (pa_1 z_agg3 q_ix_c4b32_1) (pa_1 z_agg3 q_ix_c4b32_1) (eqr_int Tryd.underlying3) (eqf_c (by decide) (pa_1 z_agg3 q_ix_c4b32_2) (pa_1 z_agg3 q_ix_c4b32_2) (eqr_int Tryd.underlying3) (eqf_c (by decide) (pa_1 z_agg3 q_ix_c4b32_3) (pa_1 z_agg3 q_ix_c4b32_3) (eqr_int Tryd.underlying3) (eqf_c (by decide) (pa_a z_agg23 z_size23 (q_len_c4b32 (by assumption)) (by decide) (q_ld_c4b32_4_32 (by assumption))) (pa_a z_agg23 z_size23 (q_len_c4b32 (by assumption)) (by decide) (q_ld_c4b32_4_32 (by assumption))) (eqr_bytes Tryd.underlying23 Tryd.underlying5 z_size5 hx_tag hy_tag) eqf_n)))))
  have e : decide (x = y) = (decide (x.round = y.round) && (decide (x.who = y.who) && (decide (x.amount = y.amount) && (decide (x.salt = y.salt) && (decide (x.tag = y.tag) && true))))) := by
    rw [Bool.eq_iff_iff]
    cases x
    cases y
    simp
  rw [e]
  exact h
end Go.Proofs.YtnnhnnhdoipbaaaDoor.N_Eq

set_option linter.unusedVariables false
set_option linter.unusedSimpArgs false
namespace Go.Proofs.YtnnhnnhdoipbaaaDoor.N_Ref0
open Go.Sx Go.RowKit Go.Proofs.YtnnhnnhdoipbaaaDoor.N_Num Go.Proofs.YtnnhnnhdoipbaaaDoor.N_Read Go.Proofs.YtnnhnnhdoipbaaaDoor.N_Lay

theorem z_call58 : callB Tryd.prog 58 = true := by kernel_rfl
theorem z_zeroN23 : zeroL Tryd.prog 23 = some ((List.replicate 32 (0 : UInt8)).map u8) := by kernel_rfl
theorem z_size5 : sizeB Tryd.prog 5 = some 1 := by kernel_rfl
theorem z_size23 : sizeB Tryd.prog 23 = some 32 := by kernel_rfl
theorem q_one_b32 {t0 : List UInt8} : (t0.map u8).all (·.oneCell') = true := (one_u8 _)
theorem q_len_b32 {t0 : List UInt8} (h0 : t0.length = 32) : (t0.map u8).length = 32 := (len_e (k := 32) h0)
theorem q_spl_b32_0_b32 {t0 : List UInt8} {s0 : List UInt8} (h0 : t0.length = 32) (g0 : s0.length = 32) : spl (t0.map u8) 0 (s0.map u8) = s0.map u8 := (spl_a (z := 32) (len_e (k := 32) h0) (len_e (k := 32) g0))
theorem z_agg23 : aggB Tryd.prog 23 = some true := by kernel_rfl
theorem z_size9 : sizeB Tryd.prog 9 = some 1 := by kernel_rfl
theorem z_agg9 : aggB Tryd.prog 9 = some false := by kernel_rfl
theorem z_size3 : sizeB Tryd.prog 3 = some 1 := by kernel_rfl
theorem z_zero3 : zeroL Tryd.prog 3 = some ([.int .i64 0]) := by kernel_rfl
set_option maxRecDepth 100000 in
set_option maxHeartbeats 1000000 in
theorem rwithin (n k : Int) (w : World) : Calls Tryd.prog 45 #[.int .i64 n, .int .i64 k] w (Gives (.bool (decide (0 ≤ n ∧ n ≤ k))) [] w) := by
  have lz32 : (List.replicate 32 (0 : UInt8)).length = 32 := List.length_replicate
  refine enterL (args := [.int .i64 n, .int .i64 k]) Tryd.func45 rfl rfl (l := []) (Sep.refl _) ?_
  intro a0 H0
  refine wp_seq ?_
  refine reg ?_
  refine plain (y_assign rfl rfl) rfl rfl rfl H0 ?_
  clear H0; intro a1 H1
  refine fin ?_
  refine then_n ?_
  refine wp_seq ?_
  refine reg ?_
  refine plain (y_move rfl rfl) rfl rfl rfl H1 ?_
  clear H1; intro a2 H2
  refine plain (y_geq rfl rfl rfl) rfl rfl rfl H2 ?_
  clear H2; intro a3 H3
  refine plain (y_move rfl rfl) rfl rfl rfl H3 ?_
  clear H3; intro a4 H4
  refine Sx.part (d := 7) H4 rfl (fun hg5 => ?_) (fun hg5 => ?_)
  · first
    | fail
    | skip
      clear H4; intro H6
      try simp only [decide_eq_true_eq, decide_eq_false_iff_not, Bool.not_eq_true', Bool.not_eq_false', Bool.and_eq_true, Bool.not_eq_true, Bool.not_eq_false] at hg5
      refine plain (y_move rfl rfl) rfl rfl rfl H6 ?_
      clear H6; intro a7 H7
      refine plain (y_move rfl rfl) rfl rfl rfl H7 ?_
      clear H7; intro a8 H8
      refine plain (y_leq rfl rfl rfl) rfl rfl rfl H8 ?_
      clear H8; intro a9 H9
      refine plain (y_pick_t rfl rfl rfl) rfl rfl rfl H9 ?_
      clear H9; intro a10 H10
      refine plain (y_assign rfl rfl) rfl rfl rfl H10 ?_
      clear H10; intro a11 H11
      refine fin ?_
      refine then_n ?_
      refine wp_ret ?_
      -- return 1
      refine ret1 rfl H11 rfl ?_
      refine ⟨_, [], rfl, ⟨?_, rfl⟩, H11.sep.sub (List.nil_sublist _)⟩
      clear H11
      first | exact congrArg Value.bool (decide_eq_decide.2 (by omega)) | exact congrArg Value.bool (decide_eq_false (by omega)).symm
  · first
    | fail
    | skip
      clear H4; intro H12
      try simp only [decide_eq_true_eq, decide_eq_false_iff_not, Bool.not_eq_true', Bool.not_eq_false', Bool.and_eq_true, Bool.not_eq_true, Bool.not_eq_false] at hg5
      refine skip rfl rfl rfl H12 ?_
      clear H12; intro a13 H13
      refine skip rfl rfl rfl H13 ?_
      clear H13; intro a14 H14
      refine skip rfl rfl rfl H14 ?_
      clear H14; intro a15 H15
      refine plain (y_pick_f rfl rfl rfl) rfl rfl rfl H15 ?_
      clear H15; intro a16 H16
      refine plain (y_assign rfl rfl) rfl rfl rfl H16 ?_
      clear H16; intro a17 H17
      refine fin ?_
      refine then_n ?_
      refine wp_ret ?_
      -- return 2
      refine ret1 rfl H17 rfl ?_
      refine ⟨_, [], rfl, ⟨?_, rfl⟩, H17.sep.sub (List.nil_sublist _)⟩
      clear H17
      first | exact congrArg Value.bool (decide_eq_decide.2 (by omega)) | exact congrArg Value.bool (decide_eq_false (by omega)).symm
set_option maxRecDepth 100000 in
set_option maxHeartbeats 1000000 in
theorem rtext (n : Int) (hn : n ≤ 9223372036854775807) (w : World) : Calls Tryd.prog 39 #[.int .i64 n] w (Gives (str (Note.num n)) [] w) := by
  have lz32 : (List.replicate 32 (0 : UInt8)).length = 32 := List.length_replicate
  refine enterL (args := [.int .i64 n]) Tryd.func39 rfl rfl (l := []) (Sep.refl _) ?_
  intro a0 H0
  refine wp_seq ?_
  refine reg ?_
  refine plain (y_assign rfl rfl) rfl rfl rfl H0 ?_
  clear H0; intro a1 H1
  refine fin ?_
  refine then_n ?_
  refine wp_seq ?_
  refine reg ?_
  refine plain (y_move rfl rfl) rfl rfl rfl H1 ?_
  clear H1; intro a2 H2
  refine st_callg rfl z_call58 rfl rfl rfl rfl H2 (numR n hn _) ?_
  clear H2; intro a3 wx3 H3
  refine plain (y_move rfl rfl) rfl rfl rfl H3 ?_
  clear H3; intro a4 H4
  refine plain (y_extract rfl rfl rfl) rfl rfl rfl H4 ?_
  clear H4; intro a5 H5
  refine plain (y_extract rfl rfl rfl) rfl rfl rfl H5 ?_
  clear H5; intro a6 H6
  refine plain (y_assign rfl rfl) rfl rfl rfl H6 ?_
  clear H6; intro a7 H7
  refine plain (y_assign rfl rfl) rfl rfl rfl H7 ?_
  clear H7; intro a8 H8
  refine fin ?_
  refine then_n ?_
  refine wp_seq ?_
  refine reg ?_
  refine plain (y_move rfl rfl) rfl rfl rfl H8 ?_
  clear H8; intro a9 H9
  refine plain (y_assign rfl rfl) rfl rfl rfl H9 ?_
  clear H9; intro a10 H10
  refine fin ?_
  refine then_n ?_
  refine wp_ret ?_
  -- return 1
  refine ret1 rfl H10 rfl ?_
  exact ⟨_, [], rfl, ⟨rfl, rfl⟩, H10.sep.sub (List.nil_sublist _)⟩
end Go.Proofs.YtnnhnnhdoipbaaaDoor.N_Ref0

set_option linter.unusedVariables false
set_option linter.unusedSimpArgs false
namespace Go.Proofs.YtnnhnnhdoipbaaaDoor.N_Rec
open Go.Sx Go.RowKit Go.Proofs.YtnnhnnhdoipbaaaDoor.N_Block Go.Proofs.YtnnhnnhdoipbaaaDoor.N_Sum Go.Proofs.YtnnhnnhdoipbaaaDoor.N_Ref Go.Proofs.YtnnhnnhdoipbaaaDoor.N_RSum Go.Proofs.YtnnhnnhdoipbaaaDoor.N_Leaf Go.Proofs.YtnnhnnhdoipbaaaDoor.N_Num Go.Proofs.YtnnhnnhdoipbaaaDoor.N_Key Go.Proofs.YtnnhnnhdoipbaaaDoor.N_Lay

theorem z_field35_0 : fieldB Tryd.prog 35 0 = some 0 := by kernel_rfl
theorem z_agg3 : aggB Tryd.prog 3 = some false := by kernel_rfl
theorem q_ix_c4b32b32_0 {a0 a1 a2 a3 : Value} {t4 t5 : List UInt8} : (a0 :: a1 :: a2 :: a3 :: (t4.map u8 ++ (t5.map u8)))[0]? = some a0 := ix_0
theorem z_field35_2 : fieldB Tryd.prog 35 2 = some 2 := by kernel_rfl
theorem q_ix_c4b32b32_2 {a0 a1 a2 a3 : Value} {t4 t5 : List UInt8} : (a0 :: a1 :: a2 :: a3 :: (t4.map u8 ++ (t5.map u8)))[2]? = some a2 := (ix_c (o := 1) (ix_c (o := 0) ix_0))
theorem z_size3 : sizeB Tryd.prog 3 = some 1 := by kernel_rfl
theorem z_zero3 : zeroL Tryd.prog 3 = some ([.int .i64 0]) := by kernel_rfl
theorem z_call47 : callB Tryd.prog 47 = true := by kernel_rfl
theorem z_field35_1 : fieldB Tryd.prog 35 1 = some 1 := by kernel_rfl
theorem q_ix_c4b32b32_1 {a0 a1 a2 a3 : Value} {t4 t5 : List UInt8} : (a0 :: a1 :: a2 :: a3 :: (t4.map u8 ++ (t5.map u8)))[1]? = some a1 := (ix_c (o := 0) ix_0)
theorem z_field35_3 : fieldB Tryd.prog 35 3 = some 3 := by kernel_rfl
theorem z_agg9 : aggB Tryd.prog 9 = some false := by kernel_rfl
theorem q_ix_c4b32b32_3 {a0 a1 a2 a3 : Value} {t4 t5 : List UInt8} : (a0 :: a1 :: a2 :: a3 :: (t4.map u8 ++ (t5.map u8)))[3]? = some a3 := (ix_c (o := 2) (ix_c (o := 1) (ix_c (o := 0) ix_0)))
theorem z_zeroN23 : zeroL Tryd.prog 23 = some ((List.replicate 32 (0 : UInt8)).map u8) := by kernel_rfl
theorem z_call36 : callB Tryd.prog 36 = true := by kernel_rfl
theorem z_size9 : sizeB Tryd.prog 9 = some 1 := by kernel_rfl
theorem z_zero9 : zeroL Tryd.prog 9 = some ([.string ⟨#[]⟩]) := by kernel_rfl
theorem z_slice49 : sliceB Tryd.prog 49 = some (9, 1, 16) := by kernel_rfl
theorem z_notint49 : notIntB Tryd.prog 49 = true := by kernel_rfl
theorem z_call35 : callB Tryd.prog 35 = true := by kernel_rfl
theorem z_field35_4 : fieldB Tryd.prog 35 4 = some 4 := by kernel_rfl
theorem z_agg23 : aggB Tryd.prog 23 = some true := by kernel_rfl
theorem z_size23 : sizeB Tryd.prog 23 = some 32 := by kernel_rfl
theorem q_ld_c4b32b32_4_32 {a0 a1 a2 a3 : Value} {t4 t5 : List UInt8} (h4 : t4.length = 32) : ((a0 :: a1 :: a2 :: a3 :: (t4.map u8 ++ (t5.map u8))).drop 4).take 32 = t4.map u8 := (ld_c (o := 3) (ld_c (o := 2) (ld_c (o := 1) (ld_c (o := 0) (ld_h h4)))))
theorem q_len_b32 {t0 : List UInt8} (h0 : t0.length = 32) : (t0.map u8).length = 32 := (len_e (k := 32) h0)
theorem z_call62 : callB Tryd.prog 62 = true := by kernel_rfl
theorem q_one_b32 {t0 : List UInt8} : (t0.map u8).all (·.oneCell') = true := (one_u8 _)
theorem q_spl_b32_0_b32 {t0 : List UInt8} {s0 : List UInt8} (h0 : t0.length = 32) (g0 : s0.length = 32) : spl (t0.map u8) 0 (s0.map u8) = s0.map u8 := (spl_a (z := 32) (len_e (k := 32) h0) (len_e (k := 32) g0))
theorem z_zeroN35 : zeroL Tryd.prog 35 = some ((.int .i64 0 :: (.int .i64 0 :: (.int .i64 0 :: (.string ⟨#[]⟩ :: ((List.replicate 32 (0 : UInt8)).map u8 ++ (List.replicate 32 (0 : UInt8)).map u8)))))) := by kernel_rfl
theorem q_ld_b32_0_32 {t0 : List UInt8} (h0 : t0.length = 32) : ((t0.map u8).drop 0).take 32 = t0.map u8 := (ld_a (len_e (k := 32) h0))
theorem z_places35 : placesB Tryd.prog 35 = some [(0, 1), (1, 1), (2, 1), (3, 1), (4, 32), (36, 32)] := by kernel_rfl
theorem q_len_c4b32b32 {a0 a1 a2 a3 : Value} {t4 t5 : List UInt8} (h4 : t4.length = 32) (h5 : t5.length = 32) : (a0 :: a1 :: a2 :: a3 :: (t4.map u8 ++ (t5.map u8))).length = 68 := (len_c (n := 67) (len_c (n := 66) (len_c (n := 65) (len_c (n := 64) (len_b (k := 32) (n := 32) h4 (len_e (k := 32) h5))))))
theorem q_spl_c4b32b32_0_c1 {a0 a1 a2 a3 : Value} {t4 t5 : List UInt8} {b0 : Value} : spl (a0 :: a1 :: a2 :: a3 :: (t4.map u8 ++ (t5.map u8))) 0 (b0 :: []) = b0 :: a1 :: a2 :: a3 :: (t4.map u8 ++ (t5.map u8)) := spl_0
theorem q_spl_c4b32b32_1_c1 {a0 a1 a2 a3 : Value} {t4 t5 : List UInt8} {b0 : Value} : spl (a0 :: a1 :: a2 :: a3 :: (t4.map u8 ++ (t5.map u8))) 1 (b0 :: []) = a0 :: b0 :: a2 :: a3 :: (t4.map u8 ++ (t5.map u8)) := (spl_c (o := 0) spl_0)
theorem q_spl_c4b32b32_2_c1 {a0 a1 a2 a3 : Value} {t4 t5 : List UInt8} {b0 : Value} : spl (a0 :: a1 :: a2 :: a3 :: (t4.map u8 ++ (t5.map u8))) 2 (b0 :: []) = a0 :: a1 :: b0 :: a3 :: (t4.map u8 ++ (t5.map u8)) := (spl_c (o := 1) (spl_c (o := 0) spl_0))
theorem q_spl_c4b32b32_3_c1 {a0 a1 a2 a3 : Value} {t4 t5 : List UInt8} {b0 : Value} : spl (a0 :: a1 :: a2 :: a3 :: (t4.map u8 ++ (t5.map u8))) 3 (b0 :: []) = a0 :: a1 :: a2 :: b0 :: (t4.map u8 ++ (t5.map u8)) := (spl_c (o := 2) (spl_c (o := 1) (spl_c (o := 0) spl_0)))
theorem q_spl_c4b32b32_4_b32 {a0 a1 a2 a3 : Value} {t4 t5 : List UInt8} {s0 : List UInt8} (h4 : t4.length = 32) (g0 : s0.length = 32) : spl (a0 :: a1 :: a2 :: a3 :: (t4.map u8 ++ (t5.map u8))) 4 (s0.map u8) = a0 :: a1 :: a2 :: a3 :: (s0.map u8 ++ (t5.map u8)) := (spl_c (o := 3) (spl_c (o := 2) (spl_c (o := 1) (spl_c (o := 0) (spl_h (z := 32) (len_e h4) (len_e g0))))))
theorem z_size35 : sizeB Tryd.prog 35 = some 68 := by kernel_rfl
theorem q_one_c4b32b32 {a0 a1 a2 a3 : Value} {t4 t5 : List UInt8} (o0 : a0.oneCell' = true) (o1 : a1.oneCell' = true) (o2 : a2.oneCell' = true) (o3 : a3.oneCell' = true) : (a0 :: a1 :: a2 :: a3 :: (t4.map u8 ++ (t5.map u8))).all (·.oneCell') = true := (one_c o0 (one_c o1 (one_c o2 (one_c o3 (one_b (one_u8 _))))))
theorem q_spl_c4b32b32_0_c4b32b32 {a0 a1 a2 a3 : Value} {t4 t5 : List UInt8} {b0 b1 b2 b3 : Value} {s4 s5 : List UInt8} (h4 : t4.length = 32) (h5 : t5.length = 32) (g4 : s4.length = 32) (g5 : s5.length = 32) : spl (a0 :: a1 :: a2 :: a3 :: (t4.map u8 ++ (t5.map u8))) 0 (b0 :: b1 :: b2 :: b3 :: (s4.map u8 ++ (s5.map u8))) = b0 :: b1 :: b2 :: b3 :: (s4.map u8 ++ (s5.map u8)) := (spl_a (z := 68) (len_c (n := 67) (len_c (n := 66) (len_c (n := 65) (len_c (n := 64) (len_b (k := 32) (n := 32) h4 (len_e (k := 32) h5)))))) (len_c (n := 67) (len_c (n := 66) (len_c (n := 65) (len_c (n := 64) (len_b (k := 32) (n := 32) g4 (len_e (k := 32) g5)))))))
theorem z_agg35 : aggB Tryd.prog 35 = some true := by kernel_rfl
theorem q_ld_c4b32b32_0_68 {a0 a1 a2 a3 : Value} {t4 t5 : List UInt8} (h4 : t4.length = 32) (h5 : t5.length = 32) : ((a0 :: a1 :: a2 :: a3 :: (t4.map u8 ++ (t5.map u8))).drop 0).take 68 = a0 :: a1 :: a2 :: a3 :: (t4.map u8 ++ (t5.map u8)) := (ld_a (len_c (n := 67) (len_c (n := 66) (len_c (n := 65) (len_c (n := 64) (len_b (k := 32) (n := 32) h4 (len_e (k := 32) h5)))))))
theorem z_call43 : callB Tryd.prog 43 = true := by kernel_rfl
theorem z_call44 : callB Tryd.prog 44 = true := by kernel_rfl
theorem z_field35_5 : fieldB Tryd.prog 35 5 = some 36 := by kernel_rfl
theorem q_spl_c4b32b32_36_b32 {a0 a1 a2 a3 : Value} {t4 t5 : List UInt8} {s0 : List UInt8} (h4 : t4.length = 32) (h5 : t5.length = 32) (g0 : s0.length = 32) : spl (a0 :: a1 :: a2 :: a3 :: (t4.map u8 ++ (t5.map u8))) 36 (s0.map u8) = a0 :: a1 :: a2 :: a3 :: (t4.map u8 ++ (s0.map u8)) := (spl_c (o := 35) (spl_c (o := 34) (spl_c (o := 33) (spl_c (o := 32) (spl_b (k := 32) (o := 0) h4 rfl (spl_a (z := 32) (len_e (k := 32) h5) (len_e (k := 32) g0)))))))
theorem q_ld_c4b32b32_36_32 {a0 a1 a2 a3 : Value} {t4 t5 : List UInt8} (h4 : t4.length = 32) (h5 : t5.length = 32) : ((a0 :: a1 :: a2 :: a3 :: (t4.map u8 ++ (t5.map u8))).drop 36).take 32 = t5.map u8 := (ld_c (o := 35) (ld_c (o := 34) (ld_c (o := 33) (ld_c (o := 32) (ld_b (k := 32) (o := 0) h4 rfl (ld_a (len_e (k := 32) h5)))))))
theorem z_size5 : sizeB Tryd.prog 5 = some 1 := by kernel_rfl

set_option maxRecDepth 100000 in
set_option maxHeartbeats 1000000 in
theorem nreceipt (r : Note.Receipt) (wf : Note.Receipt.Wf r) (w : World) : Calls Tryd.prog 43 #[.agg (Note.Receipt.cells r).toArray] w (Gives (.bool r.ok) [] w) := by
  have lz32 : (List.replicate 32 (0 : UInt8)).length = 32 := List.length_replicate
  have lz0 := wf.prev
  have lz1 := wf.hash
  refine enterL (args := [.agg (Note.Receipt.cells r).toArray]) Tryd.func43 rfl rfl (l := []) (Sep.refl _) ?_
  intro a0 H0
  refine wp_seq ?_
  refine reg ?_
  refine st_box rfl rfl (agg_cells _) rfl rfl rfl H0 ?_
  clear H0; intro b1 a1 wx1 H1
  refine plain (y_assign rfl rfl) rfl rfl rfl H1 ?_
  clear H1; intro a2 H2
  refine fin ?_
  refine then_n ?_
  refine wp_seq ?_
  refine reg ?_
  refine plain (y_fieldB rfl z_field35_0 rfl (by first | (simp only [Nat.zero_add, Nat.add_zero, Nat.reduceAdd]; rfl) | rfl)) rfl rfl rfl H2 ?_
  clear H2; intro a3 H3
  refine plain (y_loadB rfl z_agg3 rfl (by repeat (first | exact Mh | apply Mt)) q_ix_c4b32b32_0) rfl rfl rfl H3 ?_
  clear H3; intro a4 H4
  refine plain (y_fieldB rfl z_field35_2 rfl (by first | (simp only [Nat.zero_add, Nat.add_zero, Nat.reduceAdd]; rfl) | rfl)) rfl rfl rfl H4 ?_
  clear H4; intro a5 H5
  refine plain (y_loadB rfl z_agg3 rfl (by repeat (first | exact Mh | apply Mt)) q_ix_c4b32b32_2) rfl rfl rfl H5 ?_
  clear H5; intro a6 H6
  refine st_buildSlice1 (xs := [.tmp 4, .tmp 6]) rfl Tryd.underlying83 z_size3 z_zero3 rfl rfl rfl rfl rfl rfl rfl rfl rfl H6 ?_
  clear H6; intro b7 a7 wx7 H7
  refine st_callg rfl z_call47 rfl rfl rfl rfl H7 (nnum [r.index, r.time] _ _ _ rfl (by simp) (Rd.ofSep (rd_blkA (by repeat (first | exact Mh | apply Mt))) H7.sep)) ?_
  clear H7; intro a8 wx8 H8
  rw [Note.nums2] at H8
  refine plain (y_move rfl rfl) rfl rfl rfl H8 ?_
  clear H8; intro a9 H9
  refine Sx.part (d := 9) H9 rfl (fun hg10 => ?_) (fun hg10 => ?_)
  · first
    | fail
    | skip
      clear H9; intro H11
      try simp only [decide_eq_true_eq, decide_eq_false_iff_not, Bool.not_eq_true', Bool.not_eq_false', Bool.and_eq_true, Bool.not_eq_true, Bool.not_eq_false] at hg10
      refine plain (y_fieldB rfl z_field35_1 rfl (by first | (simp only [Nat.zero_add, Nat.add_zero, Nat.reduceAdd]; rfl) | rfl)) rfl rfl rfl H11 ?_
      clear H11; intro a12 H12
      refine plain (y_loadB rfl z_agg3 rfl (by repeat (first | exact Mh | apply Mt)) q_ix_c4b32b32_1) rfl rfl rfl H12 ?_
      clear H12; intro a13 H13
      refine plain (y_eql rfl rfl rfl) rfl rfl rfl H13 ?_
      clear H13; intro a14 H14
      refine plain (y_move rfl rfl) rfl rfl rfl H14 ?_
      clear H14; intro a15 H15
      refine Sx.part (d := 13) H15 rfl (fun hg16 => ?_) (fun hg16 => ?_)
      · first
        | fail
        | skip
          clear H15; intro H17
          try simp only [decide_eq_true_eq, decide_eq_false_iff_not, Bool.not_eq_true', Bool.not_eq_false', Bool.and_eq_true, Bool.not_eq_true, Bool.not_eq_false] at hg16
          refine skip rfl rfl rfl H17 ?_
          clear H17; intro a18 H18
          refine skip rfl rfl rfl H18 ?_
          clear H18; intro a19 H19
          refine skip rfl rfl rfl H19 ?_
          clear H19; intro a20 H20
          refine plain (y_pick_t rfl rfl rfl) rfl rfl rfl H20 ?_
          clear H20; intro a21 H21
          refine plain (y_pick_t rfl rfl rfl) rfl rfl rfl H21 ?_
          clear H21; intro a22 H22
          refine plain (y_move rfl rfl) rfl rfl rfl H22 ?_
          clear H22; intro a23 H23
          refine plain (y_fieldB rfl z_field35_3 rfl (by first | (simp only [Nat.zero_add, Nat.add_zero, Nat.reduceAdd]; rfl) | rfl)) rfl rfl rfl H23 ?_
          clear H23; intro a24 H24
          refine plain (y_loadB rfl z_agg9 rfl (by repeat (first | exact Mh | apply Mt)) q_ix_c4b32b32_3) rfl rfl rfl H24 ?_
          clear H24; intro a25 H25
          refine plain (y_slen rfl Tryd.underlying9 rfl) rfl rfl rfl H25 ?_
          clear H25; intro a26 H26
          refine plain (y_leq rfl rfl rfl) rfl rfl rfl H26 ?_
          clear H26; intro a27 H27
          refine plain (y_pick_t rfl rfl rfl) rfl rfl rfl H27 ?_
          clear H27; intro a28 H28
          refine plain (y_assign rfl rfl) rfl rfl rfl H28 ?_
          clear H28; intro a29 H29
          refine fin ?_
          refine then_n ?_
          refine wp_ret ?_
          -- return 1
          refine ret1 rfl H29 rfl ?_
          refine ⟨_, [], rfl, ⟨?_, rfl⟩, H29.sep.sub (List.nil_sublist _)⟩
          clear H29
          rw [Note.Receipt.ok_is]
          first | exact congrArg Value.bool (decide_eq_decide.2 (by omega)) | exact congrArg Value.bool (decide_eq_false (by omega)).symm | exact congrArg Value.bool (decide_eq_true (by omega)).symm
      · first
        | fail
        | skip
          clear H15; intro H30
          try simp only [decide_eq_true_eq, decide_eq_false_iff_not, Bool.not_eq_true', Bool.not_eq_false', Bool.and_eq_true, Bool.not_eq_true, Bool.not_eq_false] at hg16
          refine plain (y_fieldB rfl z_field35_1 rfl (by first | (simp only [Nat.zero_add, Nat.add_zero, Nat.reduceAdd]; rfl) | rfl)) rfl rfl rfl H30 ?_
          clear H30; intro a31 H31
          refine plain (y_loadB rfl z_agg3 rfl (by repeat (first | exact Mh | apply Mt)) q_ix_c4b32b32_1) rfl rfl rfl H31 ?_
          clear H31; intro a32 H32
          refine plain (y_eql rfl rfl rfl) rfl rfl rfl H32 ?_
          clear H32; intro a33 H33
          refine plain (y_pick_f rfl rfl rfl) rfl rfl rfl H33 ?_
          clear H33; intro a34 H34
          refine plain (y_pick_t rfl rfl rfl) rfl rfl rfl H34 ?_
          clear H34; intro a35 H35
          refine plain (y_move rfl rfl) rfl rfl rfl H35 ?_
          clear H35; intro a36 H36
          refine Sx.part (d := 19) H36 rfl (fun hg37 => ?_) (fun hg37 => ?_)
          · first
            | fail
            | skip
              clear H36; intro H38
              try simp only [decide_eq_true_eq, decide_eq_false_iff_not, Bool.not_eq_true', Bool.not_eq_false', Bool.and_eq_true, Bool.not_eq_true, Bool.not_eq_false] at hg37
              refine plain (y_fieldB rfl z_field35_3 rfl (by first | (simp only [Nat.zero_add, Nat.add_zero, Nat.reduceAdd]; rfl) | rfl)) rfl rfl rfl H38 ?_
              clear H38; intro a39 H39
              refine plain (y_loadB rfl z_agg9 rfl (by repeat (first | exact Mh | apply Mt)) q_ix_c4b32b32_3) rfl rfl rfl H39 ?_
              clear H39; intro a40 H40
              refine plain (y_slen rfl Tryd.underlying9 rfl) rfl rfl rfl H40 ?_
              clear H40; intro a41 H41
              refine plain (y_leq rfl rfl rfl) rfl rfl rfl H41 ?_
              clear H41; intro a42 H42
              refine plain (y_pick_t rfl rfl rfl) rfl rfl rfl H42 ?_
              clear H42; intro a43 H43
              refine plain (y_assign rfl rfl) rfl rfl rfl H43 ?_
              clear H43; intro a44 H44
              refine fin ?_
              refine then_n ?_
              refine wp_ret ?_
              -- return 2
              refine ret1 rfl H44 rfl ?_
              refine ⟨_, [], rfl, ⟨?_, rfl⟩, H44.sep.sub (List.nil_sublist _)⟩
              clear H44
              rw [Note.Receipt.ok_is]
              first | exact congrArg Value.bool (decide_eq_decide.2 (by omega)) | exact congrArg Value.bool (decide_eq_false (by omega)).symm | exact congrArg Value.bool (decide_eq_true (by omega)).symm
          · first
            | fail
            | skip
              clear H36; intro H45
              try simp only [decide_eq_true_eq, decide_eq_false_iff_not, Bool.not_eq_true', Bool.not_eq_false', Bool.and_eq_true, Bool.not_eq_true, Bool.not_eq_false] at hg37
              refine skip rfl rfl rfl H45 ?_
              clear H45; intro a46 H46
              refine skip rfl rfl rfl H46 ?_
              clear H46; intro a47 H47
              refine skip rfl rfl rfl H47 ?_
              clear H47; intro a48 H48
              refine skip rfl rfl rfl H48 ?_
              clear H48; intro a49 H49
              refine plain (y_pick_f rfl rfl rfl) rfl rfl rfl H49 ?_
              clear H49; intro a50 H50
              refine plain (y_assign rfl rfl) rfl rfl rfl H50 ?_
              clear H50; intro a51 H51
              refine fin ?_
              refine then_n ?_
              refine wp_ret ?_
              -- return 3
              refine ret1 rfl H51 rfl ?_
              refine ⟨_, [], rfl, ⟨?_, rfl⟩, H51.sep.sub (List.nil_sublist _)⟩
              clear H51
              rw [Note.Receipt.ok_is]
              first | exact congrArg Value.bool (decide_eq_decide.2 (by omega)) | exact congrArg Value.bool (decide_eq_false (by omega)).symm | exact congrArg Value.bool (decide_eq_true (by omega)).symm
  · first
    | fail
    | skip
      clear H9; intro H52
      try simp only [decide_eq_true_eq, decide_eq_false_iff_not, Bool.not_eq_true', Bool.not_eq_false', Bool.and_eq_true, Bool.not_eq_true, Bool.not_eq_false] at hg10
      refine skip rfl rfl rfl H52 ?_
      clear H52; intro a53 H53
      refine skip rfl rfl rfl H53 ?_
      clear H53; intro a54 H54
      refine skip rfl rfl rfl H54 ?_
      clear H54; intro a55 H55
      refine skip rfl rfl rfl H55 ?_
      clear H55; intro a56 H56
      refine skip rfl rfl rfl H56 ?_
      clear H56; intro a57 H57
      refine skip rfl rfl rfl H57 ?_
      clear H57; intro a58 H58
      refine skip rfl rfl rfl H58 ?_
      clear H58; intro a59 H59
      refine skip rfl rfl rfl H59 ?_
      clear H59; intro a60 H60
      refine plain (y_pick_f rfl rfl rfl) rfl rfl rfl H60 ?_
      clear H60; intro a61 H61
      refine plain (y_move rfl rfl) rfl rfl rfl H61 ?_
      clear H61; intro a62 H62
      refine skip rfl rfl rfl H62 ?_
      clear H62; intro a63 H63
      refine skip rfl rfl rfl H63 ?_
      clear H63; intro a64 H64
      refine skip rfl rfl rfl H64 ?_
      clear H64; intro a65 H65
      refine skip rfl rfl rfl H65 ?_
      clear H65; intro a66 H66
      refine plain (y_pick_f rfl rfl rfl) rfl rfl rfl H66 ?_
      clear H66; intro a67 H67
      refine plain (y_assign rfl rfl) rfl rfl rfl H67 ?_
      clear H67; intro a68 H68
      refine fin ?_
      refine then_n ?_
      refine wp_ret ?_
      -- return 4
      refine ret1 rfl H68 rfl ?_
      refine ⟨_, [], rfl, ⟨?_, rfl⟩, H68.sep.sub (List.nil_sublist _)⟩
      clear H68
      rw [Note.Receipt.ok_is]
      first | exact congrArg Value.bool (decide_eq_decide.2 (by omega)) | exact congrArg Value.bool (decide_eq_false (by omega)).symm | exact congrArg Value.bool (decide_eq_true (by omega)).symm
set_option maxRecDepth 100000 in
set_option maxHeartbeats 1000000 in
theorem nlink (r : Note.Receipt) (wf : Note.Receipt.Wf r) {w : World} (hG : Glob 0 Sha.K w) : Calls Tryd.prog 44 #[.agg (Note.Receipt.cells r).toArray] w (Gives (.agg (r.link.map u8).toArray) [] w) := by
  have lz32 : (List.replicate 32 (0 : UInt8)).length = 32 := List.length_replicate
  have lz0 := wf.prev
  have lz1 := wf.hash
  refine enterL (args := [.agg (Note.Receipt.cells r).toArray]) Tryd.func44 rfl rfl (l := []) (Sep.refl _) ?_
  intro a0 H0
  refine wp_seq ?_
  refine reg ?_
  refine st_box rfl rfl (agg_cells _) rfl rfl rfl H0 ?_
  clear H0; intro b1 a1 wx1 H1
  refine st_alloc rfl z_zeroN23 rfl rfl rfl H1 ?_
  clear H1; intro b2 a2 wx2 H2
  refine fin ?_
  refine then_n ?_
  refine wp_seq ?_
  refine hreg _ (fun _ h => h) (by kernel_rfl) H2 ?_
  clear H2; intro wx3 H3
  refine htake 0 rfl (by kernel_rfl) (y_fieldB rfl z_field35_0 rfl (by first | (simp only [Nat.zero_add, Nat.add_zero, Nat.reduceAdd]; rfl) | rfl)) rfl rfl rfl (fun _ h => (h.sub (by first | exact S0 | exact S1 | repeat (first | exact S1 | exact S0 | apply S2 | apply S3)))) H3 ?_
  clear H3; intro a4 H4
  refine htake 1 rfl (by kernel_rfl) (y_loadB rfl z_agg3 rfl (by repeat (first | exact Mh | apply Mt)) q_ix_c4b32b32_0) rfl rfl rfl (fun _ h => (h.sub (by first | exact S0 | exact S1 | repeat (first | exact S1 | exact S0 | apply S2 | apply S3)))) H4 ?_
  clear H4; intro a5 H5
  refine htake 2 rfl (by kernel_rfl) (y_fieldB rfl z_field35_1 rfl (by first | (simp only [Nat.zero_add, Nat.add_zero, Nat.reduceAdd]; rfl) | rfl)) rfl rfl rfl (fun _ h => (h.sub (by first | exact S0 | exact S1 | repeat (first | exact S1 | exact S0 | apply S2 | apply S3)))) H5 ?_
  clear H5; intro a6 H6
  refine htake 3 rfl (by kernel_rfl) (y_loadB rfl z_agg3 rfl (by repeat (first | exact Mh | apply Mt)) q_ix_c4b32b32_1) rfl rfl rfl (fun _ h => (h.sub (by first | exact S0 | exact S1 | repeat (first | exact S1 | exact S0 | apply S2 | apply S3)))) H6 ?_
  clear H6; intro a7 H7
  refine htake 4 rfl (by kernel_rfl) (y_fieldB rfl z_field35_2 rfl (by first | (simp only [Nat.zero_add, Nat.add_zero, Nat.reduceAdd]; rfl) | rfl)) rfl rfl rfl (fun _ h => (h.sub (by first | exact S0 | exact S1 | repeat (first | exact S1 | exact S0 | apply S2 | apply S3)))) H7 ?_
  clear H7; intro a8 H8
  refine htake 5 rfl (by kernel_rfl) (y_loadB rfl z_agg3 rfl (by repeat (first | exact Mh | apply Mt)) q_ix_c4b32b32_2) rfl rfl rfl (fun _ h => (h.sub (by first | exact S0 | exact S1 | repeat (first | exact S1 | exact S0 | apply S2 | apply S3)))) H8 ?_
  clear H8; intro a9 H9
  refine htake 8 rfl (by kernel_rfl) (y_fieldB rfl z_field35_3 rfl (by first | (simp only [Nat.zero_add, Nat.add_zero, Nat.reduceAdd]; rfl) | rfl)) rfl rfl rfl (fun _ h => (h.sub (by first | exact S0 | exact S1 | repeat (first | exact S1 | exact S0 | apply S2 | apply S3)))) H9 ?_
  clear H9; intro a10 H10
  refine htake 9 rfl (by kernel_rfl) (y_loadB rfl z_agg9 rfl (by repeat (first | exact Mh | apply Mt)) q_ix_c4b32b32_3) rfl rfl rfl (fun _ h => (h.sub (by first | exact S0 | exact S1 | repeat (first | exact S1 | exact S0 | apply S2 | apply S3)))) H10 ?_
  clear H10; intro a11 H11
  refine hgo2 6 10 rfl rfl (by kernel_rfl) ?_ ?_
  · skip
    refine st_buildSlice1 (xs := [.tmp 7, .tmp 9, .tmp 11]) rfl Tryd.underlying83 z_size3 z_zero3 rfl rfl rfl rfl rfl rfl rfl rfl rfl H11 ?_
    clear H11; intro b12 a12 wx12 H12
    refine hfin (H12.sep.sub (by first | exact S0 | exact S1 | repeat (first | exact S1 | exact S0 | apply S2 | apply S3))) ?_
    refine hgo2 7 10 rfl rfl (by kernel_rfl) ?_ ?_
    · skip
      refine st_call rfl z_call36 rfl rfl rfl rfl H12 (nlay [r.index, r.kind, r.time] _ _ _ rfl (by simp) (by intro x hx; simp only [List.mem_cons, List.not_mem_nil, or_false] at hx; rcases hx with rfl | rfl | rfl <;> first | exact wf.index.2 | exact wf.kind.2 | exact wf.time.2) (Rd.ofSep (rd_blkA (by repeat (first | exact Mh | apply Mt))) H12.sep)) ?_
      clear H12; intro v13 l13 a13 wx13 hf13 H13
      obtain rfl := hf13
      simp only [List.cons_append, List.nil_append] at H13
      obtain ⟨Ar13, cr13, hvr13, hRr13, hmr13⟩ := row_shape (v := v13) H13.sep (by repeat (first | exact Mh | apply Mt))
      subst hvr13
      refine hfin (H13.sep.sub (by first | exact S0 | exact S1 | repeat (first | exact S1 | exact S0 | apply S2 | apply S3))) ?_
      refine hgo 10 rfl (by kernel_rfl) ?_
      refine st_buildSlice1 (xs := [.tmp 15]) rfl Tryd.underlying49 z_size9 z_zero9 rfl rfl rfl rfl rfl rfl rfl rfl rfl H13 ?_
      clear H13; intro b14 a14 wx14 H14
      refine hfin (H14.sep.sub (by first | exact S0 | exact S1 | repeat (first | exact S1 | exact S0 | apply S2 | apply S3))) ?_
      refine hgo 11 rfl (by kernel_rfl) ?_
      refine st_append rfl z_slice49 z_notint49 rfl rfl (fun _ => (by repeat (first | exact Uh | apply Ut))) (fun w hs => Src.slice ((rd_blkA (by repeat (first | exact Mh | apply Mt))) w hs) rfl (by simp [Value.oneCell'])) (by unfold maxLen at *; first | omega | (simp only [List.length_cons, List.length_nil, List.length_append, List.length_map]; omega)) (by first | omega | (simp only [List.length_cons, List.length_nil, List.length_append, List.length_map]; omega)) rfl rfl rfl H14 ?_
      clear H14; intro v15 a15 wx15 hnil15 H15
      obtain ⟨Ar15, cr15, hvr15, hRr15, hmr15⟩ := row_shape (v := v15) H15.sep (by repeat (first | exact Mh | apply Mt))
      subst hvr15
      refine hfin (H15.sep.sub (by first | exact S0 | exact S1 | repeat (first | exact S1 | exact S0 | apply S2 | apply S3))) ?_
      refine hgo 12 rfl (by kernel_rfl) ?_
      refine st_callg rfl z_call35 rfl rfl rfl rfl H15 (nwrite [Note.num r.index, Note.num r.kind, Note.num r.time, r.body] _ _ _ rfl (Rd.ofSep (rd_row (by repeat (first | exact Mh | apply Mt))) H15.sep) (by simp)) ?_
      clear H15; intro a16 wx16 H16
      refine hfin (H16.sep.sub (by first | exact S0 | exact S1 | repeat (first | exact S1 | exact S0 | apply S2 | apply S3))) ?_
      refine htake 13 rfl (by kernel_rfl) (y_move rfl rfl) rfl rfl rfl (fun _ h => (h.sub (by first | exact S0 | exact S1 | repeat (first | exact S1 | exact S0 | apply S2 | apply S3)))) H16 ?_
      clear H16; intro a17 H17
      refine htake 14 rfl (by kernel_rfl) (y_extract rfl rfl rfl) rfl rfl rfl (fun _ h => (h.sub (by first | exact S0 | exact S1 | repeat (first | exact S1 | exact S0 | apply S2 | apply S3)))) H17 ?_
      clear H17; intro a18 H18
      refine htake 15 rfl (by kernel_rfl) (y_extract rfl rfl rfl) rfl rfl rfl (fun _ h => (h.sub (by first | exact S0 | exact S1 | repeat (first | exact S1 | exact S0 | apply S2 | apply S3)))) H18 ?_
      clear H18; intro a19 H19
      refine htake 16 rfl (by kernel_rfl) (y_assign rfl rfl) rfl rfl rfl (fun _ h => (h.sub (by first | exact S0 | exact S1 | repeat (first | exact S1 | exact S0 | apply S2 | apply S3)))) H19 ?_
      clear H19; intro a20 H20
      refine htake 17 rfl (by kernel_rfl) (y_assign rfl rfl) rfl rfl rfl (fun _ h => (h.sub (by first | exact S0 | exact S1 | repeat (first | exact S1 | exact S0 | apply S2 | apply S3)))) H20 ?_
      clear H20; intro a21 H21
      refine hdone (by kernel_rfl) ?_
      refine then_n ?_
      refine wp_seq ?_
      refine reg ?_
      refine plain (y_fieldB rfl z_field35_4 rfl (by first | (simp only [Nat.zero_add, Nat.add_zero, Nat.reduceAdd]; rfl) | rfl)) rfl rfl rfl H21 ?_
      clear H21; intro a22 H22
      refine plain (y_loadAB rfl z_agg23 z_size23 rfl (by repeat (first | exact Mh | apply Mt)) (q_ld_c4b32b32_4_32 (by first | assumption | exact Sha.sum_length _)) (q_len_b32 (by first | assumption | exact Sha.sum_length _))) rfl rfl rfl H22 ?_
      clear H22; intro a23 H23
      refine plain (y_move rfl rfl) rfl rfl rfl H23 ?_
      clear H23; intro a24 H24
      refine st_callg rfl z_call62 rfl rfl rfl rfl H24 (dchain r.prev wf.prev _ (by have := Oct.list_len (l := [Note.num r.index, Note.num r.kind, Note.num r.time, r.body]); omega) (hG.frm H24.sep.frm (by simp))) ?_
      clear H24; intro a25 wx25 H25
      refine st_storeN rfl z_size23 rfl rfl (agg_cells _) (by repeat (first | exact Uh | apply Ut)) q_one_b32 (q_len_b32 (by first | assumption | exact Sha.sum_length _)) (q_len_b32 (by first | assumption | exact Sha.sum_length _)) (q_spl_b32_0_b32 (by first | assumption | exact Sha.sum_length _) (by first | assumption | exact Sha.sum_length _)) (by decide) rfl rfl H25 ?_
      clear H25; intro wx26 H26
      refine fin ?_
      refine then_n ?_
      refine wp_ret ?_
      -- return 1
      refine retc rfl H26 rfl z_agg23 z_size23 (by repeat (first | exact Mh | apply Mt)) (q_len_b32 (by first | assumption | exact Sha.sum_length _)) ?_
      refine ⟨_, [], rfl, ⟨?_, rfl⟩, H26.sep.sub (List.nil_sublist _)⟩
      rfl
    · skip
      refine st_buildSlice1 (xs := [.tmp 15]) rfl Tryd.underlying49 z_size9 z_zero9 rfl rfl rfl rfl rfl rfl rfl rfl rfl H12 ?_
      clear H12; intro b27 a27 wx27 H27
      refine hfin (H27.sep.sub (by first | exact S0 | exact S1 | repeat (first | exact S1 | exact S0 | apply S2 | apply S3))) ?_
      refine hgo 7 rfl (by kernel_rfl) ?_
      refine st_call rfl z_call36 rfl rfl rfl rfl H27 (nlay [r.index, r.kind, r.time] _ _ _ rfl (by simp) (by intro x hx; simp only [List.mem_cons, List.not_mem_nil, or_false] at hx; rcases hx with rfl | rfl | rfl <;> first | exact wf.index.2 | exact wf.kind.2 | exact wf.time.2) (Rd.ofSep (rd_blkA (by repeat (first | exact Mh | apply Mt))) H27.sep)) ?_
      clear H27; intro v28 l28 a28 wx28 hf28 H28
      obtain rfl := hf28
      simp only [List.cons_append, List.nil_append] at H28
      obtain ⟨Ar28, cr28, hvr28, hRr28, hmr28⟩ := row_shape (v := v28) H28.sep (by repeat (first | exact Mh | apply Mt))
      subst hvr28
      refine hfin (H28.sep.sub (by first | exact S0 | exact S1 | repeat (first | exact S1 | exact S0 | apply S2 | apply S3))) ?_
      refine hgo 11 rfl (by kernel_rfl) ?_
      refine st_append rfl z_slice49 z_notint49 rfl rfl (fun _ => (by repeat (first | exact Uh | apply Ut))) (fun w hs => Src.slice ((rd_blkA (by repeat (first | exact Mh | apply Mt))) w hs) rfl (by simp [Value.oneCell'])) (by unfold maxLen at *; first | omega | (simp only [List.length_cons, List.length_nil, List.length_append, List.length_map]; omega)) (by first | omega | (simp only [List.length_cons, List.length_nil, List.length_append, List.length_map]; omega)) rfl rfl rfl H28 ?_
      clear H28; intro v29 a29 wx29 hnil29 H29
      obtain ⟨Ar29, cr29, hvr29, hRr29, hmr29⟩ := row_shape (v := v29) H29.sep (by repeat (first | exact Mh | apply Mt))
      subst hvr29
      refine hfin (H29.sep.sub (by first | exact S0 | exact S1 | repeat (first | exact S1 | exact S0 | apply S2 | apply S3))) ?_
      refine hgo 12 rfl (by kernel_rfl) ?_
      refine st_callg rfl z_call35 rfl rfl rfl rfl H29 (nwrite [Note.num r.index, Note.num r.kind, Note.num r.time, r.body] _ _ _ rfl (Rd.ofSep (rd_row (by repeat (first | exact Mh | apply Mt))) H29.sep) (by simp)) ?_
      clear H29; intro a30 wx30 H30
      refine hfin (H30.sep.sub (by first | exact S0 | exact S1 | repeat (first | exact S1 | exact S0 | apply S2 | apply S3))) ?_
      refine htake 13 rfl (by kernel_rfl) (y_move rfl rfl) rfl rfl rfl (fun _ h => (h.sub (by first | exact S0 | exact S1 | repeat (first | exact S1 | exact S0 | apply S2 | apply S3)))) H30 ?_
      clear H30; intro a31 H31
      refine htake 14 rfl (by kernel_rfl) (y_extract rfl rfl rfl) rfl rfl rfl (fun _ h => (h.sub (by first | exact S0 | exact S1 | repeat (first | exact S1 | exact S0 | apply S2 | apply S3)))) H31 ?_
      clear H31; intro a32 H32
      refine htake 15 rfl (by kernel_rfl) (y_extract rfl rfl rfl) rfl rfl rfl (fun _ h => (h.sub (by first | exact S0 | exact S1 | repeat (first | exact S1 | exact S0 | apply S2 | apply S3)))) H32 ?_
      clear H32; intro a33 H33
      refine htake 16 rfl (by kernel_rfl) (y_assign rfl rfl) rfl rfl rfl (fun _ h => (h.sub (by first | exact S0 | exact S1 | repeat (first | exact S1 | exact S0 | apply S2 | apply S3)))) H33 ?_
      clear H33; intro a34 H34
      refine htake 17 rfl (by kernel_rfl) (y_assign rfl rfl) rfl rfl rfl (fun _ h => (h.sub (by first | exact S0 | exact S1 | repeat (first | exact S1 | exact S0 | apply S2 | apply S3)))) H34 ?_
      clear H34; intro a35 H35
      refine hdone (by kernel_rfl) ?_
      refine then_n ?_
      refine wp_seq ?_
      refine reg ?_
      refine plain (y_fieldB rfl z_field35_4 rfl (by first | (simp only [Nat.zero_add, Nat.add_zero, Nat.reduceAdd]; rfl) | rfl)) rfl rfl rfl H35 ?_
      clear H35; intro a36 H36
      refine plain (y_loadAB rfl z_agg23 z_size23 rfl (by repeat (first | exact Mh | apply Mt)) (q_ld_c4b32b32_4_32 (by first | assumption | exact Sha.sum_length _)) (q_len_b32 (by first | assumption | exact Sha.sum_length _))) rfl rfl rfl H36 ?_
      clear H36; intro a37 H37
      refine plain (y_move rfl rfl) rfl rfl rfl H37 ?_
      clear H37; intro a38 H38
      refine st_callg rfl z_call62 rfl rfl rfl rfl H38 (dchain r.prev wf.prev _ (by have := Oct.list_len (l := [Note.num r.index, Note.num r.kind, Note.num r.time, r.body]); omega) (hG.frm H38.sep.frm (by simp))) ?_
      clear H38; intro a39 wx39 H39
      refine st_storeN rfl z_size23 rfl rfl (agg_cells _) (by repeat (first | exact Uh | apply Ut)) q_one_b32 (q_len_b32 (by first | assumption | exact Sha.sum_length _)) (q_len_b32 (by first | assumption | exact Sha.sum_length _)) (q_spl_b32_0_b32 (by first | assumption | exact Sha.sum_length _) (by first | assumption | exact Sha.sum_length _)) (by decide) rfl rfl H39 ?_
      clear H39; intro wx40 H40
      refine fin ?_
      refine then_n ?_
      refine wp_ret ?_
      -- return 2
      refine retc rfl H40 rfl z_agg23 z_size23 (by repeat (first | exact Mh | apply Mt)) (q_len_b32 (by first | assumption | exact Sha.sum_length _)) ?_
      refine ⟨_, [], rfl, ⟨?_, rfl⟩, H40.sep.sub (List.nil_sublist _)⟩
      rfl
  · skip
    refine st_buildSlice1 (xs := [.tmp 15]) rfl Tryd.underlying49 z_size9 z_zero9 rfl rfl rfl rfl rfl rfl rfl rfl rfl H11 ?_
    clear H11; intro b41 a41 wx41 H41
    refine hfin (H41.sep.sub (by first | exact S0 | exact S1 | repeat (first | exact S1 | exact S0 | apply S2 | apply S3))) ?_
    refine hgo 6 rfl (by kernel_rfl) ?_
    refine st_buildSlice1 (xs := [.tmp 7, .tmp 9, .tmp 11]) rfl Tryd.underlying83 z_size3 z_zero3 rfl rfl rfl rfl rfl rfl rfl rfl rfl H41 ?_
    clear H41; intro b42 a42 wx42 H42
    refine hfin (H42.sep.sub (by first | exact S0 | exact S1 | repeat (first | exact S1 | exact S0 | apply S2 | apply S3))) ?_
    refine hgo 7 rfl (by kernel_rfl) ?_
    refine st_call rfl z_call36 rfl rfl rfl rfl H42 (nlay [r.index, r.kind, r.time] _ _ _ rfl (by simp) (by intro x hx; simp only [List.mem_cons, List.not_mem_nil, or_false] at hx; rcases hx with rfl | rfl | rfl <;> first | exact wf.index.2 | exact wf.kind.2 | exact wf.time.2) (Rd.ofSep (rd_blkA (by repeat (first | exact Mh | apply Mt))) H42.sep)) ?_
    clear H42; intro v43 l43 a43 wx43 hf43 H43
    obtain rfl := hf43
    simp only [List.cons_append, List.nil_append] at H43
    obtain ⟨Ar43, cr43, hvr43, hRr43, hmr43⟩ := row_shape (v := v43) H43.sep (by repeat (first | exact Mh | apply Mt))
    subst hvr43
    refine hfin (H43.sep.sub (by first | exact S0 | exact S1 | repeat (first | exact S1 | exact S0 | apply S2 | apply S3))) ?_
    refine hgo 11 rfl (by kernel_rfl) ?_
    refine st_append rfl z_slice49 z_notint49 rfl rfl (fun _ => (by repeat (first | exact Uh | apply Ut))) (fun w hs => Src.slice ((rd_blkA (by repeat (first | exact Mh | apply Mt))) w hs) rfl (by simp [Value.oneCell'])) (by unfold maxLen at *; first | omega | (simp only [List.length_cons, List.length_nil, List.length_append, List.length_map]; omega)) (by first | omega | (simp only [List.length_cons, List.length_nil, List.length_append, List.length_map]; omega)) rfl rfl rfl H43 ?_
    clear H43; intro v44 a44 wx44 hnil44 H44
    obtain ⟨Ar44, cr44, hvr44, hRr44, hmr44⟩ := row_shape (v := v44) H44.sep (by repeat (first | exact Mh | apply Mt))
    subst hvr44
    refine hfin (H44.sep.sub (by first | exact S0 | exact S1 | repeat (first | exact S1 | exact S0 | apply S2 | apply S3))) ?_
    refine hgo 12 rfl (by kernel_rfl) ?_
    refine st_callg rfl z_call35 rfl rfl rfl rfl H44 (nwrite [Note.num r.index, Note.num r.kind, Note.num r.time, r.body] _ _ _ rfl (Rd.ofSep (rd_row (by repeat (first | exact Mh | apply Mt))) H44.sep) (by simp)) ?_
    clear H44; intro a45 wx45 H45
    refine hfin (H45.sep.sub (by first | exact S0 | exact S1 | repeat (first | exact S1 | exact S0 | apply S2 | apply S3))) ?_
    refine htake 13 rfl (by kernel_rfl) (y_move rfl rfl) rfl rfl rfl (fun _ h => (h.sub (by first | exact S0 | exact S1 | repeat (first | exact S1 | exact S0 | apply S2 | apply S3)))) H45 ?_
    clear H45; intro a46 H46
    refine htake 14 rfl (by kernel_rfl) (y_extract rfl rfl rfl) rfl rfl rfl (fun _ h => (h.sub (by first | exact S0 | exact S1 | repeat (first | exact S1 | exact S0 | apply S2 | apply S3)))) H46 ?_
    clear H46; intro a47 H47
    refine htake 15 rfl (by kernel_rfl) (y_extract rfl rfl rfl) rfl rfl rfl (fun _ h => (h.sub (by first | exact S0 | exact S1 | repeat (first | exact S1 | exact S0 | apply S2 | apply S3)))) H47 ?_
    clear H47; intro a48 H48
    refine htake 16 rfl (by kernel_rfl) (y_assign rfl rfl) rfl rfl rfl (fun _ h => (h.sub (by first | exact S0 | exact S1 | repeat (first | exact S1 | exact S0 | apply S2 | apply S3)))) H48 ?_
    clear H48; intro a49 H49
    refine htake 17 rfl (by kernel_rfl) (y_assign rfl rfl) rfl rfl rfl (fun _ h => (h.sub (by first | exact S0 | exact S1 | repeat (first | exact S1 | exact S0 | apply S2 | apply S3)))) H49 ?_
    clear H49; intro a50 H50
    refine hdone (by kernel_rfl) ?_
    refine then_n ?_
    refine wp_seq ?_
    refine reg ?_
    refine plain (y_fieldB rfl z_field35_4 rfl (by first | (simp only [Nat.zero_add, Nat.add_zero, Nat.reduceAdd]; rfl) | rfl)) rfl rfl rfl H50 ?_
    clear H50; intro a51 H51
    refine plain (y_loadAB rfl z_agg23 z_size23 rfl (by repeat (first | exact Mh | apply Mt)) (q_ld_c4b32b32_4_32 (by first | assumption | exact Sha.sum_length _)) (q_len_b32 (by first | assumption | exact Sha.sum_length _))) rfl rfl rfl H51 ?_
    clear H51; intro a52 H52
    refine plain (y_move rfl rfl) rfl rfl rfl H52 ?_
    clear H52; intro a53 H53
    refine st_callg rfl z_call62 rfl rfl rfl rfl H53 (dchain r.prev wf.prev _ (by have := Oct.list_len (l := [Note.num r.index, Note.num r.kind, Note.num r.time, r.body]); omega) (hG.frm H53.sep.frm (by simp))) ?_
    clear H53; intro a54 wx54 H54
    refine st_storeN rfl z_size23 rfl rfl (agg_cells _) (by repeat (first | exact Uh | apply Ut)) q_one_b32 (q_len_b32 (by first | assumption | exact Sha.sum_length _)) (q_len_b32 (by first | assumption | exact Sha.sum_length _)) (q_spl_b32_0_b32 (by first | assumption | exact Sha.sum_length _) (by first | assumption | exact Sha.sum_length _)) (by decide) rfl rfl H54 ?_
    clear H54; intro wx55 H55
    refine fin ?_
    refine then_n ?_
    refine wp_ret ?_
    -- return 3
    refine retc rfl H55 rfl z_agg23 z_size23 (by repeat (first | exact Mh | apply Mt)) (q_len_b32 (by first | assumption | exact Sha.sum_length _)) ?_
    refine ⟨_, [], rfl, ⟨?_, rfl⟩, H55.sep.sub (List.nil_sublist _)⟩
    rfl
set_option maxRecDepth 100000 in
set_option maxHeartbeats 1000000 in
theorem nlinkF (prev : List UInt8) (hp : prev.length = 32) (index kind time : Int) (hi : Note.I64 index) (hkd : Note.I64 kind) (hti : Note.I64 time) (body : List UInt8) (hbl : body.length ≤ 140737488351232) {w : World} (hG : Glob 0 Sha.K w) : Calls Tryd.prog 19 #[.agg (prev.map u8).toArray, .int .i64 index, .int .i64 kind, .int .i64 time, str body] w (Gives (.tuple #[.agg (Note.Receipt.cells (Note.link prev index kind time body).1).toArray, .int .i64 (Note.link prev index kind time body).2]) [] w) := by
  have wf : Note.Receipt.Wf (⟨index, kind, time, body, prev, Note.Z⟩ : Note.Receipt) := ⟨hi, hkd, hti, hbl, hp, rfl⟩
  have lz32 : (List.replicate 32 (0 : UInt8)).length = 32 := List.length_replicate
  refine enterL (args := [.agg (prev.map u8).toArray, .int .i64 index, .int .i64 kind, .int .i64 time, str body]) Tryd.func19 rfl rfl (l := []) (Sep.refl _) ?_
  intro a0 H0
  refine wp_seq ?_
  refine reg ?_
  refine st_box rfl rfl (agg_cells _) rfl rfl rfl H0 ?_
  clear H0; intro b1 a1 wx1 H1
  refine st_alloc rfl z_zeroN35 rfl rfl rfl H1 ?_
  clear H1; intro b2 a2 wx2 H2
  refine plain (y_assign rfl rfl) rfl rfl rfl H2 ?_
  clear H2; intro a3 H3
  refine fin ?_
  refine then_n ?_
  refine wp_seq ?_
  refine reg ?_
  refine plain (y_move rfl rfl) rfl rfl rfl H3 ?_
  clear H3; intro a4 H4
  refine plain (y_move rfl rfl) rfl rfl rfl H4 ?_
  clear H4; intro a5 H5
  refine plain (y_move rfl rfl) rfl rfl rfl H5 ?_
  clear H5; intro a6 H6
  refine plain (y_move rfl rfl) rfl rfl rfl H6 ?_
  clear H6; intro a7 H7
  refine plain (y_loadAB rfl z_agg23 z_size23 rfl (by repeat (first | exact Mh | apply Mt)) (q_ld_b32_0_32 (by first | assumption | exact Note.link_len _)) (q_len_b32 (by first | assumption | exact Note.link_len _))) rfl rfl rfl H7 ?_
  clear H7; intro a8 H8
  refine plain (y_build rfl z_zeroN35 z_places35 rfl (lay_1 (off := 0) (n := 68) rfl (q_len_c4b32b32 (by first | assumption | exact Note.link_len _) (by first | assumption | exact Note.link_len _)) (by decide) q_spl_c4b32b32_0_c1 (lay_1 (off := 1) (n := 68) rfl (q_len_c4b32b32 (by first | assumption | exact Note.link_len _) (by first | assumption | exact Note.link_len _)) (by decide) q_spl_c4b32b32_1_c1 (lay_1 (off := 2) (n := 68) rfl (q_len_c4b32b32 (by first | assumption | exact Note.link_len _) (by first | assumption | exact Note.link_len _)) (by decide) q_spl_c4b32b32_2_c1 (lay_1 (off := 3) (n := 68) rfl (q_len_c4b32b32 (by first | assumption | exact Note.link_len _) (by first | assumption | exact Note.link_len _)) (by decide) q_spl_c4b32b32_3_c1 (lay_f (off := 4) (z := 32) (n := 68) rfl (agg_cells _) (q_len_b32 (by first | assumption | exact Note.link_len _)) (q_len_c4b32b32 (by first | assumption | exact Note.link_len _) (by first | assumption | exact Note.link_len _)) (by decide) (q_spl_c4b32b32_4_b32 (by first | assumption | exact Note.link_len _) (by first | assumption | exact Note.link_len _)) lay_n) (by rfl)) (by rfl)) (by rfl)) (by rfl))) rfl rfl rfl H8 ?_
  clear H8; intro a9 H9
  refine st_alloc rfl z_zeroN35 rfl rfl rfl H9 ?_
  clear H9; intro b10 a10 wx10 H10
  refine st_storeN rfl z_size35 rfl rfl (agg_cells _) (by repeat (first | exact Uh | apply Ut)) (q_one_c4b32b32 rfl rfl rfl rfl) (q_len_c4b32b32 (by first | assumption | exact Note.link_len _) (by first | assumption | exact Note.link_len _)) (q_len_c4b32b32 (by first | assumption | exact Note.link_len _) (by first | assumption | exact Note.link_len _)) (q_spl_c4b32b32_0_c4b32b32 (by first | assumption | exact Note.link_len _) (by first | assumption | exact Note.link_len _) (by first | assumption | exact Note.link_len _) (by first | assumption | exact Note.link_len _)) (by decide) rfl rfl H10 ?_
  clear H10; intro wx11 H11
  refine fin ?_
  refine then_n ?_
  refine wp_seq ?_
  refine wp_seq ?_
  refine reg ?_
  refine plain (y_loadAB rfl z_agg35 z_size35 rfl (by repeat (first | exact Mh | apply Mt)) (q_ld_c4b32b32_0_68 (by first | assumption | exact Note.link_len _) (by first | assumption | exact Note.link_len _)) (q_len_c4b32b32 (by first | assumption | exact Note.link_len _) (by first | assumption | exact Note.link_len _))) rfl rfl rfl H11 ?_
  clear H11; intro a12 H12
  refine st_callg rfl z_call43 rfl rfl rfl rfl H12 (nreceipt (⟨index, kind, time, body, prev, Note.Z⟩ : Note.Receipt) wf _) ?_
  clear H12; intro a13 wx13 H13
  refine plain ((by first | exact y_not_d rfl rfl | exact y_not rfl rfl)) rfl rfl rfl H13 ?_
  clear H13; intro a14 H14
  refine fin ?_
  refine then_n ?_
  refine cnd H14 rfl (fun hc15 => ?_) (fun hc15 => ?_) -- cond 1
  · skip
    try simp only [decide_eq_true_eq, decide_eq_false_iff_not, Bool.not_eq_true', Bool.not_eq_false', Bool.and_eq_true, Bool.not_eq_true, Bool.not_eq_false] at hc15
    have hk := hc15
    refine wp_seq ?_
    refine reg ?_
    refine plain (y_build rfl z_zeroN35 z_places35 rfl lay_n) rfl rfl rfl H14 ?_
    clear H14; intro a16 H16
    refine st_storeN rfl z_size35 rfl rfl (agg_cells _) (by repeat (first | exact Uh | apply Ut)) (q_one_c4b32b32 rfl rfl rfl rfl) (q_len_c4b32b32 (by first | assumption | exact Note.link_len _) (by first | assumption | exact Note.link_len _)) (q_len_c4b32b32 (by first | assumption | exact Note.link_len _) (by first | assumption | exact Note.link_len _)) (q_spl_c4b32b32_0_c4b32b32 (by first | assumption | exact Note.link_len _) (by first | assumption | exact Note.link_len _) (by first | assumption | exact Note.link_len _) (by first | assumption | exact Note.link_len _)) (by decide) rfl rfl H16 ?_
    clear H16; intro wx17 H17
    refine plain (y_assign rfl rfl) rfl rfl rfl H17 ?_
    clear H17; intro a18 H18
    refine fin ?_
    refine then_n ?_
    refine wp_ret ?_
    refine then_r ?_
    -- return 1
    refine retct rfl H18 rfl z_agg35 z_size35 (by repeat (first | exact Mh | apply Mt)) (q_len_c4b32b32 (by first | assumption | exact Note.link_len _) (by first | assumption | exact Note.link_len _)) rfl ?_
    refine ⟨_, [], rfl, ⟨?_, rfl⟩, H18.sep.sub (List.nil_sublist _)⟩
    rw [Note.link, if_neg (by rw [hk]; decide)]
    rfl
  · skip
    try simp only [decide_eq_true_eq, decide_eq_false_iff_not, Bool.not_eq_true', Bool.not_eq_false', Bool.and_eq_true, Bool.not_eq_true, Bool.not_eq_false] at hc15
    have hk := hc15
    refine wp_skip ?_
    refine then_n ?_
    refine wp_seq ?_
    refine reg ?_
    refine plain (y_loadAB rfl z_agg35 z_size35 rfl (by repeat (first | exact Mh | apply Mt)) (q_ld_c4b32b32_0_68 (by first | assumption | exact Note.link_len _) (by first | assumption | exact Note.link_len _)) (q_len_c4b32b32 (by first | assumption | exact Note.link_len _) (by first | assumption | exact Note.link_len _))) rfl rfl rfl H14 ?_
    clear H14; intro a19 H19
    refine st_callg rfl z_call44 rfl rfl rfl rfl H19 (nlink (⟨index, kind, time, body, prev, Note.Z⟩ : Note.Receipt) wf (hG.frm H19.sep.frm (by simp))) ?_
    clear H19; intro a20 wx20 H20
    refine plain (y_fieldB rfl z_field35_5 rfl (by first | (simp only [Nat.zero_add, Nat.add_zero, Nat.reduceAdd]; rfl) | rfl)) rfl rfl rfl H20 ?_
    clear H20; intro a21 H21
    refine st_storeN rfl z_size23 rfl rfl (agg_cells _) (by repeat (first | exact Uh | apply Ut)) q_one_b32 (q_len_b32 (by first | assumption | exact Note.link_len _)) (q_len_c4b32b32 (by first | assumption | exact Note.link_len _) (by first | assumption | exact Note.link_len _)) (q_spl_c4b32b32_36_b32 (by first | assumption | exact Note.link_len _) (by first | assumption | exact Note.link_len _) (by first | assumption | exact Note.link_len _)) (by decide) rfl rfl H21 ?_
    clear H21; intro wx22 H22
    refine fin ?_
    refine then_n ?_
    refine wp_seq ?_
    refine reg ?_
    refine plain (y_loadAB rfl z_agg35 z_size35 rfl (by repeat (first | exact Mh | apply Mt)) (q_ld_c4b32b32_0_68 (by first | assumption | exact Note.link_len _) (by first | assumption | exact Note.link_len _)) (q_len_c4b32b32 (by first | assumption | exact Note.link_len _) (by first | assumption | exact Note.link_len _))) rfl rfl rfl H22 ?_
    clear H22; intro a23 H23
    refine st_storeN rfl z_size35 rfl rfl (agg_cells _) (by repeat (first | exact Uh | apply Ut)) (q_one_c4b32b32 rfl rfl rfl rfl) (q_len_c4b32b32 (by first | assumption | exact Note.link_len _) (by first | assumption | exact Note.link_len _)) (q_len_c4b32b32 (by first | assumption | exact Note.link_len _) (by first | assumption | exact Note.link_len _)) (q_spl_c4b32b32_0_c4b32b32 (by first | assumption | exact Note.link_len _) (by first | assumption | exact Note.link_len _) (by first | assumption | exact Note.link_len _) (by first | assumption | exact Note.link_len _)) (by decide) rfl rfl H23 ?_
    clear H23; intro wx24 H24
    refine plain (y_assign rfl rfl) rfl rfl rfl H24 ?_
    clear H24; intro a25 H25
    refine fin ?_
    refine then_n ?_
    refine wp_ret ?_
    -- return 2
    refine retct rfl H25 rfl z_agg35 z_size35 (by repeat (first | exact Mh | apply Mt)) (q_len_c4b32b32 (by first | assumption | exact Note.link_len _) (by first | assumption | exact Note.link_len _)) rfl ?_
    refine ⟨_, [], rfl, ⟨?_, rfl⟩, H25.sep.sub (List.nil_sublist _)⟩
    rw [Note.link, if_pos hk]
    rfl
end Go.Proofs.YtnnhnnhdoipbaaaDoor.N_Rec

set_option linter.unusedVariables false
set_option linter.unusedSimpArgs false
namespace Go.Proofs.YtnnhnnhdoipbaaaDoor.N_Fields
open Go.Sx Go.RowKit Go.Proofs.YtnnhnnhdoipbaaaDoor.N_Num Go.Proofs.YtnnhnnhdoipbaaaDoor.N_Read

theorem z_call63 : callB Tryd.prog 63 = true := by kernel_rfl
theorem z_size80 : sizeB Tryd.prog 80 = some 1 := by kernel_rfl
theorem z_agg80 : aggB Tryd.prog 80 = some false := by kernel_rfl
theorem z_size9 : sizeB Tryd.prog 9 = some 1 := by kernel_rfl
theorem z_agg9 : aggB Tryd.prog 9 = some false := by kernel_rfl
theorem z_call64 : callB Tryd.prog 64 = true := by kernel_rfl
theorem z_size3 : sizeB Tryd.prog 3 = some 1 := by kernel_rfl

set_option maxRecDepth 100000 in
set_option maxHeartbeats 2000000 in
theorem nfields (s : List UInt8) (hs : s.length ≤ 1000000000000000000) (b : Nat) (E : Nat) (cs : List Value) (k : Nat) (hk : k ≤ cs.length) (hk5 : k ≤ 5) (A : Option Addr) (c : Nat) {w : World} (hb : (It.blk b E cs).P w) (hR : Rd w A (ptrs b k)) (hA : ∀ ad, A = some ad → ad.block ≠ b) : Calls Tryd.prog 51 #[str s, .slice A k c] w (Post [b] w fun u l2 => ∃ i' R, l2 = i' :: R ∧ (fun u i' R => ∃ cs', i' = It.blk b E cs' ∧ ((∃ (ns : List Int) (A' : Option Addr) (c' : Nat) (L : List (List UInt8)), Note.fields s k = some (ns, L.drop k) ∧ cs' = ns.map i64 ++ cs.drop k ∧ ns.length = k ∧ R = [It.row 9 1 (.slice A' L.length c') L.length (L.map str)] ∧ k ≤ L.length ∧ L.length ≤ 1024 ∧ L.length ≤ c' ∧ u = .tuple #[.slice (if c' = k then A' else A'.map (·.add (k * 1))) (L.length - k) (c' - k), .bool true] ∧ (∀ x ∈ ns, 0 ≤ x ∧ x ≤ 9223372036854775807) ∧ (∀ x ∈ L, x.length ≤ 65536)) ∨ (Note.fields s k = none ∧ R = [] ∧ u = .tuple #[.slice none 0 0, .bool false]))) u i' R) := by
  have lz32 : (List.replicate 32 (0 : UInt8)).length = 32 := List.length_replicate
  refine enterL (args := [str s, .slice A k c]) Tryd.func51 rfl rfl (l := [It.blk b E cs]) (Sep.one (i := It.blk b E cs) hb) ?_
  intro a0 H0
  refine wp_seq ?_
  refine reg ?_
  refine plain (y_assign rfl rfl) rfl rfl rfl H0 ?_
  clear H0; intro a1 H1
  refine plain (y_assign rfl rfl) rfl rfl rfl H1 ?_
  clear H1; intro a2 H2
  refine fin ?_
  refine then_n ?_
  refine wp_seq ?_
  refine reg ?_
  refine plain (y_move rfl rfl) rfl rfl rfl H2 ?_
  clear H2; intro a3 H3
  refine st_call rfl z_call63 rfl rfl rfl rfl H3 (rlst s 0 hs (by omega) _) ?_
  clear H3; intro v4 l4 a4 wx4 hf4 H4
  obtain ⟨vt4, rfl, rfl⟩ := hf4
  simp only [List.cons_append, List.nil_append] at H4
  obtain ⟨ArL, crL, hvrL, hRrL, hmrL⟩ := row_shape (v := vt4) H4.sep (by repeat (first | exact Mh | apply Mt))
  subst hvrL
  have hcap := row_cap H4.sep (List.Mem.head _)
  have hrlen := Oct.rdl_len (s := s) (p := 0)
  refine plain (y_move rfl rfl) rfl rfl rfl H4 ?_
  clear H4; intro a5 H5
  refine plain (y_extract rfl rfl rfl) rfl rfl rfl H5 ?_
  clear H5; intro a6 H6
  refine plain (y_extract rfl rfl rfl) rfl rfl rfl H6 ?_
  clear H6; intro a7 H7
  refine plain (y_extract rfl rfl rfl) rfl rfl rfl H7 ?_
  clear H7; intro a8 H8
  refine plain (y_assign rfl rfl) rfl rfl rfl H8 ?_
  clear H8; intro a9 H9
  refine plain (y_assign rfl rfl) rfl rfl rfl H9 ?_
  clear H9; intro a10 H10
  refine plain (y_assign rfl rfl) rfl rfl rfl H10 ?_
  clear H10; intro a11 H11
  refine fin ?_
  refine then_n ?_
  refine wp_seq ?_
  refine wp_seq ?_
  refine reg ?_
  refine plain (y_move rfl rfl) rfl rfl rfl H11 ?_
  clear H11; intro a12 H12
  refine plain (y_neq rfl rfl rfl) rfl rfl rfl H12 ?_
  clear H12; intro a13 H13
  refine plain (y_move rfl rfl) rfl rfl rfl H13 ?_
  clear H13; intro a14 H14
  refine Sx.part (d := 22) H14 rfl (fun hg15 => ?_) (fun hg15 => ?_)
  · first
    | fail
    | skip
      clear H14; intro H16
      try simp only [decide_eq_true_eq, decide_eq_false_iff_not, Bool.not_eq_true', Bool.not_eq_false', Bool.and_eq_true, Bool.not_eq_true, Bool.not_eq_false] at hg15
      refine skip rfl rfl rfl H16 ?_
      clear H16; intro a17 H17
      refine skip rfl rfl rfl H17 ?_
      clear H17; intro a18 H18
      refine skip rfl rfl rfl H18 ?_
      clear H18; intro a19 H19
      refine skip rfl rfl rfl H19 ?_
      clear H19; intro a20 H20
      refine plain (y_pick_t rfl rfl rfl) rfl rfl rfl H20 ?_
      clear H20; intro a21 H21
      refine plain (y_move rfl rfl) rfl rfl rfl H21 ?_
      clear H21; intro a22 H22
      refine skip rfl rfl rfl H22 ?_
      clear H22; intro a23 H23
      refine skip rfl rfl rfl H23 ?_
      clear H23; intro a24 H24
      refine skip rfl rfl rfl H24 ?_
      clear H24; intro a25 H25
      refine skip rfl rfl rfl H25 ?_
      clear H25; intro a26 H26
      refine skip rfl rfl rfl H26 ?_
      clear H26; intro a27 H27
      refine plain (y_pick_t rfl rfl rfl) rfl rfl rfl H27 ?_
      clear H27; intro a28 H28
      refine fin ?_
      refine then_n ?_
      refine cnd_t H28 rfl ?_
      refine wp_seq ?_
      refine reg ?_
      refine plain (y_assign rfl rfl) rfl rfl rfl H28 ?_
      clear H28; intro a30 H30
      refine plain (y_assign rfl rfl) rfl rfl rfl H30 ?_
      clear H30; intro a31 H31
      refine fin ?_
      refine then_n ?_
      refine wp_ret ?_
      refine then_r ?_
      -- return 1
      refine ret2 rfl H31 rfl rfl ?_
      refine ⟨_, _, rfl, ⟨_, [], rfl, _, rfl, .inr ⟨?_, rfl, rfl⟩⟩, H31.sep.sub (by first | exact S0 | exact S1 | repeat (first | exact S1 | exact S0 | apply S2 | apply S3))⟩
      exact Note.fields_bad (.inl (by assumption))
  · first
    | fail
    | skip
      clear H14; intro H32
      try simp only [decide_eq_true_eq, decide_eq_false_iff_not, Bool.not_eq_true', Bool.not_eq_false', Bool.and_eq_true, Bool.not_eq_true, Bool.not_eq_false] at hg15
      refine plain (y_move rfl rfl) rfl rfl rfl H32 ?_
      clear H32; intro a33 H33
      refine plain (y_move rfl rfl) rfl rfl rfl H33 ?_
      clear H33; intro a34 H34
      refine plain (y_slen rfl Tryd.underlying9 rfl) rfl rfl rfl H34 ?_
      clear H34; intro a35 H35
      refine plain (y_neq rfl rfl rfl) rfl rfl rfl H35 ?_
      clear H35; intro a36 H36
      refine plain (y_pick_f rfl rfl rfl) rfl rfl rfl H36 ?_
      clear H36; intro a37 H37
      refine plain (y_move rfl rfl) rfl rfl rfl H37 ?_
      clear H37; intro a38 H38
      refine Sx.part (d := 28) H38 rfl (fun hg39 => ?_) (fun hg39 => ?_)
      · first
        | fail
        | skip
          clear H38; intro H40
          try simp only [decide_eq_true_eq, decide_eq_false_iff_not, Bool.not_eq_true', Bool.not_eq_false', Bool.and_eq_true, Bool.not_eq_true, Bool.not_eq_false] at hg39
          refine skip rfl rfl rfl H40 ?_
          clear H40; intro a41 H41
          refine skip rfl rfl rfl H41 ?_
          clear H41; intro a42 H42
          refine skip rfl rfl rfl H42 ?_
          clear H42; intro a43 H43
          refine skip rfl rfl rfl H43 ?_
          clear H43; intro a44 H44
          refine skip rfl rfl rfl H44 ?_
          clear H44; intro a45 H45
          refine plain (y_pick_t rfl rfl rfl) rfl rfl rfl H45 ?_
          clear H45; intro a46 H46
          refine fin ?_
          refine then_n ?_
          refine cnd_t H46 rfl ?_
          refine wp_seq ?_
          refine reg ?_
          refine plain (y_assign rfl rfl) rfl rfl rfl H46 ?_
          clear H46; intro a48 H48
          refine plain (y_assign rfl rfl) rfl rfl rfl H48 ?_
          clear H48; intro a49 H49
          refine fin ?_
          refine then_n ?_
          refine wp_ret ?_
          refine then_r ?_
          -- return 2
          refine ret2 rfl H49 rfl rfl ?_
          refine ⟨_, _, rfl, ⟨_, [], rfl, _, rfl, .inr ⟨?_, rfl, rfl⟩⟩, H49.sep.sub (by first | exact S0 | exact S1 | repeat (first | exact S1 | exact S0 | apply S2 | apply S3))⟩
          exact Note.fields_bad (.inr (by assumption))
      · first
        | fail
        | skip
          clear H38; intro H50
          try simp only [decide_eq_true_eq, decide_eq_false_iff_not, Bool.not_eq_true', Bool.not_eq_false', Bool.and_eq_true, Bool.not_eq_true, Bool.not_eq_false] at hg39
          refine plain (y_move rfl rfl) rfl rfl rfl H50 ?_
          clear H50; intro a51 H51
          refine plain (y_len rfl Tryd.underlying49 rfl) rfl rfl rfl H51 ?_
          clear H51; intro a52 H52
          refine plain (y_move rfl rfl) rfl rfl rfl H52 ?_
          clear H52; intro a53 H53
          refine plain (y_len rfl Tryd.underlying90 rfl) rfl rfl rfl H53 ?_
          clear H53; intro a54 H54
          refine plain (y_lss rfl rfl rfl) rfl rfl rfl H54 ?_
          clear H54; intro a55 H55
          refine plain (y_pick_f rfl rfl rfl) rfl rfl rfl H55 ?_
          clear H55; intro a56 H56
          refine fin ?_
          refine then_n ?_
          refine cnd H56 rfl (fun hc57 => ?_) (fun hc57 => ?_) -- cond 3
          · skip
            try simp only [decide_eq_true_eq, decide_eq_false_iff_not, Bool.not_eq_true', Bool.not_eq_false', Bool.and_eq_true, Bool.not_eq_true, Bool.not_eq_false] at hc57
            refine wp_seq ?_
            refine reg ?_
            refine plain (y_assign rfl rfl) rfl rfl rfl H56 ?_
            clear H56; intro a58 H58
            refine plain (y_assign rfl rfl) rfl rfl rfl H58 ?_
            clear H58; intro a59 H59
            refine fin ?_
            refine then_n ?_
            refine wp_ret ?_
            refine then_r ?_
            -- return 3
            refine ret2 rfl H59 rfl rfl ?_
            refine ⟨_, _, rfl, ⟨_, [], rfl, _, rfl, .inr ⟨?_, rfl, rfl⟩⟩, H59.sep.sub (by first | exact S0 | exact S1 | repeat (first | exact S1 | exact S0 | apply S2 | apply S3))⟩
            exact Note.fields_short (Note.whole_ok (by omega) (by omega)) (by omega)
          · skip
            try simp only [decide_eq_true_eq, decide_eq_false_iff_not, Bool.not_eq_true', Bool.not_eq_false', Bool.and_eq_true, Bool.not_eq_true, Bool.not_eq_false] at hc57
            refine wp_skip ?_
            refine then_n ?_
            refine wp_seq ?_
            refine wp_seq ?_
            refine reg ?_
            refine plain (y_move rfl rfl) rfl rfl rfl H56 ?_
            clear H56; intro a60 H60
            refine plain (y_len rfl Tryd.underlying90 rfl) rfl rfl rfl H60 ?_
            clear H60; intro a61 H61
            refine plain (y_move rfl rfl) rfl rfl rfl H61 ?_
            clear H61; intro a62 H62
            refine fin ?_
            refine then_n ?_
            refine wp_block ?_
            have he : (Oct.rdl s 0).2.2 = 0 := by omega
            have hbl := Note.elem_le he
            have hwh := Note.whole_ok he (by omega)
            refine loop (ι := Nat) (fun i => [(0, str s), (1, .slice A k c), (6, .slice ArL (Oct.rdl s 0).1.length crL), (35, .slice A k c), (36, .int .i64 (k : Int)), (37, .int .i64 (i : Int))]) (fun i => [It.row 9 1 (.slice ArL (Oct.rdl s 0).1.length crL) (Oct.rdl s 0).1.length ((Oct.rdl s 0).1.map str), It.blk b E ((((Oct.rdl s 0).1.take i).map fun t => (Note.wn t).1).map i64 ++ cs.drop i)]) (fun i => i ≤ k ∧ (((Oct.rdl s 0).1.take i)).all Note.okn = true) (fun i => k - i) (0) ⟨Nat.zero_le _, rfl⟩ (H62.weak ⟨rfl, rfl, rfl, rfl, rfl, rfl, trivial⟩ rfl) ?_
            clear H62; intro i a63 wx63 hok63 H63
            have hok := hok63
            refine wp_seq ?_
            refine reg ?_
            refine plain (y_lss rfl rfl rfl) rfl rfl rfl H63 ?_
            clear H63; intro a64 H64
            refine fin ?_
            refine then_n ?_
            refine wp_seq ?_
            refine cnd H64 rfl (fun hc65 => ?_) (fun hc65 => ?_) -- cond 4
            · skip
              try simp only [decide_eq_true_eq, decide_eq_false_iff_not, Bool.not_eq_true', Bool.not_eq_false', Bool.and_eq_true, Bool.not_eq_true, Bool.not_eq_false] at hc65
              refine wp_skip ?_
              refine then_n ?_
              refine wp_seq ?_
              refine wp_block ?_
              refine wp_seq ?_
              refine reg ?_
              refine plain (y_move rfl rfl) rfl rfl rfl H64 ?_
              clear H64; intro a66 H66
              refine plain (y_ixR rfl Tryd.underlying90 z_size80 rfl rfl (by omega) (by omega) (rd_old hR (fun ad e h => hA ad e (List.mem_singleton.1 h))) (by rw [ptrs_len]; omega)) rfl rfl rfl H66 ?_
              clear H66; intro a67 H67
              refine plain (y_loadR rfl z_agg80 rfl (rd_old hR (fun ad e h => hA ad e (List.mem_singleton.1 h))) (show _ = some (.pointer (some ⟨b, i, none⟩)) by rw [show (i : Int).toNat * 1 = i by omega]; exact ptrs_get (by omega))) rfl rfl rfl H67 ?_
              clear H67; intro a68 H68
              refine plain (y_assign rfl rfl) rfl rfl rfl H68 ?_
              clear H68; intro a69 H69
              refine plain (y_assign rfl rfl) rfl rfl rfl H69 ?_
              clear H69; intro a70 H70
              refine fin ?_
              refine then_n ?_
              refine wp_seq ?_
              refine reg ?_
              refine plain (y_move rfl rfl) rfl rfl rfl H70 ?_
              clear H70; intro a71 H71
              refine plain (y_move rfl rfl) rfl rfl rfl H71 ?_
              clear H71; intro a72 H72
              refine plain (y_ixR rfl Tryd.underlying49 z_size9 rfl rfl (by omega) (by omega) (rd_row (by repeat (first | exact Mh | apply Mt))) (by rw [List.length_map]; omega)) rfl rfl rfl H72 ?_
              clear H72; intro a73 H73
              refine plain (y_loadR rfl z_agg9 rfl (rd_row (by repeat (first | exact Mh | apply Mt))) (by simp only [Int.toNat_natCast, Nat.mul_one, Nat.add_zero]; exact map_get _ _ _ [] (by omega))) rfl rfl rfl H73 ?_
              clear H73; intro a74 H74
              refine st_callg rfl z_call64 rfl rfl rfl rfl H74 (rnum _ 0 (by have := hbl ((((Oct.rdl s 0).1).getD i [])) (by rw [Oct.getD_eq [] (by omega)]; exact List.getElem_mem _); omega) (by omega) _) ?_
              clear H74; intro a75 wx75 H75
              refine plain (y_move rfl rfl) rfl rfl rfl H75 ?_
              clear H75; intro a76 H76
              refine plain (y_extract rfl rfl rfl) rfl rfl rfl H76 ?_
              clear H76; intro a77 H77
              refine plain (y_extract rfl rfl rfl) rfl rfl rfl H77 ?_
              clear H77; intro a78 H78
              refine plain (y_extract rfl rfl rfl) rfl rfl rfl H78 ?_
              clear H78; intro a79 H79
              refine plain (y_assign rfl rfl) rfl rfl rfl H79 ?_
              clear H79; intro a80 H80
              refine plain (y_assign rfl rfl) rfl rfl rfl H80 ?_
              clear H80; intro a81 H81
              refine plain (y_assign rfl rfl) rfl rfl rfl H81 ?_
              clear H81; intro a82 H82
              refine fin ?_
              refine then_n ?_
              refine wp_seq ?_
              refine wp_seq ?_
              refine reg ?_
              refine plain (y_move rfl rfl) rfl rfl rfl H82 ?_
              clear H82; intro a83 H83
              refine plain (y_neq rfl rfl rfl) rfl rfl rfl H83 ?_
              clear H83; intro a84 H84
              refine plain (y_move rfl rfl) rfl rfl rfl H84 ?_
              clear H84; intro a85 H85
              refine Sx.part (d := 53) H85 rfl (fun hg86 => ?_) (fun hg86 => ?_)
              · first
                | fail
                | skip
                  clear H85; intro H87
                  try simp only [decide_eq_true_eq, decide_eq_false_iff_not, Bool.not_eq_true', Bool.not_eq_false', Bool.and_eq_true, Bool.not_eq_true, Bool.not_eq_false] at hg86
                  refine skip rfl rfl rfl H87 ?_
                  clear H87; intro a88 H88
                  refine skip rfl rfl rfl H88 ?_
                  clear H88; intro a89 H89
                  refine skip rfl rfl rfl H89 ?_
                  clear H89; intro a90 H90
                  refine skip rfl rfl rfl H90 ?_
                  clear H90; intro a91 H91
                  refine skip rfl rfl rfl H91 ?_
                  clear H91; intro a92 H92
                  refine skip rfl rfl rfl H92 ?_
                  clear H92; intro a93 H93
                  refine skip rfl rfl rfl H93 ?_
                  clear H93; intro a94 H94
                  refine plain (y_pick_t rfl rfl rfl) rfl rfl rfl H94 ?_
                  clear H94; intro a95 H95
                  refine fin ?_
                  refine then_n ?_
                  refine cnd_t H95 rfl ?_
                  refine wp_seq ?_
                  refine reg ?_
                  refine plain (y_assign rfl rfl) rfl rfl rfl H95 ?_
                  clear H95; intro a97 H97
                  refine plain (y_assign rfl rfl) rfl rfl rfl H97 ?_
                  clear H97; intro a98 H98
                  refine fin ?_
                  refine then_n ?_
                  refine wp_ret ?_
                  refine then_r ?_
                  refine inb_r ?_
                  refine then_r ?_
                  refine then_r ?_
                  refine inb_r ?_
                  refine then_r ?_
                  -- return 4
                  refine ret2 rfl H98 rfl rfl ?_
                  refine ⟨_, _, rfl, ⟨_, [], rfl, _, rfl, .inr ⟨?_, rfl, rfl⟩⟩, H98.sep.sub (by first | exact S0 | exact S1 | repeat (first | exact S1 | exact S0 | apply S2 | apply S3))⟩
                  exact Note.fields_at hwh (by omega) (i := i) (by omega) (Note.okn_bad (.inl (by assumption)))
              · first
                | fail
                | skip
                  clear H85; intro H99
                  try simp only [decide_eq_true_eq, decide_eq_false_iff_not, Bool.not_eq_true', Bool.not_eq_false', Bool.and_eq_true, Bool.not_eq_true, Bool.not_eq_false] at hg86
                  refine plain (y_move rfl rfl) rfl rfl rfl H99 ?_
                  clear H99; intro a100 H100
                  refine plain (y_move rfl rfl) rfl rfl rfl H100 ?_
                  clear H100; intro a101 H101
                  refine plain (y_move rfl rfl) rfl rfl rfl H101 ?_
                  clear H101; intro a102 H102
                  refine plain (y_ixR rfl Tryd.underlying49 z_size9 rfl rfl (by omega) (by omega) (rd_row (by repeat (first | exact Mh | apply Mt))) (by rw [List.length_map]; omega)) rfl rfl rfl H102 ?_
                  clear H102; intro a103 H103
                  refine plain (y_loadR rfl z_agg9 rfl (rd_row (by repeat (first | exact Mh | apply Mt))) (by simp only [Int.toNat_natCast, Nat.mul_one, Nat.add_zero]; exact map_get _ _ _ [] (by omega))) rfl rfl rfl H103 ?_
                  clear H103; intro a104 H104
                  refine plain (y_slen rfl Tryd.underlying9 rfl) rfl rfl rfl H104 ?_
                  clear H104; intro a105 H105
                  refine plain (y_neq rfl rfl rfl) rfl rfl rfl H105 ?_
                  clear H105; intro a106 H106
                  refine plain (y_pick_f rfl rfl rfl) rfl rfl rfl H106 ?_
                  clear H106; intro a107 H107
                  refine fin ?_
                  refine then_n ?_
                  refine cnd H107 rfl (fun hc108 => ?_) (fun hc108 => ?_) -- cond 6
                  · skip
                    try simp only [decide_eq_true_eq, decide_eq_false_iff_not, Bool.not_eq_true', Bool.not_eq_false', Bool.and_eq_true, Bool.not_eq_true, Bool.not_eq_false] at hc108
                    refine wp_seq ?_
                    refine reg ?_
                    refine plain (y_assign rfl rfl) rfl rfl rfl H107 ?_
                    clear H107; intro a109 H109
                    refine plain (y_assign rfl rfl) rfl rfl rfl H109 ?_
                    clear H109; intro a110 H110
                    refine fin ?_
                    refine then_n ?_
                    refine wp_ret ?_
                    refine then_r ?_
                    refine inb_r ?_
                    refine then_r ?_
                    refine then_r ?_
                    refine inb_r ?_
                    refine then_r ?_
                    -- return 5
                    refine ret2 rfl H110 rfl rfl ?_
                    refine ⟨_, _, rfl, ⟨_, [], rfl, _, rfl, .inr ⟨?_, rfl, rfl⟩⟩, H110.sep.sub (by first | exact S0 | exact S1 | repeat (first | exact S1 | exact S0 | apply S2 | apply S3))⟩
                    exact Note.fields_at hwh (by omega) (i := i) (by omega) (Note.okn_bad (.inr (by assumption)))
                  · skip
                    try simp only [decide_eq_true_eq, decide_eq_false_iff_not, Bool.not_eq_true', Bool.not_eq_false', Bool.and_eq_true, Bool.not_eq_true, Bool.not_eq_false] at hc108
                    refine wp_skip ?_
                    refine then_n ?_
                    refine reg ?_
                    refine plain (y_move rfl rfl) rfl rfl rfl H107 ?_
                    clear H107; intro a111 H111
                    refine plain (y_move rfl rfl) rfl rfl rfl H111 ?_
                    clear H111; intro a112 H112
                    refine plain (y_nilCheck rfl rfl) rfl rfl rfl H112 ?_
                    clear H112; intro a113 H113
                    refine st_store1 rfl z_size3 rfl rfl rfl (by repeat (first | exact Uh | apply Ut)) (by first | decide | (simp; omega)) rfl rfl H113 ?_
                    clear H113; intro wx114 H114
                    refine fin ?_
                    refine inb_n ?_
                    refine then_n ?_
                    refine reg ?_
                    refine plain (y_add rfl rfl rfl (by first | exact w64 (by omega) (by omega) | rfl)) rfl rfl rfl H114 ?_
                    clear H114; intro a115 H115
                    refine plain (y_move rfl rfl) rfl rfl rfl H115 ?_
                    clear H115; intro a116 H116
                    refine fin ?_
                    refine then_n ?_
                    have hlt : i < (Oct.rdl s 0).1.length := by omega
                    refine ⟨i + 1, by omega, ⟨by omega, Note.take_all [] hlt hok.2 (Note.okn_good ?_ ?_)⟩, H116.weak ⟨rfl, rfl, rfl, rfl, rfl, fi rfl (by omega), trivial⟩ (ir2 rfl rfl (ib2 (Note.set_take _ _ _ _ hlt (by omega) ?_) rfl))⟩
                    · omega
                    · omega
                    · rw [Note.wn_good (by omega) (by omega)]
            · skip
              try simp only [decide_eq_true_eq, decide_eq_false_iff_not, Bool.not_eq_true', Bool.not_eq_false', Bool.and_eq_true, Bool.not_eq_true, Bool.not_eq_false] at hc65
              refine wp_exit ?_
              refine then_x ?_
              refine then_x ?_
              refine inb_hit ?_
              refine then_n ?_
              refine wp_seq ?_
              refine reg ?_
              refine plain (y_move rfl rfl) rfl rfl rfl H64 ?_
              clear H64; intro a117 H117
              refine plain (y_move rfl rfl) rfl rfl rfl H117 ?_
              clear H117; intro a118 H118
              refine plain (y_len rfl Tryd.underlying90 rfl) rfl rfl rfl H118 ?_
              clear H118; intro a119 H119
              refine plain (y_slS_lo rfl Tryd.underlying49 z_size9 rfl rfl (by omega) (by omega)) rfl rfl rfl H119 ?_
              clear H119; intro a120 H120
              refine plain (y_assign rfl rfl) rfl rfl rfl H120 ?_
              clear H120; intro a121 H121
              refine plain (y_assign rfl rfl) rfl rfl rfl H121 ?_
              clear H121; intro a122 H122
              refine fin ?_
              refine then_n ?_
              refine wp_ret ?_
              -- return 6
              refine ret2 rfl H122 rfl rfl ?_
              have hik : i = k := by omega
              subst hik
              refine ⟨_, _, rfl, ⟨_, _, rfl, _, rfl, .inl ⟨_, _, _, _, Note.fields_ok hwh (by omega) hok.2, rfl, by simp; omega, rfl, by omega, hrlen, hcap, rfl, ?_, hbl⟩⟩, H122.sep.perm (List.Perm.swap _ _ _)⟩
              intro x hx
              obtain ⟨t, _, rfl⟩ := List.mem_map.1 hx
              exact Note.wn_ge t

end Go.Proofs.YtnnhnnhdoipbaaaDoor.N_Fields

set_option linter.unusedVariables false
set_option linter.unusedSimpArgs false
namespace Go.Proofs.YtnnhnnhdoipbaaaDoor.N_RRec
open Go.Sx Go.RowKit Go.Proofs.YtnnhnnhdoipbaaaDoor.N_Block Go.Proofs.YtnnhnnhdoipbaaaDoor.N_Sum Go.Proofs.YtnnhnnhdoipbaaaDoor.N_Ref Go.Proofs.YtnnhnnhdoipbaaaDoor.N_RSum Go.Proofs.YtnnhnnhdoipbaaaDoor.N_Leaf Go.Proofs.YtnnhnnhdoipbaaaDoor.N_Num Go.Proofs.YtnnhnnhdoipbaaaDoor.N_Key Go.Proofs.YtnnhnnhdoipbaaaDoor.N_Lay Go.Proofs.YtnnhnnhdoipbaaaDoor.N_Read Go.Proofs.YtnnhnnhdoipbaaaDoor.N_Fields Go.Proofs.YtnnhnnhdoipbaaaDoor.N_Rec

theorem z_zeroN35 : zeroL Tryd.prog 35 = some ((.int .i64 0 :: (.int .i64 0 :: (.int .i64 0 :: (.string ⟨#[]⟩ :: ((List.replicate 32 (0 : UInt8)).map u8 ++ (List.replicate 32 (0 : UInt8)).map u8)))))) := by kernel_rfl
theorem z_field35_0 : fieldB Tryd.prog 35 0 = some 0 := by kernel_rfl
theorem z_field35_1 : fieldB Tryd.prog 35 1 = some 1 := by kernel_rfl
theorem z_field35_2 : fieldB Tryd.prog 35 2 = some 2 := by kernel_rfl
theorem z_size80 : sizeB Tryd.prog 80 = some 1 := by kernel_rfl
theorem z_zero80 : zeroL Tryd.prog 80 = some ([.pointer none]) := by kernel_rfl
theorem z_call51 : callB Tryd.prog 51 = true := by kernel_rfl
theorem z_places35 : placesB Tryd.prog 35 = some [(0, 1), (1, 1), (2, 1), (3, 1), (4, 32), (36, 32)] := by kernel_rfl
theorem z_size35 : sizeB Tryd.prog 35 = some 68 := by kernel_rfl
theorem q_one_c4b32b32 {a0 a1 a2 a3 : Value} {t4 t5 : List UInt8} (o0 : a0.oneCell' = true) (o1 : a1.oneCell' = true) (o2 : a2.oneCell' = true) (o3 : a3.oneCell' = true) : (a0 :: a1 :: a2 :: a3 :: (t4.map u8 ++ (t5.map u8))).all (·.oneCell') = true := (one_c o0 (one_c o1 (one_c o2 (one_c o3 (one_b (one_u8 _))))))
theorem q_len_c4b32b32 {a0 a1 a2 a3 : Value} {t4 t5 : List UInt8} (h4 : t4.length = 32) (h5 : t5.length = 32) : (a0 :: a1 :: a2 :: a3 :: (t4.map u8 ++ (t5.map u8))).length = 68 := (len_c (n := 67) (len_c (n := 66) (len_c (n := 65) (len_c (n := 64) (len_b (k := 32) (n := 32) h4 (len_e (k := 32) h5))))))
theorem q_spl_c4b32b32_0_c4b32b32 {a0 a1 a2 a3 : Value} {t4 t5 : List UInt8} {b0 b1 b2 b3 : Value} {s4 s5 : List UInt8} (h4 : t4.length = 32) (h5 : t5.length = 32) (g4 : s4.length = 32) (g5 : s5.length = 32) : spl (a0 :: a1 :: a2 :: a3 :: (t4.map u8 ++ (t5.map u8))) 0 (b0 :: b1 :: b2 :: b3 :: (s4.map u8 ++ (s5.map u8))) = b0 :: b1 :: b2 :: b3 :: (s4.map u8 ++ (s5.map u8)) := (spl_a (z := 68) (len_c (n := 67) (len_c (n := 66) (len_c (n := 65) (len_c (n := 64) (len_b (k := 32) (n := 32) h4 (len_e (k := 32) h5)))))) (len_c (n := 67) (len_c (n := 66) (len_c (n := 65) (len_c (n := 64) (len_b (k := 32) (n := 32) g4 (len_e (k := 32) g5)))))))
theorem z_agg35 : aggB Tryd.prog 35 = some true := by kernel_rfl
theorem z_size9 : sizeB Tryd.prog 9 = some 1 := by kernel_rfl
theorem z_agg9 : aggB Tryd.prog 9 = some false := by kernel_rfl
theorem z_agg23 : aggB Tryd.prog 23 = some true := by kernel_rfl
theorem z_size23 : sizeB Tryd.prog 23 = some 32 := by kernel_rfl
theorem z_field35_3 : fieldB Tryd.prog 35 3 = some 3 := by kernel_rfl
theorem z_field35_4 : fieldB Tryd.prog 35 4 = some 4 := by kernel_rfl
theorem q_one_b32 {t0 : List UInt8} : (t0.map u8).all (·.oneCell') = true := (one_u8 _)
theorem q_len_b32 {t0 : List UInt8} (h0 : t0.length = 32) : (t0.map u8).length = 32 := (len_e (k := 32) h0)
theorem q_spl_c4b32b32_4_b32 {a0 a1 a2 a3 : Value} {t4 t5 : List UInt8} {s0 : List UInt8} (h4 : t4.length = 32) (g0 : s0.length = 32) : spl (a0 :: a1 :: a2 :: a3 :: (t4.map u8 ++ (t5.map u8))) 4 (s0.map u8) = a0 :: a1 :: a2 :: a3 :: (s0.map u8 ++ (t5.map u8)) := (spl_c (o := 3) (spl_c (o := 2) (spl_c (o := 1) (spl_c (o := 0) (spl_h (z := 32) (len_e h4) (len_e g0))))))
theorem z_field35_5 : fieldB Tryd.prog 35 5 = some 36 := by kernel_rfl
theorem q_spl_c4b32b32_36_b32 {a0 a1 a2 a3 : Value} {t4 t5 : List UInt8} {s0 : List UInt8} (h4 : t4.length = 32) (h5 : t5.length = 32) (g0 : s0.length = 32) : spl (a0 :: a1 :: a2 :: a3 :: (t4.map u8 ++ (t5.map u8))) 36 (s0.map u8) = a0 :: a1 :: a2 :: a3 :: (t4.map u8 ++ (s0.map u8)) := (spl_c (o := 35) (spl_c (o := 34) (spl_c (o := 33) (spl_c (o := 32) (spl_b (k := 32) (o := 0) h4 rfl (spl_a (z := 32) (len_e (k := 32) h5) (len_e (k := 32) g0)))))))
theorem q_ld_c4b32b32_0_68 {a0 a1 a2 a3 : Value} {t4 t5 : List UInt8} (h4 : t4.length = 32) (h5 : t5.length = 32) : ((a0 :: a1 :: a2 :: a3 :: (t4.map u8 ++ (t5.map u8))).drop 0).take 68 = a0 :: a1 :: a2 :: a3 :: (t4.map u8 ++ (t5.map u8)) := (ld_a (len_c (n := 67) (len_c (n := 66) (len_c (n := 65) (len_c (n := 64) (len_b (k := 32) (n := 32) h4 (len_e (k := 32) h5)))))))
theorem z_call43 : callB Tryd.prog 43 = true := by kernel_rfl
theorem z_call44 : callB Tryd.prog 44 = true := by kernel_rfl
theorem q_ld_c4b32b32_36_32 {a0 a1 a2 a3 : Value} {t4 t5 : List UInt8} (h4 : t4.length = 32) (h5 : t5.length = 32) : ((a0 :: a1 :: a2 :: a3 :: (t4.map u8 ++ (t5.map u8))).drop 36).take 32 = t5.map u8 := (ld_c (o := 35) (ld_c (o := 34) (ld_c (o := 33) (ld_c (o := 32) (ld_b (k := 32) (o := 0) h4 rfl (ld_a (len_e (k := 32) h5)))))))
theorem z_size5 : sizeB Tryd.prog 5 = some 1 := by kernel_rfl

end Go.Proofs.YtnnhnnhdoipbaaaDoor.N_RRec

set_option linter.unusedVariables false
set_option linter.unusedSimpArgs false
namespace Go.Proofs.YtnnhnnhdoipbaaaDoor.N_RBid
open Go.Sx Go.RowKit Go.Proofs.YtnnhnnhdoipbaaaDoor.N_Num Go.Proofs.YtnnhnnhdoipbaaaDoor.N_Read Go.Proofs.YtnnhnnhdoipbaaaDoor.N_Lay Go.Proofs.YtnnhnnhdoipbaaaDoor.N_Fields

theorem z_zeroN25 : zeroL Tryd.prog 25 = some ((.int .i64 0 :: (.int .i64 0 :: (.int .i64 0 :: (.int .i64 0 :: (List.replicate 32 (0 : UInt8)).map u8))))) := by kernel_rfl
theorem z_field25_0 : fieldB Tryd.prog 25 0 = some 0 := by kernel_rfl
theorem z_field25_1 : fieldB Tryd.prog 25 1 = some 1 := by kernel_rfl
theorem z_field25_2 : fieldB Tryd.prog 25 2 = some 2 := by kernel_rfl
theorem z_field25_3 : fieldB Tryd.prog 25 3 = some 3 := by kernel_rfl
theorem z_size80 : sizeB Tryd.prog 80 = some 1 := by kernel_rfl
theorem z_zero80 : zeroL Tryd.prog 80 = some ([.pointer none]) := by kernel_rfl
theorem z_call51 : callB Tryd.prog 51 = true := by kernel_rfl
theorem z_places25 : placesB Tryd.prog 25 = some [(0, 1), (1, 1), (2, 1), (3, 1), (4, 32)] := by kernel_rfl
theorem z_size25 : sizeB Tryd.prog 25 = some 36 := by kernel_rfl
theorem q_one_c4b32 {a0 a1 a2 a3 : Value} {t4 : List UInt8} (o0 : a0.oneCell' = true) (o1 : a1.oneCell' = true) (o2 : a2.oneCell' = true) (o3 : a3.oneCell' = true) : (a0 :: a1 :: a2 :: a3 :: t4.map u8).all (·.oneCell') = true := (one_c o0 (one_c o1 (one_c o2 (one_c o3 (one_u8 _)))))
theorem q_len_c4b32 {a0 a1 a2 a3 : Value} {t4 : List UInt8} (h4 : t4.length = 32) : (a0 :: a1 :: a2 :: a3 :: t4.map u8).length = 36 := (len_c (n := 35) (len_c (n := 34) (len_c (n := 33) (len_c (n := 32) (len_e (k := 32) h4)))))
theorem q_spl_c4b32_0_c4b32 {a0 a1 a2 a3 : Value} {t4 : List UInt8} {b0 b1 b2 b3 : Value} {s4 : List UInt8} (h4 : t4.length = 32) (g4 : s4.length = 32) : spl (a0 :: a1 :: a2 :: a3 :: t4.map u8) 0 (b0 :: b1 :: b2 :: b3 :: s4.map u8) = b0 :: b1 :: b2 :: b3 :: s4.map u8 := (spl_a (z := 36) (len_c (n := 35) (len_c (n := 34) (len_c (n := 33) (len_c (n := 32) (len_e (k := 32) h4))))) (len_c (n := 35) (len_c (n := 34) (len_c (n := 33) (len_c (n := 32) (len_e (k := 32) g4))))))
theorem z_agg25 : aggB Tryd.prog 25 = some true := by kernel_rfl
theorem z_size9 : sizeB Tryd.prog 9 = some 1 := by kernel_rfl
theorem z_agg9 : aggB Tryd.prog 9 = some false := by kernel_rfl
theorem q_ld_c4b32_0_36 {a0 a1 a2 a3 : Value} {t4 : List UInt8} (h4 : t4.length = 32) : ((a0 :: a1 :: a2 :: a3 :: t4.map u8).drop 0).take 36 = a0 :: a1 :: a2 :: a3 :: t4.map u8 := (ld_a (len_c (n := 35) (len_c (n := 34) (len_c (n := 33) (len_c (n := 32) (len_e (k := 32) h4))))))
theorem z_call34 : callB Tryd.prog 34 = true := by kernel_rfl
theorem z_agg23 : aggB Tryd.prog 23 = some true := by kernel_rfl
theorem z_size23 : sizeB Tryd.prog 23 = some 32 := by kernel_rfl
theorem z_field25_4 : fieldB Tryd.prog 25 4 = some 4 := by kernel_rfl
theorem q_one_b32 {t0 : List UInt8} : (t0.map u8).all (·.oneCell') = true := (one_u8 _)
theorem q_len_b32 {t0 : List UInt8} (h0 : t0.length = 32) : (t0.map u8).length = 32 := (len_e (k := 32) h0)
theorem q_spl_c4b32_4_b32 {a0 a1 a2 a3 : Value} {t4 : List UInt8} {s0 : List UInt8} (h4 : t4.length = 32) (g0 : s0.length = 32) : spl (a0 :: a1 :: a2 :: a3 :: t4.map u8) 4 (s0.map u8) = a0 :: a1 :: a2 :: a3 :: s0.map u8 := (spl_c (o := 3) (spl_c (o := 2) (spl_c (o := 1) (spl_c (o := 0) (spl_a (z := 32) (len_e (k := 32) h4) (len_e (k := 32) g0))))))

set_option maxRecDepth 100000 in
set_option maxHeartbeats 2000000 in
theorem nreadbid (s : List UInt8) (hs : s.length ≤ 140737488351232) {w : World}  : Calls Tryd.prog 26 #[str s] w (Gives (.tuple #[.agg (Note.Bid.cells (Note.readBid s).1).toArray, .int .i64 (Note.readBid s).2]) [] w) := by
  have lz32 : (List.replicate 32 (0 : UInt8)).length = 32 := List.length_replicate
  refine enterL (args := [str s]) Tryd.func26 rfl rfl (l := []) (Sep.refl _) ?_
  intro a0 H0
  refine wp_seq ?_
  refine reg ?_
  refine st_alloc rfl z_zeroN25 rfl rfl rfl H0 ?_
  clear H0; intro b1 a1 wx1 H1
  refine plain (y_assign rfl rfl) rfl rfl rfl H1 ?_
  clear H1; intro a2 H2
  refine fin ?_
  refine then_n ?_
  refine wp_seq ?_
  refine reg ?_
  refine st_alloc rfl z_zeroN25 rfl rfl rfl H2 ?_
  clear H2; intro b3 a3 wx3 H3
  refine fin ?_
  refine then_n ?_
  refine wp_seq ?_
  refine reg ?_
  refine plain (y_move rfl rfl) rfl rfl rfl H3 ?_
  clear H3; intro a4 H4
  refine plain (y_fieldB rfl z_field25_0 rfl (by first | (simp only [Nat.zero_add, Nat.add_zero, Nat.reduceAdd]; rfl) | rfl)) rfl rfl rfl H4 ?_
  clear H4; intro a5 H5
  refine plain (y_fieldB rfl z_field25_1 rfl (by first | (simp only [Nat.zero_add, Nat.add_zero, Nat.reduceAdd]; rfl) | rfl)) rfl rfl rfl H5 ?_
  clear H5; intro a6 H6
  refine plain (y_fieldB rfl z_field25_2 rfl (by first | (simp only [Nat.zero_add, Nat.add_zero, Nat.reduceAdd]; rfl) | rfl)) rfl rfl rfl H6 ?_
  clear H6; intro a7 H7
  refine plain (y_fieldB rfl z_field25_3 rfl (by first | (simp only [Nat.zero_add, Nat.add_zero, Nat.reduceAdd]; rfl) | rfl)) rfl rfl rfl H7 ?_
  clear H7; intro a8 H8
  refine st_buildSlice1 (xs := [.tmp 9, .tmp 10, .tmp 11, .tmp 12]) rfl Tryd.underlying90 z_size80 z_zero80 rfl rfl rfl rfl rfl rfl rfl rfl rfl H8 ?_
  clear H8; intro b9 a9 wx9 H9
  refine st_callw (i := It.blk b3 25 _) rfl z_call51 rfl rfl rfl rfl H9 (fun _ => (by repeat (first | exact Uh | apply Ut))) (nfields s (by omega) b3 25 (Note.Bid.cells Note.Bid.zero) 4 (by decide) (by decide) _ _ (H9.sep.all _ (by repeat (first | exact Mh | apply Mt))) (Rd.ofSep (rd_blkA (by repeat (first | exact Mh | apply Mt))) H9.sep) (by intro ad e; injection e with e; subst e; exact fun h => (blk_row_ne H9.sep (by first | exact S0 | exact S1 | repeat (first | exact S1 | exact S0 | apply S2 | apply S3))) h)) ?_
  clear H9; intro v10 i10 R10 a10 wx10 hf10 H10
  obtain ⟨cs', rfl, hf10⟩ := hf10
  rcases hf10 with ⟨ns, A', c', L, hfs, rfl, hnl, rfl, hkL, hLx, hLc, rfl, hnr, hLb⟩ | ⟨hfs, rfl, rfl⟩
  · skip
    obtain ⟨n0, n1, n2, n3, rfl⟩ := Note.four hnl
    simp only [List.cons_append, List.nil_append] at H10
    refine plain (y_move rfl rfl) rfl rfl rfl H10 ?_
    clear H10; intro a11 H11
    refine plain (y_extract rfl rfl rfl) rfl rfl rfl H11 ?_
    clear H11; intro a12 H12
    refine plain (y_extract rfl rfl rfl) rfl rfl rfl H12 ?_
    clear H12; intro a13 H13
    refine plain (y_assign rfl rfl) rfl rfl rfl H13 ?_
    clear H13; intro a14 H14
    refine plain (y_assign rfl rfl) rfl rfl rfl H14 ?_
    clear H14; intro a15 H15
    refine fin ?_
    refine then_n ?_
    refine wp_seq ?_
    refine wp_seq ?_
    refine reg ?_
    refine plain (y_move rfl rfl) rfl rfl rfl H15 ?_
    clear H15; intro a16 H16
    refine plain (y_not rfl rfl) rfl rfl rfl H16 ?_
    clear H16; intro a17 H17
    refine plain (y_move rfl rfl) rfl rfl rfl H17 ?_
    clear H17; intro a18 H18
    refine plain (y_move rfl rfl) rfl rfl rfl H18 ?_
    clear H18; intro a19 H19
    refine plain (y_len rfl Tryd.underlying49 rfl) rfl rfl rfl H19 ?_
    clear H19; intro a20 H20
    refine plain (y_neq rfl rfl rfl) rfl rfl rfl H20 ?_
    clear H20; intro a21 H21
    refine plain (y_pick_f rfl rfl rfl) rfl rfl rfl H21 ?_
    clear H21; intro a22 H22
    refine plain (y_move rfl rfl) rfl rfl rfl H22 ?_
    clear H22; intro a23 H23
    refine Sx.part (d := 24) H23 rfl (fun hg24 => ?_) (fun hg24 => ?_)
    · first
      | fail
      | skip
        clear H23; intro H25
        try simp only [decide_eq_true_eq, decide_eq_false_iff_not, Bool.not_eq_true', Bool.not_eq_false', Bool.and_eq_true, Bool.not_eq_true, Bool.not_eq_false] at hg24
        refine skip rfl rfl rfl H25 ?_
        clear H25; intro a26 H26
        refine skip rfl rfl rfl H26 ?_
        clear H26; intro a27 H27
        refine skip rfl rfl rfl H27 ?_
        clear H27; intro a28 H28
        refine skip rfl rfl rfl H28 ?_
        clear H28; intro a29 H29
        refine skip rfl rfl rfl H29 ?_
        clear H29; intro a30 H30
        refine plain (y_pick_t rfl rfl rfl) rfl rfl rfl H30 ?_
        clear H30; intro a31 H31
        refine plain (y_move rfl rfl) rfl rfl rfl H31 ?_
        clear H31; intro a32 H32
        refine skip rfl rfl rfl H32 ?_
        clear H32; intro a33 H33
        refine skip rfl rfl rfl H33 ?_
        clear H33; intro a34 H34
        refine skip rfl rfl rfl H34 ?_
        clear H34; intro a35 H35
        refine plain (y_pick_t rfl rfl rfl) rfl rfl rfl H35 ?_
        clear H35; intro a36 H36
        refine fin ?_
        refine then_n ?_
        refine cnd_t H36 rfl ?_
        refine wp_seq ?_
        refine reg ?_
        refine plain (y_build rfl z_zeroN25 z_places25 rfl lay_n) rfl rfl rfl H36 ?_
        clear H36; intro a38 H38
        refine st_storeN rfl z_size25 rfl rfl (agg_cells _) (by repeat (first | exact Uh | apply Ut)) (q_one_c4b32 rfl rfl rfl rfl) (q_len_c4b32 (by assumption)) (q_len_c4b32 (by assumption)) (q_spl_c4b32_0_c4b32 (by assumption) (by assumption)) (by decide) rfl rfl H38 ?_
        clear H38; intro wx39 H39
        refine plain (y_assign rfl rfl) rfl rfl rfl H39 ?_
        clear H39; intro a40 H40
        refine fin ?_
        refine then_n ?_
        refine wp_ret ?_
        refine then_r ?_
        -- return 1
        refine retct rfl H40 rfl z_agg25 z_size25 (by repeat (first | exact Mh | apply Mt)) (q_len_c4b32 (by assumption)) rfl ?_
        refine ⟨_, [], rfl, ⟨?_, rfl⟩, H40.sep.sub (List.nil_sublist _)⟩
        first | (rw [Note.readBid_none hfs]; rfl) | (rw [Note.readBid_bad hfs (by rintro ⟨h1, h2, h3⟩; simp only [List.length_drop] at h1; first | omega | (have h4 : (⟨n0, n1, n2, n3, Note.Z⟩ : Note.Bid).ok = true := h3; simp_all; done))]; rfl) | (rw [Note.readBid_good hfs ⟨by simp only [List.length_drop]; omega, by omega, (show (⟨n0, n1, n2, n3, Note.Z⟩ : Note.Bid).ok = true by assumption)⟩]; rfl)
    · first
      | fail
      | skip
        clear H23; intro H41
        try simp only [decide_eq_true_eq, decide_eq_false_iff_not, Bool.not_eq_true', Bool.not_eq_false', Bool.and_eq_true, Bool.not_eq_true, Bool.not_eq_false] at hg24
        refine plain (y_move rfl rfl) rfl rfl rfl H41 ?_
        clear H41; intro a42 H42
        refine plain (y_ixR rfl Tryd.underlying49 z_size9 rfl rfl (by omega) (by omega) (fun w hs => (rd_row (by repeat (first | exact Mh | apply Mt)) w hs).drop 4 (c' = 4) (fun h => by rw [List.length_map]; omega)) (by rw [List.length_drop, List.length_map]; omega)) rfl rfl rfl H42 ?_
        clear H42; intro a43 H43
        refine plain (y_loadR rfl z_agg9 rfl (fun w hs => (rd_row (by repeat (first | exact Mh | apply Mt)) w hs).drop 4 (c' = 4) (fun h => by rw [List.length_map]; omega)) (Note.rest_get 4 0 (by omega))) rfl rfl rfl H43 ?_
        clear H43; intro a44 H44
        refine plain (y_slen rfl Tryd.underlying9 rfl) rfl rfl rfl H44 ?_
        clear H44; intro a45 H45
        refine plain (y_neq rfl rfl rfl) rfl rfl rfl H45 ?_
        clear H45; intro a46 H46
        refine plain (y_pick_f rfl rfl rfl) rfl rfl rfl H46 ?_
        clear H46; intro a47 H47
        refine plain (y_move rfl rfl) rfl rfl rfl H47 ?_
        clear H47; intro a48 H48
        refine Sx.part (d := 31) H48 rfl (fun hg49 => ?_) (fun hg49 => ?_)
        · first
          | fail
          | skip
            clear H48; intro H50
            try simp only [decide_eq_true_eq, decide_eq_false_iff_not, Bool.not_eq_true', Bool.not_eq_false', Bool.and_eq_true, Bool.not_eq_true, Bool.not_eq_false] at hg49
            refine skip rfl rfl rfl H50 ?_
            clear H50; intro a51 H51
            refine skip rfl rfl rfl H51 ?_
            clear H51; intro a52 H52
            refine skip rfl rfl rfl H52 ?_
            clear H52; intro a53 H53
            refine plain (y_pick_t rfl rfl rfl) rfl rfl rfl H53 ?_
            clear H53; intro a54 H54
            refine fin ?_
            refine then_n ?_
            refine cnd_t H54 rfl ?_
            refine wp_seq ?_
            refine reg ?_
            refine plain (y_build rfl z_zeroN25 z_places25 rfl lay_n) rfl rfl rfl H54 ?_
            clear H54; intro a56 H56
            refine st_storeN rfl z_size25 rfl rfl (agg_cells _) (by repeat (first | exact Uh | apply Ut)) (q_one_c4b32 rfl rfl rfl rfl) (q_len_c4b32 (by assumption)) (q_len_c4b32 (by assumption)) (q_spl_c4b32_0_c4b32 (by assumption) (by assumption)) (by decide) rfl rfl H56 ?_
            clear H56; intro wx57 H57
            refine plain (y_assign rfl rfl) rfl rfl rfl H57 ?_
            clear H57; intro a58 H58
            refine fin ?_
            refine then_n ?_
            refine wp_ret ?_
            refine then_r ?_
            -- return 2
            refine retct rfl H58 rfl z_agg25 z_size25 (by repeat (first | exact Mh | apply Mt)) (q_len_c4b32 (by assumption)) rfl ?_
            refine ⟨_, [], rfl, ⟨?_, rfl⟩, H58.sep.sub (List.nil_sublist _)⟩
            first | (rw [Note.readBid_none hfs]; rfl) | (rw [Note.readBid_bad hfs (by rintro ⟨h1, h2, h3⟩; simp only [List.length_drop] at h1; first | omega | (have h4 : (⟨n0, n1, n2, n3, Note.Z⟩ : Note.Bid).ok = true := h3; simp_all; done))]; rfl) | (rw [Note.readBid_good hfs ⟨by simp only [List.length_drop]; omega, by omega, (show (⟨n0, n1, n2, n3, Note.Z⟩ : Note.Bid).ok = true by assumption)⟩]; rfl)
        · first
          | fail
          | skip
            clear H48; intro H59
            try simp only [decide_eq_true_eq, decide_eq_false_iff_not, Bool.not_eq_true', Bool.not_eq_false', Bool.and_eq_true, Bool.not_eq_true, Bool.not_eq_false] at hg49
            refine plain (y_loadAB rfl z_agg25 z_size25 rfl (by repeat (first | exact Mh | apply Mt)) (q_ld_c4b32_0_36 (by assumption)) (q_len_c4b32 (by assumption))) rfl rfl rfl H59 ?_
            clear H59; intro a60 H60
            refine st_callg rfl z_call34 rfl rfl rfl rfl H60 (nbid (⟨n0, n1, n2, n3, Note.Z⟩ : Note.Bid) (Note.wf4 hnr rfl) _) ?_
            clear H60; intro a61 wx61 H61
            refine plain ((by first | exact y_not_d rfl rfl | exact y_not rfl rfl)) rfl rfl rfl H61 ?_
            clear H61; intro a62 H62
            refine plain (y_pick_f rfl rfl rfl) rfl rfl rfl H62 ?_
            clear H62; intro a63 H63
            refine fin ?_
            refine then_n ?_
            refine cnd H63 rfl (fun hc64 => ?_) (fun hc64 => ?_) -- cond 3
            · skip
              try simp only [decide_eq_true_eq, decide_eq_false_iff_not, Bool.not_eq_true', Bool.not_eq_false', Bool.and_eq_true, Bool.not_eq_true, Bool.not_eq_false] at hc64
              refine wp_seq ?_
              refine reg ?_
              refine plain (y_build rfl z_zeroN25 z_places25 rfl lay_n) rfl rfl rfl H63 ?_
              clear H63; intro a65 H65
              refine st_storeN rfl z_size25 rfl rfl (agg_cells _) (by repeat (first | exact Uh | apply Ut)) (q_one_c4b32 rfl rfl rfl rfl) (q_len_c4b32 (by assumption)) (q_len_c4b32 (by assumption)) (q_spl_c4b32_0_c4b32 (by assumption) (by assumption)) (by decide) rfl rfl H65 ?_
              clear H65; intro wx66 H66
              refine plain (y_assign rfl rfl) rfl rfl rfl H66 ?_
              clear H66; intro a67 H67
              refine fin ?_
              refine then_n ?_
              refine wp_ret ?_
              refine then_r ?_
              -- return 3
              refine retct rfl H67 rfl z_agg25 z_size25 (by repeat (first | exact Mh | apply Mt)) (q_len_c4b32 (by assumption)) rfl ?_
              refine ⟨_, [], rfl, ⟨?_, rfl⟩, H67.sep.sub (List.nil_sublist _)⟩
              first | (rw [Note.readBid_none hfs]; rfl) | (rw [Note.readBid_bad hfs (by rintro ⟨h1, h2, h3⟩; simp only [List.length_drop] at h1; first | omega | (have h4 : (⟨n0, n1, n2, n3, Note.Z⟩ : Note.Bid).ok = true := h3; simp_all; done))]; rfl) | (rw [Note.readBid_good hfs ⟨by simp only [List.length_drop]; omega, by omega, (show (⟨n0, n1, n2, n3, Note.Z⟩ : Note.Bid).ok = true by assumption)⟩]; rfl)
            · skip
              try simp only [decide_eq_true_eq, decide_eq_false_iff_not, Bool.not_eq_true', Bool.not_eq_false', Bool.and_eq_true, Bool.not_eq_true, Bool.not_eq_false] at hc64
              refine wp_skip ?_
              refine then_n ?_
              refine wp_seq ?_
              refine reg ?_
              refine plain (y_move rfl rfl) rfl rfl rfl H63 ?_
              clear H63; intro a68 H68
              refine plain (y_ixR rfl Tryd.underlying49 z_size9 rfl rfl (by omega) (by omega) (fun w hs => (rd_row (by repeat (first | exact Mh | apply Mt)) w hs).drop 4 (c' = 4) (fun h => by rw [List.length_map]; omega)) (by rw [List.length_drop, List.length_map]; omega)) rfl rfl rfl H68 ?_
              clear H68; intro a69 H69
              refine plain (y_loadR rfl z_agg9 rfl (fun w hs => (rd_row (by repeat (first | exact Mh | apply Mt)) w hs).drop 4 (c' = 4) (fun h => by rw [List.length_map]; omega)) (Note.rest_get 4 0 (by omega))) rfl rfl rfl H69 ?_
              clear H69; intro a70 H70
              have hl32 : ((L.drop 4).getD 0 []).length = 32 := by omega
              refine st_strb rfl Tryd.underlying9 Tryd.underlying64 Tryd.underlying5 rfl (by unfold maxLen; omega) rfl rfl rfl H70 ?_
              clear H70; intro v71 a71 wx71 H71
              obtain ⟨Ar71, cr71, hvr71, hRr71, hmr71⟩ := row_shape (v := v71) H71.sep (by repeat (first | exact Mh | apply Mt))
              subst hvr71
              refine plain (y_s2a rfl Tryd.underlying23 rfl (by omega)) rfl rfl rfl H71 ?_
              clear H71; intro a72 H72
              refine plain (y_loadAP rfl z_agg23 z_size23 rfl (rd_row (by repeat (first | exact Mh | apply Mt))) (List.take_of_length_le (by rw [List.length_map]; omega)) (len_e (by assumption)) (by decide)) rfl rfl rfl H72 ?_
              clear H72; intro a73 H73
              refine plain (y_fieldB rfl z_field25_4 rfl (by first | (simp only [Nat.zero_add, Nat.add_zero, Nat.reduceAdd]; rfl) | rfl)) rfl rfl rfl H73 ?_
              clear H73; intro a74 H74
              refine st_storeN rfl z_size23 rfl rfl (agg_cells _) (by repeat (first | exact Uh | apply Ut)) q_one_b32 (q_len_b32 (by assumption)) (q_len_c4b32 (by assumption)) (q_spl_c4b32_4_b32 (by assumption) (by assumption)) (by decide) rfl rfl H74 ?_
              clear H74; intro wx75 H75
              refine fin ?_
              refine then_n ?_
              refine wp_seq ?_
              refine reg ?_
              refine plain (y_loadAB rfl z_agg25 z_size25 rfl (by repeat (first | exact Mh | apply Mt)) (q_ld_c4b32_0_36 (by assumption)) (q_len_c4b32 (by assumption))) rfl rfl rfl H75 ?_
              clear H75; intro a76 H76
              refine st_storeN rfl z_size25 rfl rfl (agg_cells _) (by repeat (first | exact Uh | apply Ut)) (q_one_c4b32 rfl rfl rfl rfl) (q_len_c4b32 (by assumption)) (q_len_c4b32 (by assumption)) (q_spl_c4b32_0_c4b32 (by assumption) (by assumption)) (by decide) rfl rfl H76 ?_
              clear H76; intro wx77 H77
              refine plain (y_assign rfl rfl) rfl rfl rfl H77 ?_
              clear H77; intro a78 H78
              refine fin ?_
              refine then_n ?_
              refine wp_ret ?_
              -- return 4
              refine retct rfl H78 rfl z_agg25 z_size25 (by repeat (first | exact Mh | apply Mt)) (q_len_c4b32 (by assumption)) rfl ?_
              refine ⟨_, [], rfl, ⟨?_, rfl⟩, H78.sep.sub (List.nil_sublist _)⟩
              first | (rw [Note.readBid_none hfs]; rfl) | (rw [Note.readBid_bad hfs (by rintro ⟨h1, h2, h3⟩; simp only [List.length_drop] at h1; first | omega | (have h4 : (⟨n0, n1, n2, n3, Note.Z⟩ : Note.Bid).ok = true := h3; simp_all; done))]; rfl) | (rw [Note.readBid_good hfs ⟨by simp only [List.length_drop]; omega, by omega, (show (⟨n0, n1, n2, n3, Note.Z⟩ : Note.Bid).ok = true by assumption)⟩]; rfl)
  · skip
    simp only [List.nil_append] at H10
    refine plain (y_move rfl rfl) rfl rfl rfl H10 ?_
    clear H10; intro a79 H79
    refine plain (y_extract rfl rfl rfl) rfl rfl rfl H79 ?_
    clear H79; intro a80 H80
    refine plain (y_extract rfl rfl rfl) rfl rfl rfl H80 ?_
    clear H80; intro a81 H81
    refine plain (y_assign rfl rfl) rfl rfl rfl H81 ?_
    clear H81; intro a82 H82
    refine plain (y_assign rfl rfl) rfl rfl rfl H82 ?_
    clear H82; intro a83 H83
    refine fin ?_
    refine then_n ?_
    refine wp_seq ?_
    refine wp_seq ?_
    refine reg ?_
    refine plain (y_move rfl rfl) rfl rfl rfl H83 ?_
    clear H83; intro a84 H84
    refine plain (y_not rfl rfl) rfl rfl rfl H84 ?_
    clear H84; intro a85 H85
    refine plain (y_move rfl rfl) rfl rfl rfl H85 ?_
    clear H85; intro a86 H86
    refine skip rfl rfl rfl H86 ?_
    clear H86; intro a87 H87
    refine skip rfl rfl rfl H87 ?_
    clear H87; intro a88 H88
    refine skip rfl rfl rfl H88 ?_
    clear H88; intro a89 H89
    refine plain (y_pick_t rfl rfl rfl) rfl rfl rfl H89 ?_
    clear H89; intro a90 H90
    refine plain (y_move rfl rfl) rfl rfl rfl H90 ?_
    clear H90; intro a91 H91
    refine skip rfl rfl rfl H91 ?_
    clear H91; intro a92 H92
    refine skip rfl rfl rfl H92 ?_
    clear H92; intro a93 H93
    refine skip rfl rfl rfl H93 ?_
    clear H93; intro a94 H94
    refine skip rfl rfl rfl H94 ?_
    clear H94; intro a95 H95
    refine skip rfl rfl rfl H95 ?_
    clear H95; intro a96 H96
    refine plain (y_pick_t rfl rfl rfl) rfl rfl rfl H96 ?_
    clear H96; intro a97 H97
    refine plain (y_move rfl rfl) rfl rfl rfl H97 ?_
    clear H97; intro a98 H98
    refine skip rfl rfl rfl H98 ?_
    clear H98; intro a99 H99
    refine skip rfl rfl rfl H99 ?_
    clear H99; intro a100 H100
    refine skip rfl rfl rfl H100 ?_
    clear H100; intro a101 H101
    refine plain (y_pick_t rfl rfl rfl) rfl rfl rfl H101 ?_
    clear H101; intro a102 H102
    refine fin ?_
    refine then_n ?_
    refine cnd_t H102 rfl ?_
    refine wp_seq ?_
    refine reg ?_
    refine plain (y_build rfl z_zeroN25 z_places25 rfl lay_n) rfl rfl rfl H102 ?_
    clear H102; intro a104 H104
    refine st_storeN rfl z_size25 rfl rfl (agg_cells _) (by repeat (first | exact Uh | apply Ut)) (q_one_c4b32 rfl rfl rfl rfl) (q_len_c4b32 (by assumption)) (q_len_c4b32 (by assumption)) (q_spl_c4b32_0_c4b32 (by assumption) (by assumption)) (by decide) rfl rfl H104 ?_
    clear H104; intro wx105 H105
    refine plain (y_assign rfl rfl) rfl rfl rfl H105 ?_
    clear H105; intro a106 H106
    refine fin ?_
    refine then_n ?_
    refine wp_ret ?_
    refine then_r ?_
    -- return 5
    refine retct rfl H106 rfl z_agg25 z_size25 (by repeat (first | exact Mh | apply Mt)) (q_len_c4b32 (by assumption)) rfl ?_
    refine ⟨_, [], rfl, ⟨?_, rfl⟩, H106.sep.sub (List.nil_sublist _)⟩
    first | (rw [Note.readBid_none hfs]; rfl) | (rw [Note.readBid_bad hfs (by rintro ⟨h1, h2, h3⟩; simp only [List.length_drop] at h1; first | omega | (have h4 : (⟨n0, n1, n2, n3, Note.Z⟩ : Note.Bid).ok = true := h3; simp_all; done))]; rfl) | (rw [Note.readBid_good hfs ⟨by simp only [List.length_drop]; omega, by omega, (show (⟨n0, n1, n2, n3, Note.Z⟩ : Note.Bid).ok = true by assumption)⟩]; rfl)

end Go.Proofs.YtnnhnnhdoipbaaaDoor.N_RBid

set_option linter.unusedVariables false
set_option linter.unusedSimpArgs false
namespace Go.Proofs.YtnnhnnhdoipbaaaDoor.N_Sign
open Go.Sx Go.RowKit Go.Proofs.YtnnhnnhdoipbaaaDoor.N_Block Go.Proofs.YtnnhnnhdoipbaaaDoor.N_Sum Go.Proofs.YtnnhnnhdoipbaaaDoor.N_Ref Go.Proofs.YtnnhnnhdoipbaaaDoor.N_RSum Go.Proofs.YtnnhnnhdoipbaaaDoor.N_Leaf Go.Proofs.YtnnhnnhdoipbaaaDoor.N_Num Go.Proofs.YtnnhnnhdoipbaaaDoor.N_Key Go.Proofs.YtnnhnnhdoipbaaaDoor.N_Lay

theorem z_zeroN23 : zeroL Tryd.prog 23 = some ((List.replicate 32 (0 : UInt8)).map u8) := by kernel_rfl
theorem z_agg25 : aggB Tryd.prog 25 = some true := by kernel_rfl
theorem z_size25 : sizeB Tryd.prog 25 = some 36 := by kernel_rfl
theorem q_ld_c4b32_0_36 {a0 a1 a2 a3 : Value} {t4 : List UInt8} (h4 : t4.length = 32) : ((a0 :: a1 :: a2 :: a3 :: t4.map u8).drop 0).take 36 = a0 :: a1 :: a2 :: a3 :: t4.map u8 := (ld_a (len_c (n := 35) (len_c (n := 34) (len_c (n := 33) (len_c (n := 32) (len_e (k := 32) h4))))))
theorem q_len_c4b32 {a0 a1 a2 a3 : Value} {t4 : List UInt8} (h4 : t4.length = 32) : (a0 :: a1 :: a2 :: a3 :: t4.map u8).length = 36 := (len_c (n := 35) (len_c (n := 34) (len_c (n := 33) (len_c (n := 32) (len_e (k := 32) h4)))))
theorem z_call34 : callB Tryd.prog 34 = true := by kernel_rfl
theorem z_size5 : sizeB Tryd.prog 5 = some 1 := by kernel_rfl
theorem z_size23 : sizeB Tryd.prog 23 = some 32 := by kernel_rfl
theorem q_one_b32 {t0 : List UInt8} : (t0.map u8).all (·.oneCell') = true := (one_u8 _)
theorem q_len_b32 {t0 : List UInt8} (h0 : t0.length = 32) : (t0.map u8).length = 32 := (len_e (k := 32) h0)
theorem q_spl_b32_0_b32 {t0 : List UInt8} {s0 : List UInt8} (h0 : t0.length = 32) (g0 : s0.length = 32) : spl (t0.map u8) 0 (s0.map u8) = s0.map u8 := (spl_a (z := 32) (len_e (k := 32) h0) (len_e (k := 32) g0))
theorem z_agg23 : aggB Tryd.prog 23 = some true := by kernel_rfl
theorem z_field25_0 : fieldB Tryd.prog 25 0 = some 0 := by kernel_rfl
theorem z_agg3 : aggB Tryd.prog 3 = some false := by kernel_rfl
theorem q_ix_c4b32_0 {a0 a1 a2 a3 : Value} {t4 : List UInt8} : (a0 :: a1 :: a2 :: a3 :: t4.map u8)[0]? = some a0 := ix_0
theorem z_field25_1 : fieldB Tryd.prog 25 1 = some 1 := by kernel_rfl
theorem q_ix_c4b32_1 {a0 a1 a2 a3 : Value} {t4 : List UInt8} : (a0 :: a1 :: a2 :: a3 :: t4.map u8)[1]? = some a1 := (ix_c (o := 0) ix_0)
theorem z_field25_2 : fieldB Tryd.prog 25 2 = some 2 := by kernel_rfl
theorem q_ix_c4b32_2 {a0 a1 a2 a3 : Value} {t4 : List UInt8} : (a0 :: a1 :: a2 :: a3 :: t4.map u8)[2]? = some a2 := (ix_c (o := 1) (ix_c (o := 0) ix_0))
theorem z_field25_3 : fieldB Tryd.prog 25 3 = some 3 := by kernel_rfl
theorem q_ix_c4b32_3 {a0 a1 a2 a3 : Value} {t4 : List UInt8} : (a0 :: a1 :: a2 :: a3 :: t4.map u8)[3]? = some a3 := (ix_c (o := 2) (ix_c (o := 1) (ix_c (o := 0) ix_0)))
theorem z_size3 : sizeB Tryd.prog 3 = some 1 := by kernel_rfl
theorem z_zero3 : zeroL Tryd.prog 3 = some ([.int .i64 0]) := by kernel_rfl
theorem z_call36 : callB Tryd.prog 36 = true := by kernel_rfl
theorem z_call35 : callB Tryd.prog 35 = true := by kernel_rfl
theorem z_call59 : callB Tryd.prog 59 = true := by kernel_rfl
theorem z_zeroN25 : zeroL Tryd.prog 25 = some ((.int .i64 0 :: (.int .i64 0 :: (.int .i64 0 :: (.int .i64 0 :: (List.replicate 32 (0 : UInt8)).map u8))))) := by kernel_rfl
theorem z_call41 : callB Tryd.prog 41 = true := by kernel_rfl
theorem z_places25 : placesB Tryd.prog 25 = some [(0, 1), (1, 1), (2, 1), (3, 1), (4, 32)] := by kernel_rfl
theorem q_one_c4b32 {a0 a1 a2 a3 : Value} {t4 : List UInt8} (o0 : a0.oneCell' = true) (o1 : a1.oneCell' = true) (o2 : a2.oneCell' = true) (o3 : a3.oneCell' = true) : (a0 :: a1 :: a2 :: a3 :: t4.map u8).all (·.oneCell') = true := (one_c o0 (one_c o1 (one_c o2 (one_c o3 (one_u8 _)))))
theorem q_spl_c4b32_0_c4b32 {a0 a1 a2 a3 : Value} {t4 : List UInt8} {b0 b1 b2 b3 : Value} {s4 : List UInt8} (h4 : t4.length = 32) (g4 : s4.length = 32) : spl (a0 :: a1 :: a2 :: a3 :: t4.map u8) 0 (b0 :: b1 :: b2 :: b3 :: s4.map u8) = b0 :: b1 :: b2 :: b3 :: s4.map u8 := (spl_a (z := 36) (len_c (n := 35) (len_c (n := 34) (len_c (n := 33) (len_c (n := 32) (len_e (k := 32) h4))))) (len_c (n := 35) (len_c (n := 34) (len_c (n := 33) (len_c (n := 32) (len_e (k := 32) g4))))))
theorem q_ld_b32_0_32 {t0 : List UInt8} (h0 : t0.length = 32) : ((t0.map u8).drop 0).take 32 = t0.map u8 := (ld_a (len_e (k := 32) h0))
theorem z_field25_4 : fieldB Tryd.prog 25 4 = some 4 := by kernel_rfl
theorem q_spl_c4b32_4_b32 {a0 a1 a2 a3 : Value} {t4 : List UInt8} {s0 : List UInt8} (h4 : t4.length = 32) (g0 : s0.length = 32) : spl (a0 :: a1 :: a2 :: a3 :: t4.map u8) 4 (s0.map u8) = a0 :: a1 :: a2 :: a3 :: s0.map u8 := (spl_c (o := 3) (spl_c (o := 2) (spl_c (o := 1) (spl_c (o := 0) (spl_a (z := 32) (len_e (k := 32) h4) (len_e (k := 32) g0))))))
theorem q_ld_c4b32_4_32 {a0 a1 a2 a3 : Value} {t4 : List UInt8} (h4 : t4.length = 32) : ((a0 :: a1 :: a2 :: a3 :: t4.map u8).drop 4).take 32 = t4.map u8 := (ld_c (o := 3) (ld_c (o := 2) (ld_c (o := 1) (ld_c (o := 0) (ld_a (len_e (k := 32) h4))))))

set_option maxRecDepth 100000 in
set_option maxHeartbeats 1000000 in
theorem ntag (b : Note.Bid) (wf : Note.Bid.Wf b) {w : World} (hG : Glob 0 Sha.K w) : Calls Tryd.prog 41 #[.agg (Note.Bid.cells b).toArray] w (Gives (.tuple #[.agg ((if b.ok then (Seal.tag b.who 3 b.said).1 else Note.Z).map u8).toArray, .int .i64 (if b.ok then 0 else 2)]) [] w) := by
  have lz32 : (List.replicate 32 (0 : UInt8)).length = 32 := List.length_replicate
  have lz0 := wf.tag
  refine enterL (args := [.agg (Note.Bid.cells b).toArray]) Tryd.func41 rfl rfl (l := []) (Sep.refl _) ?_
  intro a0 H0
  refine wp_seq ?_
  refine reg ?_
  refine st_box rfl rfl (agg_cells _) rfl rfl rfl H0 ?_
  clear H0; intro b1 a1 wx1 H1
  refine st_alloc rfl z_zeroN23 rfl rfl rfl H1 ?_
  clear H1; intro b2 a2 wx2 H2
  refine plain (y_assign rfl rfl) rfl rfl rfl H2 ?_
  clear H2; intro a3 H3
  refine fin ?_
  refine then_n ?_
  refine wp_seq ?_
  refine wp_seq ?_
  refine reg ?_
  refine plain (y_loadAB rfl z_agg25 z_size25 rfl (by repeat (first | exact Mh | apply Mt)) (q_ld_c4b32_0_36 (by first | assumption | exact Seal.tag_len _ _ _)) (q_len_c4b32 (by first | assumption | exact Seal.tag_len _ _ _))) rfl rfl rfl H3 ?_
  clear H3; intro a4 H4
  refine st_callg rfl z_call34 rfl rfl rfl rfl H4 (nbid b wf _) ?_
  clear H4; intro a5 wx5 H5
  refine plain ((by first | exact y_not_d rfl rfl | exact y_not rfl rfl)) rfl rfl rfl H5 ?_
  clear H5; intro a6 H6
  refine fin ?_
  refine then_n ?_
  refine cnd H6 rfl (fun hc7 => ?_) (fun hc7 => ?_) -- cond 1
  · skip
    try simp only [decide_eq_true_eq, decide_eq_false_iff_not, Bool.not_eq_true', Bool.not_eq_false', Bool.and_eq_true, Bool.not_eq_true, Bool.not_eq_false] at hc7
    have hk := hc7
    refine wp_seq ?_
    refine reg ?_
    refine plain (y_buildA rfl z_zeroN23 Tryd.underlying23 z_size5 rfl lay_n) rfl rfl rfl H6 ?_
    clear H6; intro a8 H8
    refine st_storeN rfl z_size23 rfl rfl (agg_cells _) (by repeat (first | exact Uh | apply Ut)) q_one_b32 (q_len_b32 (by first | assumption | exact Seal.tag_len _ _ _)) (q_len_b32 (by first | assumption | exact Seal.tag_len _ _ _)) (q_spl_b32_0_b32 (by first | assumption | exact Seal.tag_len _ _ _) (by first | assumption | exact Seal.tag_len _ _ _)) (by decide) rfl rfl H8 ?_
    clear H8; intro wx9 H9
    refine plain (y_assign rfl rfl) rfl rfl rfl H9 ?_
    clear H9; intro a10 H10
    refine fin ?_
    refine then_n ?_
    refine wp_ret ?_
    refine then_r ?_
    -- return 1
    refine retct rfl H10 rfl z_agg23 z_size23 (by repeat (first | exact Mh | apply Mt)) (q_len_b32 (by first | assumption | exact Seal.tag_len _ _ _)) rfl ?_
    refine ⟨_, [], rfl, ⟨?_, rfl⟩, H10.sep.sub (List.nil_sublist _)⟩
    rw [hk]
    rfl
  · skip
    try simp only [decide_eq_true_eq, decide_eq_false_iff_not, Bool.not_eq_true', Bool.not_eq_false', Bool.and_eq_true, Bool.not_eq_true, Bool.not_eq_false] at hc7
    have hk := hc7
    refine wp_skip ?_
    refine then_n ?_
    refine wp_seq ?_
    refine reg ?_
    refine plain (y_fieldB rfl z_field25_0 rfl (by first | (simp only [Nat.zero_add, Nat.add_zero, Nat.reduceAdd]; rfl) | rfl)) rfl rfl rfl H6 ?_
    clear H6; intro a11 H11
    refine plain (y_loadB rfl z_agg3 rfl (by repeat (first | exact Mh | apply Mt)) q_ix_c4b32_0) rfl rfl rfl H11 ?_
    clear H11; intro a12 H12
    refine plain (y_fieldB rfl z_field25_1 rfl (by first | (simp only [Nat.zero_add, Nat.add_zero, Nat.reduceAdd]; rfl) | rfl)) rfl rfl rfl H12 ?_
    clear H12; intro a13 H13
    refine plain (y_loadB rfl z_agg3 rfl (by repeat (first | exact Mh | apply Mt)) q_ix_c4b32_1) rfl rfl rfl H13 ?_
    clear H13; intro a14 H14
    refine plain (y_fieldB rfl z_field25_2 rfl (by first | (simp only [Nat.zero_add, Nat.add_zero, Nat.reduceAdd]; rfl) | rfl)) rfl rfl rfl H14 ?_
    clear H14; intro a15 H15
    refine plain (y_loadB rfl z_agg3 rfl (by repeat (first | exact Mh | apply Mt)) q_ix_c4b32_2) rfl rfl rfl H15 ?_
    clear H15; intro a16 H16
    refine plain (y_fieldB rfl z_field25_3 rfl (by first | (simp only [Nat.zero_add, Nat.add_zero, Nat.reduceAdd]; rfl) | rfl)) rfl rfl rfl H16 ?_
    clear H16; intro a17 H17
    refine plain (y_loadB rfl z_agg3 rfl (by repeat (first | exact Mh | apply Mt)) q_ix_c4b32_3) rfl rfl rfl H17 ?_
    clear H17; intro a18 H18
    refine st_buildSlice1 (xs := [.tmp 12, .tmp 14, .tmp 16, .tmp 18]) rfl Tryd.underlying83 z_size3 z_zero3 rfl rfl rfl rfl rfl rfl rfl rfl rfl H18 ?_
    clear H18; intro b19 a19 wx19 H19
    refine st_call rfl z_call36 rfl rfl rfl rfl H19 (nlay [b.round, b.who, b.amount, b.salt] _ _ _ rfl (by simp) (by intro x hx; simp only [List.mem_cons, List.not_mem_nil, or_false] at hx; rcases hx with rfl | rfl | rfl | rfl <;> first | exact wf.round.2 | exact wf.who.2 | exact wf.amount.2 | exact wf.salt.2) (Rd.ofSep (rd_blkA (by repeat (first | exact Mh | apply Mt))) H19.sep)) ?_
    clear H19; intro v20 l20 a20 wx20 hf20 H20
    obtain rfl := hf20
    simp only [List.cons_append, List.nil_append] at H20
    obtain ⟨Ar20, cr20, hvr20, hRr20, hmr20⟩ := row_shape (v := v20) H20.sep (by repeat (first | exact Mh | apply Mt))
    subst hvr20
    refine st_callg rfl z_call35 rfl rfl rfl rfl H20 (nwrite [Note.num b.round, Note.num b.who, Note.num b.amount, Note.num b.salt] _ _ _ rfl (Rd.ofSep (rd_row (by repeat (first | exact Mh | apply Mt))) H20.sep) (by simp)) ?_
    clear H20; intro a21 wx21 H21
    refine plain (y_move rfl rfl) rfl rfl rfl H21 ?_
    clear H21; intro a22 H22
    refine plain (y_extract rfl rfl rfl) rfl rfl rfl H22 ?_
    clear H22; intro a23 H23
    refine plain (y_extract rfl rfl rfl) rfl rfl rfl H23 ?_
    clear H23; intro a24 H24
    refine plain (y_assign rfl rfl) rfl rfl rfl H24 ?_
    clear H24; intro a25 H25
    refine plain (y_assign rfl rfl) rfl rfl rfl H25 ?_
    clear H25; intro a26 H26
    refine fin ?_
    refine then_n ?_
    refine wp_seq ?_
    refine reg ?_
    refine plain (y_fieldB rfl z_field25_1 rfl (by first | (simp only [Nat.zero_add, Nat.add_zero, Nat.reduceAdd]; rfl) | rfl)) rfl rfl rfl H26 ?_
    clear H26; intro a27 H27
    refine plain (y_loadB rfl z_agg3 rfl (by repeat (first | exact Mh | apply Mt)) q_ix_c4b32_1) rfl rfl rfl H27 ?_
    clear H27; intro a28 H28
    refine plain (y_move rfl rfl) rfl rfl rfl H28 ?_
    clear H28; intro a29 H29
    refine st_callg rfl z_call59 rfl rfl rfl rfl H29 (stag b.who 3 wf.who (by omega) b.said (by have := Oct.list_len (l := [Note.num b.round, Note.num b.who, Note.num b.amount, Note.num b.salt]); unfold Note.Bid.said; omega) (hG.frm H29.sep.frm (by simp))) ?_
    clear H29; intro a30 wx30 H30
    refine plain (y_extract rfl rfl rfl) rfl rfl rfl H30 ?_
    clear H30; intro a31 H31
    refine plain (y_extract rfl rfl rfl) rfl rfl rfl H31 ?_
    clear H31; intro a32 H32
    refine st_storeN rfl z_size23 rfl rfl (agg_cells _) (by repeat (first | exact Uh | apply Ut)) q_one_b32 (q_len_b32 (by first | assumption | exact Seal.tag_len _ _ _)) (q_len_b32 (by first | assumption | exact Seal.tag_len _ _ _)) (q_spl_b32_0_b32 (by first | assumption | exact Seal.tag_len _ _ _) (by first | assumption | exact Seal.tag_len _ _ _)) (by decide) rfl rfl H32 ?_
    clear H32; intro wx33 H33
    refine plain (y_assign rfl rfl) rfl rfl rfl H33 ?_
    clear H33; intro a34 H34
    refine fin ?_
    refine then_n ?_
    refine wp_ret ?_
    -- return 2
    refine retct rfl H34 rfl z_agg23 z_size23 (by repeat (first | exact Mh | apply Mt)) (q_len_b32 (by first | assumption | exact Seal.tag_len _ _ _)) rfl ?_
    refine ⟨_, [], rfl, ⟨?_, rfl⟩, H34.sep.sub (List.nil_sublist _)⟩
    rw [hk, if_pos rfl, if_pos rfl, Note.tag_good _ (Note.ok_who hk).2.1.1 (Note.ok_who hk).2.1.2]
set_option maxRecDepth 100000 in
set_option maxHeartbeats 1000000 in
theorem nsign (b : Note.Bid) (wf : Note.Bid.Wf b) {w : World} (hG : Glob 0 Sha.K w) : Calls Tryd.prog 12 #[.agg (Note.Bid.cells b).toArray] w (Gives (.tuple #[.agg (Note.Bid.cells (Note.signBid b).1).toArray, .int .i64 (Note.signBid b).2]) [] w) := by
  have htl := Note.tagl b
  have lz32 : (List.replicate 32 (0 : UInt8)).length = 32 := List.length_replicate
  have lz0 := wf.tag
  refine enterL (args := [.agg (Note.Bid.cells b).toArray]) Tryd.func12 rfl rfl (l := []) (Sep.refl _) ?_
  intro a0 H0
  refine wp_seq ?_
  refine reg ?_
  refine st_box rfl rfl (agg_cells _) rfl rfl rfl H0 ?_
  clear H0; intro b1 a1 wx1 H1
  refine st_alloc rfl z_zeroN25 rfl rfl rfl H1 ?_
  clear H1; intro b2 a2 wx2 H2
  refine plain (y_assign rfl rfl) rfl rfl rfl H2 ?_
  clear H2; intro a3 H3
  refine fin ?_
  refine then_n ?_
  refine wp_seq ?_
  refine reg ?_
  refine plain (y_loadAB rfl z_agg25 z_size25 rfl (by repeat (first | exact Mh | apply Mt)) (q_ld_c4b32_0_36 (by assumption)) (q_len_c4b32 (by assumption))) rfl rfl rfl H3 ?_
  clear H3; intro a4 H4
  refine st_callg rfl z_call41 rfl rfl rfl rfl H4 (ntag b wf (hG.frm H4.sep.frm (by simp))) ?_
  clear H4; intro a5 wx5 H5
  refine plain (y_move rfl rfl) rfl rfl rfl H5 ?_
  clear H5; intro a6 H6
  refine plain (y_extract rfl rfl rfl) rfl rfl rfl H6 ?_
  clear H6; intro a7 H7
  refine plain (y_extract rfl rfl rfl) rfl rfl rfl H7 ?_
  clear H7; intro a8 H8
  refine st_alloc rfl z_zeroN23 rfl rfl rfl H8 ?_
  clear H8; intro b9 a9 wx9 H9
  refine st_storeN rfl z_size23 rfl rfl (agg_cells _) (by repeat (first | exact Uh | apply Ut)) q_one_b32 (q_len_b32 (by assumption)) (q_len_b32 (by assumption)) (q_spl_b32_0_b32 (by assumption) (by assumption)) (by decide) rfl rfl H9 ?_
  clear H9; intro wx10 H10
  refine plain (y_assign rfl rfl) rfl rfl rfl H10 ?_
  clear H10; intro a11 H11
  refine fin ?_
  refine then_n ?_
  refine wp_seq ?_
  refine wp_seq ?_
  refine reg ?_
  refine plain (y_move rfl rfl) rfl rfl rfl H11 ?_
  clear H11; intro a12 H12
  refine plain (y_neq rfl rfl rfl) rfl rfl rfl H12 ?_
  clear H12; intro a13 H13
  refine fin ?_
  refine then_n ?_
  refine cnd H13 rfl (fun hc14 => ?_) (fun hc14 => ?_) -- cond 1
  · skip
    try simp only [decide_eq_true_eq, decide_eq_false_iff_not, Bool.not_eq_true', Bool.not_eq_false', Bool.and_eq_true, Bool.not_eq_true, Bool.not_eq_false] at hc14
    have hk : b.ok = false := by cases h : b.ok; rfl; rw [h] at hc14; exact absurd rfl hc14
    refine wp_seq ?_
    refine reg ?_
    refine plain (y_build rfl z_zeroN25 z_places25 rfl lay_n) rfl rfl rfl H13 ?_
    clear H13; intro a15 H15
    refine plain (y_move rfl rfl) rfl rfl rfl H15 ?_
    clear H15; intro a16 H16
    refine st_storeN rfl z_size25 rfl rfl (agg_cells _) (by repeat (first | exact Uh | apply Ut)) (q_one_c4b32 rfl rfl rfl rfl) (q_len_c4b32 (by assumption)) (q_len_c4b32 (by assumption)) (q_spl_c4b32_0_c4b32 (by assumption) (by assumption)) (by decide) rfl rfl H16 ?_
    clear H16; intro wx17 H17
    refine plain (y_assign rfl rfl) rfl rfl rfl H17 ?_
    clear H17; intro a18 H18
    refine fin ?_
    refine then_n ?_
    refine wp_ret ?_
    refine then_r ?_
    -- return 1
    refine retct rfl H18 rfl z_agg25 z_size25 (by repeat (first | exact Mh | apply Mt)) (q_len_c4b32 (by assumption)) rfl ?_
    refine ⟨_, [], rfl, ⟨?_, rfl⟩, H18.sep.sub (List.nil_sublist _)⟩
    rw [Note.signBid, hk]
    rfl
  · skip
    try simp only [decide_eq_true_eq, decide_eq_false_iff_not, Bool.not_eq_true', Bool.not_eq_false', Bool.and_eq_true, Bool.not_eq_true, Bool.not_eq_false] at hc14
    have hk : b.ok = true := by cases h : b.ok; rw [h] at hc14; exact absurd hc14 (by decide); rfl
    refine wp_skip ?_
    refine then_n ?_
    refine wp_seq ?_
    refine reg ?_
    refine plain (y_loadAB rfl z_agg23 z_size23 rfl (by repeat (first | exact Mh | apply Mt)) (q_ld_b32_0_32 (by assumption)) (q_len_b32 (by assumption))) rfl rfl rfl H13 ?_
    clear H13; intro a19 H19
    refine plain (y_fieldB rfl z_field25_4 rfl (by first | (simp only [Nat.zero_add, Nat.add_zero, Nat.reduceAdd]; rfl) | rfl)) rfl rfl rfl H19 ?_
    clear H19; intro a20 H20
    refine st_storeN rfl z_size23 rfl rfl (agg_cells _) (by repeat (first | exact Uh | apply Ut)) q_one_b32 (q_len_b32 (by assumption)) (q_len_c4b32 (by assumption)) (q_spl_c4b32_4_b32 (by assumption) (by assumption)) (by decide) rfl rfl H20 ?_
    clear H20; intro wx21 H21
    refine fin ?_
    refine then_n ?_
    refine wp_seq ?_
    refine reg ?_
    refine plain (y_loadAB rfl z_agg25 z_size25 rfl (by repeat (first | exact Mh | apply Mt)) (q_ld_c4b32_0_36 (by assumption)) (q_len_c4b32 (by assumption))) rfl rfl rfl H21 ?_
    clear H21; intro a22 H22
    refine st_storeN rfl z_size25 rfl rfl (agg_cells _) (by repeat (first | exact Uh | apply Ut)) (q_one_c4b32 rfl rfl rfl rfl) (q_len_c4b32 (by assumption)) (q_len_c4b32 (by assumption)) (q_spl_c4b32_0_c4b32 (by assumption) (by assumption)) (by decide) rfl rfl H22 ?_
    clear H22; intro wx23 H23
    refine plain (y_assign rfl rfl) rfl rfl rfl H23 ?_
    clear H23; intro a24 H24
    refine fin ?_
    refine then_n ?_
    refine wp_ret ?_
    -- return 2
    refine retct rfl H24 rfl z_agg25 z_size25 (by repeat (first | exact Mh | apply Mt)) (q_len_c4b32 (by assumption)) rfl ?_
    refine ⟨_, [], rfl, ⟨?_, rfl⟩, H24.sep.sub (List.nil_sublist _)⟩
    rw [Note.signBid, hk]
    rfl
set_option maxRecDepth 100000 in
set_option maxHeartbeats 1000000 in
theorem ncheck (b : Note.Bid) (wf : Note.Bid.Wf b) {w : World} (hG : Glob 0 Sha.K w) : Calls Tryd.prog 15 #[.agg (Note.Bid.cells b).toArray] w (Gives (.int .i64 (Note.checkBid b)) [] w) := by
  have htl := Note.tagl b
  have lz32 : (List.replicate 32 (0 : UInt8)).length = 32 := List.length_replicate
  have lz0 := wf.tag
  refine enterL (args := [.agg (Note.Bid.cells b).toArray]) Tryd.func15 rfl rfl (l := []) (Sep.refl _) ?_
  intro a0 H0
  refine wp_seq ?_
  refine reg ?_
  refine st_box rfl rfl (agg_cells _) rfl rfl rfl H0 ?_
  clear H0; intro b1 a1 wx1 H1
  refine plain (y_assign rfl rfl) rfl rfl rfl H1 ?_
  clear H1; intro a2 H2
  refine fin ?_
  refine then_n ?_
  refine wp_seq ?_
  refine reg ?_
  refine plain (y_loadAB rfl z_agg25 z_size25 rfl (by repeat (first | exact Mh | apply Mt)) (q_ld_c4b32_0_36 (by assumption)) (q_len_c4b32 (by assumption))) rfl rfl rfl H2 ?_
  clear H2; intro a3 H3
  refine st_callg rfl z_call41 rfl rfl rfl rfl H3 (ntag b wf (hG.frm H3.sep.frm (by simp))) ?_
  clear H3; intro a4 wx4 H4
  refine plain (y_move rfl rfl) rfl rfl rfl H4 ?_
  clear H4; intro a5 H5
  refine plain (y_extract rfl rfl rfl) rfl rfl rfl H5 ?_
  clear H5; intro a6 H6
  refine plain (y_extract rfl rfl rfl) rfl rfl rfl H6 ?_
  clear H6; intro a7 H7
  refine st_alloc rfl z_zeroN23 rfl rfl rfl H7 ?_
  clear H7; intro b8 a8 wx8 H8
  refine st_storeN rfl z_size23 rfl rfl (agg_cells _) (by repeat (first | exact Uh | apply Ut)) q_one_b32 (q_len_b32 (by assumption)) (q_len_b32 (by assumption)) (q_spl_b32_0_b32 (by assumption) (by assumption)) (by decide) rfl rfl H8 ?_
  clear H8; intro wx9 H9
  refine plain (y_assign rfl rfl) rfl rfl rfl H9 ?_
  clear H9; intro a10 H10
  refine fin ?_
  refine then_n ?_
  refine wp_seq ?_
  refine wp_seq ?_
  refine reg ?_
  refine plain (y_move rfl rfl) rfl rfl rfl H10 ?_
  clear H10; intro a11 H11
  refine plain (y_eql rfl rfl rfl) rfl rfl rfl H11 ?_
  clear H11; intro a12 H12
  refine plain (y_move rfl rfl) rfl rfl rfl H12 ?_
  clear H12; intro a13 H13
  refine Sx.part (d := 12) H13 rfl (fun hg14 => ?_) (fun hg14 => ?_)
  · first
    | fail
    | skip
      clear H13; intro H15
      try simp only [decide_eq_true_eq, decide_eq_false_iff_not, Bool.not_eq_true', Bool.not_eq_false', Bool.and_eq_true, Bool.not_eq_true, Bool.not_eq_false] at hg14
      have hk : b.ok = true := by cases h : b.ok; rw [h] at hg14; exact absurd hg14 (by decide); rfl
      refine plain (y_loadAB rfl z_agg23 z_size23 rfl (by repeat (first | exact Mh | apply Mt)) (q_ld_b32_0_32 (by assumption)) (q_len_b32 (by assumption))) rfl rfl rfl H15 ?_
      clear H15; intro a16 H16
      refine plain (y_fieldB rfl z_field25_4 rfl (by first | (simp only [Nat.zero_add, Nat.add_zero, Nat.reduceAdd]; rfl) | rfl)) rfl rfl rfl H16 ?_
      clear H16; intro a17 H17
      refine plain (y_loadAB rfl z_agg23 z_size23 rfl (by repeat (first | exact Mh | apply Mt)) (q_ld_c4b32_4_32 (by assumption)) (q_len_b32 (by assumption))) rfl rfl rfl H17 ?_
      clear H17; intro a18 H18
      refine plain (y_hneq rfl Tryd.eqGuardType23 Tryd.underlying23 Tryd.underlying5 z_size5 rfl rfl (by assumption) (by assumption)) rfl rfl rfl H18 ?_
      clear H18; intro a19 H19
      refine plain (y_pick_t rfl rfl rfl) rfl rfl rfl H19 ?_
      clear H19; intro a20 H20
      refine fin ?_
      refine then_n ?_
      refine cnd H20 rfl (fun hc21 => ?_) (fun hc21 => ?_) -- cond 1
      · skip
        try simp only [decide_eq_true_eq, decide_eq_false_iff_not, Bool.not_eq_true', Bool.not_eq_false', Bool.and_eq_true, Bool.not_eq_true, Bool.not_eq_false] at hc21
        refine wp_seq ?_
        refine reg ?_
        refine plain (y_assign rfl rfl) rfl rfl rfl H20 ?_
        clear H20; intro a22 H22
        refine fin ?_
        refine then_n ?_
        refine wp_ret ?_
        refine then_r ?_
        -- return 1
        refine ret1 rfl H22 rfl ?_
        refine ⟨_, [], rfl, ⟨?_, rfl⟩, H22.sep.sub (List.nil_sublist _)⟩
        rw [Note.checkBid, hk]
        rw [hk] at *
        simp_all
      · skip
        try simp only [decide_eq_true_eq, decide_eq_false_iff_not, Bool.not_eq_true', Bool.not_eq_false', Bool.and_eq_true, Bool.not_eq_true, Bool.not_eq_false] at hc21
        refine wp_skip ?_
        refine then_n ?_
        refine wp_seq ?_
        refine reg ?_
        refine plain (y_move rfl rfl) rfl rfl rfl H20 ?_
        clear H20; intro a23 H23
        refine plain (y_assign rfl rfl) rfl rfl rfl H23 ?_
        clear H23; intro a24 H24
        refine fin ?_
        refine then_n ?_
        refine wp_ret ?_
        -- return 2
        refine ret1 rfl H24 rfl ?_
        refine ⟨_, [], rfl, ⟨?_, rfl⟩, H24.sep.sub (List.nil_sublist _)⟩
        rw [Note.checkBid, hk]
        rw [hk] at *
        simp_all
  · first
    | fail
    | skip
      clear H13; intro H25
      try simp only [decide_eq_true_eq, decide_eq_false_iff_not, Bool.not_eq_true', Bool.not_eq_false', Bool.and_eq_true, Bool.not_eq_true, Bool.not_eq_false] at hg14
      have hk : b.ok = false := by cases h : b.ok; rfl; rw [h] at hg14; exact absurd rfl hg14
      refine skip rfl rfl rfl H25 ?_
      clear H25; intro a26 H26
      refine skip rfl rfl rfl H26 ?_
      clear H26; intro a27 H27
      refine skip rfl rfl rfl H27 ?_
      clear H27; intro a28 H28
      refine skip rfl rfl rfl H28 ?_
      clear H28; intro a29 H29
      refine plain (y_pick_f rfl rfl rfl) rfl rfl rfl H29 ?_
      clear H29; intro a30 H30
      refine fin ?_
      refine then_n ?_
      refine cnd_f H30 rfl ?_
      refine wp_skip ?_
      refine then_n ?_
      refine wp_seq ?_
      refine reg ?_
      refine plain (y_move rfl rfl) rfl rfl rfl H30 ?_
      clear H30; intro a32 H32
      refine plain (y_assign rfl rfl) rfl rfl rfl H32 ?_
      clear H32; intro a33 H33
      refine fin ?_
      refine then_n ?_
      refine wp_ret ?_
      -- return 3
      refine ret1 rfl H33 rfl ?_
      refine ⟨_, [], rfl, ⟨?_, rfl⟩, H33.sep.sub (List.nil_sublist _)⟩
      rw [Note.checkBid, hk]
      rw [hk] at *
      simp_all

end Go.Proofs.YtnnhnnhdoipbaaaDoor.N_Sign

set_option linter.unusedVariables false
set_option linter.unusedSimpArgs false
namespace Go.Proofs.YtnnhnnhdoipbaaaDoor.N_Item
open Go.Sx Go.RowKit Go.Proofs.YtnnhnnhdoipbaaaDoor.N_Num Go.Proofs.YtnnhnnhdoipbaaaDoor.N_Read Go.Proofs.YtnnhnnhdoipbaaaDoor.N_Lay Go.Proofs.YtnnhnnhdoipbaaaDoor.N_Fields

theorem z_agg3 : aggB Tryd.prog 3 = some false := by kernel_rfl
theorem q_ix_c4_1 {a0 a1 a2 a3 : Value} : (a0 :: a1 :: a2 :: a3 :: [])[1]? = some a1 := (ix_c (o := 0) ix_0)
theorem q_ix_c4_2 {a0 a1 a2 a3 : Value} : (a0 :: a1 :: a2 :: a3 :: [])[2]? = some a2 := (ix_c (o := 1) (ix_c (o := 0) ix_0))
theorem z_size3 : sizeB Tryd.prog 3 = some 1 := by kernel_rfl
theorem z_zero3 : zeroL Tryd.prog 3 = some ([.int .i64 0]) := by kernel_rfl
theorem z_call47 : callB Tryd.prog 47 = true := by kernel_rfl
theorem z_agg9 : aggB Tryd.prog 9 = some false := by kernel_rfl
theorem q_ix_c4_3 {a0 a1 a2 a3 : Value} : (a0 :: a1 :: a2 :: a3 :: [])[3]? = some a3 := (ix_c (o := 2) (ix_c (o := 1) (ix_c (o := 0) ix_0)))
theorem q_ix_c4_0 {a0 a1 a2 a3 : Value} : (a0 :: a1 :: a2 :: a3 :: [])[0]? = some a0 := ix_0
theorem q_ld_c4_0_4 {a0 a1 a2 a3 : Value} : ((a0 :: a1 :: a2 :: a3 :: []).drop 0).take 4 = a0 :: a1 :: a2 :: a3 :: [] := (ld_a (len_c (n := 3) (len_c (n := 2) (len_c (n := 1) (len_c (n := 0) len_n)))))
theorem q_len_c4 {a0 a1 a2 a3 : Value} : (a0 :: a1 :: a2 :: a3 :: []).length = 4 := (len_c (n := 3) (len_c (n := 2) (len_c (n := 1) (len_c (n := 0) len_n))))
theorem z_call36 : callB Tryd.prog 36 = true := by kernel_rfl
theorem z_size9 : sizeB Tryd.prog 9 = some 1 := by kernel_rfl
theorem z_zero9 : zeroL Tryd.prog 9 = some ([.string ⟨#[]⟩]) := by kernel_rfl
theorem z_slice49 : sliceB Tryd.prog 49 = some (9, 1, 16) := by kernel_rfl
theorem z_notint49 : notIntB Tryd.prog 49 = true := by kernel_rfl
theorem z_call35 : callB Tryd.prog 35 = true := by kernel_rfl
theorem z_size80 : sizeB Tryd.prog 80 = some 1 := by kernel_rfl
theorem z_zero80 : zeroL Tryd.prog 80 = some ([.pointer none]) := by kernel_rfl
theorem z_call51 : callB Tryd.prog 51 = true := by kernel_rfl
end Go.Proofs.YtnnhnnhdoipbaaaDoor.N_Item

set_option linter.unusedVariables false
set_option linter.unusedSimpArgs false
namespace Go.Proofs.YtnnhnnhdoipbaaaDoor.N_WBatch
open Go.Sx Go.RowKit Go.Proofs.YtnnhnnhdoipbaaaDoor.N_Num Go.Proofs.YtnnhnnhdoipbaaaDoor.N_Read Go.Proofs.YtnnhnnhdoipbaaaDoor.N_Lay

theorem z_field42_0 : fieldB Tryd.prog 42 0 = some 0 := by kernel_rfl
theorem z_agg3 : aggB Tryd.prog 3 = some false := by kernel_rfl
theorem q_ix_c4_0 {a0 a1 a2 a3 : Value} : (a0 :: a1 :: a2 :: a3 :: [])[0]? = some a0 := ix_0
theorem z_field42_1 : fieldB Tryd.prog 42 1 = some 1 := by kernel_rfl
theorem q_ix_c4_1 {a0 a1 a2 a3 : Value} : (a0 :: a1 :: a2 :: a3 :: [])[1]? = some a1 := (ix_c (o := 0) ix_0)
theorem z_field42_2 : fieldB Tryd.prog 42 2 = some 2 := by kernel_rfl
theorem q_ix_c4_2 {a0 a1 a2 a3 : Value} : (a0 :: a1 :: a2 :: a3 :: [])[2]? = some a2 := (ix_c (o := 1) (ix_c (o := 0) ix_0))
theorem z_size3 : sizeB Tryd.prog 3 = some 1 := by kernel_rfl
theorem z_zero3 : zeroL Tryd.prog 3 = some ([.int .i64 0]) := by kernel_rfl
theorem z_call47 : callB Tryd.prog 47 = true := by kernel_rfl
theorem z_field42_3 : fieldB Tryd.prog 42 3 = some 3 := by kernel_rfl
theorem z_agg40 : aggB Tryd.prog 40 = some false := by kernel_rfl
theorem q_ix_c4_3 {a0 a1 a2 a3 : Value} : (a0 :: a1 :: a2 :: a3 :: [])[3]? = some a3 := (ix_c (o := 2) (ix_c (o := 1) (ix_c (o := 0) ix_0)))
theorem z_call36 : callB Tryd.prog 36 = true := by kernel_rfl
theorem z_size75 : sizeB Tryd.prog 75 = some 2 := by kernel_rfl
theorem z_agg75 : aggB Tryd.prog 75 = some true := by kernel_rfl
theorem z_zeroN75 : zeroL Tryd.prog 75 = some ((.bool false :: (.string ⟨#[]⟩ :: []))) := by kernel_rfl
theorem q_one_c2 {a0 a1 : Value} (o0 : a0.oneCell' = true) (o1 : a1.oneCell' = true) : (a0 :: a1 :: []).all (·.oneCell') = true := (one_c o0 (one_c o1 one_n))
theorem q_len_c2 {a0 a1 : Value} : (a0 :: a1 :: []).length = 2 := (len_c (n := 1) (len_c (n := 0) len_n))
theorem q_spl_c2_0_c2 {a0 a1 : Value} {b0 b1 : Value} : spl (a0 :: a1 :: []) 0 (b0 :: b1 :: []) = b0 :: b1 :: [] := (spl_a (z := 2) (len_c (n := 1) (len_c (n := 0) len_n)) (len_c (n := 1) (len_c (n := 0) len_n)))
theorem z_field75_1 : fieldB Tryd.prog 75 1 = some 1 := by kernel_rfl
theorem z_agg9 : aggB Tryd.prog 9 = some false := by kernel_rfl
theorem q_ix_c2_1 {a0 a1 : Value} : (a0 :: a1 :: [])[1]? = some a1 := (ix_c (o := 0) ix_0)
theorem z_field75_0 : fieldB Tryd.prog 75 0 = some 0 := by kernel_rfl
theorem z_agg4 : aggB Tryd.prog 4 = some false := by kernel_rfl
theorem q_ix_c2_0 {a0 a1 : Value} : (a0 :: a1 :: [])[0]? = some a0 := ix_0
theorem z_size9 : sizeB Tryd.prog 9 = some 1 := by kernel_rfl
theorem z_zero9 : zeroL Tryd.prog 9 = some ([.string ⟨#[]⟩]) := by kernel_rfl
theorem z_slice49 : sliceB Tryd.prog 49 = some (9, 1, 16) := by kernel_rfl
theorem z_notint49 : notIntB Tryd.prog 49 = true := by kernel_rfl
theorem z_call35 : callB Tryd.prog 35 = true := by kernel_rfl

set_option maxRecDepth 100000 in
set_option maxHeartbeats 2000000 in
theorem nwbatch (b : Note.Batch) (wf : Note.Batch.Wf b) (A : Option Addr) (c : Nat) {w : World} (hR : Rd w A (Note.pc b.parts))  : Calls Tryd.prog 21 #[.agg (Note.Batch.cells b A c).toArray] w (Gives (.tuple #[str (Note.writeBatch b).1, .int .i64 (Note.writeBatch b).2]) [] w) := by
  have hpl := wf.len
  have lz32 : (List.replicate 32 (0 : UInt8)).length = 32 := List.length_replicate
  refine enterL (args := [.agg (Note.Batch.cells b A c).toArray]) Tryd.func21 rfl rfl (l := []) (Sep.refl _) ?_
  intro a0 H0
  refine wp_seq ?_
  refine reg ?_
  refine st_box rfl rfl (agg_cells _) rfl rfl rfl H0 ?_
  clear H0; intro b1 a1 wx1 H1
  refine plain (y_assign rfl rfl) rfl rfl rfl H1 ?_
  clear H1; intro a2 H2
  refine plain (y_assign rfl rfl) rfl rfl rfl H2 ?_
  clear H2; intro a3 H3
  refine fin ?_
  refine then_n ?_
  refine wp_seq ?_
  refine wp_seq ?_
  refine reg ?_
  refine plain (y_fieldB rfl z_field42_0 rfl (by first | (simp only [Nat.zero_add, Nat.add_zero, Nat.reduceAdd]; rfl) | rfl)) rfl rfl rfl H3 ?_
  clear H3; intro a4 H4
  refine plain (y_loadB rfl z_agg3 rfl (by repeat (first | exact Mh | apply Mt)) q_ix_c4_0) rfl rfl rfl H4 ?_
  clear H4; intro a5 H5
  refine plain (y_fieldB rfl z_field42_1 rfl (by first | (simp only [Nat.zero_add, Nat.add_zero, Nat.reduceAdd]; rfl) | rfl)) rfl rfl rfl H5 ?_
  clear H5; intro a6 H6
  refine plain (y_loadB rfl z_agg3 rfl (by repeat (first | exact Mh | apply Mt)) q_ix_c4_1) rfl rfl rfl H6 ?_
  clear H6; intro a7 H7
  refine plain (y_fieldB rfl z_field42_2 rfl (by first | (simp only [Nat.zero_add, Nat.add_zero, Nat.reduceAdd]; rfl) | rfl)) rfl rfl rfl H7 ?_
  clear H7; intro a8 H8
  refine plain (y_loadB rfl z_agg3 rfl (by repeat (first | exact Mh | apply Mt)) q_ix_c4_2) rfl rfl rfl H8 ?_
  clear H8; intro a9 H9
  refine st_buildSlice1 (xs := [.tmp 8, .tmp 10, .tmp 12]) rfl Tryd.underlying83 z_size3 z_zero3 rfl rfl rfl rfl rfl rfl rfl rfl rfl H9 ?_
  clear H9; intro b10 a10 wx10 H10
  refine st_callg rfl z_call47 rfl rfl rfl rfl H10 (nnum [b.seq, b.first, b.before] _ _ _ rfl (by simp) (Rd.ofSep (rd_blkA (by repeat (first | exact Mh | apply Mt))) H10.sep)) ?_
  clear H10; intro a11 wx11 H11
  refine plain ((by first | exact y_not_d rfl rfl | exact y_not rfl rfl)) rfl rfl rfl H11 ?_
  clear H11; intro a12 H12
  refine plain (y_move rfl rfl) rfl rfl rfl H12 ?_
  clear H12; intro a13 H13
  refine Sx.part (d := 16) H13 rfl (fun hg14 => ?_) (fun hg14 => ?_)
  · first
    | fail
    | skip
      clear H13; intro H15
      try simp only [decide_eq_true_eq, decide_eq_false_iff_not, Bool.not_eq_true', Bool.not_eq_false', Bool.and_eq_true, Bool.not_eq_true, Bool.not_eq_false] at hg14
      refine skip rfl rfl rfl H15 ?_
      clear H15; intro a16 H16
      refine skip rfl rfl rfl H16 ?_
      clear H16; intro a17 H17
      refine skip rfl rfl rfl H17 ?_
      clear H17; intro a18 H18
      refine skip rfl rfl rfl H18 ?_
      clear H18; intro a19 H19
      refine plain (y_pick_t rfl rfl rfl) rfl rfl rfl H19 ?_
      clear H19; intro a20 H20
      refine fin ?_
      refine then_n ?_
      refine cnd_t H20 rfl ?_
      refine wp_seq ?_
      refine reg ?_
      refine plain (y_assign rfl rfl) rfl rfl rfl H20 ?_
      clear H20; intro a22 H22
      refine plain (y_assign rfl rfl) rfl rfl rfl H22 ?_
      clear H22; intro a23 H23
      refine fin ?_
      refine then_n ?_
      refine wp_ret ?_
      refine then_r ?_
      -- return 1
      refine ret2 rfl H23 rfl rfl ?_
      refine ⟨_, [], rfl, ⟨?_, rfl⟩, H23.sep.sub (List.nil_sublist _)⟩
      clear H23
      first | (rw [Note.writeBatch_bad (by intro h; first | omega | exact Bool.noConfusion (h.1.symm.trans (show Note.nums [b.seq, b.first, b.before] = false by assumption)))]) | (rw [Note.writeBatch_at (k := k) (by omega) (by first | exact Note.Part.ok_long (by omega) | exact Note.Part.ok_full (by assumption) (by assumption))]) | (rw [Note.writeBatch_ok (k := k) (by assumption) (by omega) hok.2 (by omega)])
  · first
    | fail
    | skip
      clear H13; intro H24
      try simp only [decide_eq_true_eq, decide_eq_false_iff_not, Bool.not_eq_true', Bool.not_eq_false', Bool.and_eq_true, Bool.not_eq_true, Bool.not_eq_false] at hg14
      refine plain (y_fieldB rfl z_field42_3 rfl (by first | (simp only [Nat.zero_add, Nat.add_zero, Nat.reduceAdd]; rfl) | rfl)) rfl rfl rfl H24 ?_
      clear H24; intro a25 H25
      refine plain (y_loadB rfl z_agg40 rfl (by repeat (first | exact Mh | apply Mt)) q_ix_c4_3) rfl rfl rfl H25 ?_
      clear H25; intro a26 H26
      refine plain (y_len rfl Tryd.underlying40 rfl) rfl rfl rfl H26 ?_
      clear H26; intro a27 H27
      refine plain (y_gtr rfl rfl rfl) rfl rfl rfl H27 ?_
      clear H27; intro a28 H28
      refine plain (y_pick_f rfl rfl rfl) rfl rfl rfl H28 ?_
      clear H28; intro a29 H29
      refine fin ?_
      refine then_n ?_
      refine cnd H29 rfl (fun hc30 => ?_) (fun hc30 => ?_) -- cond 2
      · skip
        try simp only [decide_eq_true_eq, decide_eq_false_iff_not, Bool.not_eq_true', Bool.not_eq_false', Bool.and_eq_true, Bool.not_eq_true, Bool.not_eq_false] at hc30
        refine wp_seq ?_
        refine reg ?_
        refine plain (y_assign rfl rfl) rfl rfl rfl H29 ?_
        clear H29; intro a31 H31
        refine plain (y_assign rfl rfl) rfl rfl rfl H31 ?_
        clear H31; intro a32 H32
        refine fin ?_
        refine then_n ?_
        refine wp_ret ?_
        refine then_r ?_
        -- return 2
        refine ret2 rfl H32 rfl rfl ?_
        refine ⟨_, [], rfl, ⟨?_, rfl⟩, H32.sep.sub (List.nil_sublist _)⟩
        clear H32
        first | (rw [Note.writeBatch_bad (by intro h; first | omega | exact Bool.noConfusion (h.1.symm.trans (show Note.nums [b.seq, b.first, b.before] = false by assumption)))]) | (rw [Note.writeBatch_at (k := k) (by omega) (by first | exact Note.Part.ok_long (by omega) | exact Note.Part.ok_full (by assumption) (by assumption))]) | (rw [Note.writeBatch_ok (k := k) (by assumption) (by omega) hok.2 (by omega)])
      · skip
        try simp only [decide_eq_true_eq, decide_eq_false_iff_not, Bool.not_eq_true', Bool.not_eq_false', Bool.and_eq_true, Bool.not_eq_true, Bool.not_eq_false] at hc30
        refine wp_skip ?_
        refine then_n ?_
        refine wp_seq ?_
        refine reg ?_
        refine plain (y_fieldB rfl z_field42_0 rfl (by first | (simp only [Nat.zero_add, Nat.add_zero, Nat.reduceAdd]; rfl) | rfl)) rfl rfl rfl H29 ?_
        clear H29; intro a33 H33
        refine plain (y_loadB rfl z_agg3 rfl (by repeat (first | exact Mh | apply Mt)) q_ix_c4_0) rfl rfl rfl H33 ?_
        clear H33; intro a34 H34
        refine plain (y_fieldB rfl z_field42_1 rfl (by first | (simp only [Nat.zero_add, Nat.add_zero, Nat.reduceAdd]; rfl) | rfl)) rfl rfl rfl H34 ?_
        clear H34; intro a35 H35
        refine plain (y_loadB rfl z_agg3 rfl (by repeat (first | exact Mh | apply Mt)) q_ix_c4_1) rfl rfl rfl H35 ?_
        clear H35; intro a36 H36
        refine plain (y_fieldB rfl z_field42_2 rfl (by first | (simp only [Nat.zero_add, Nat.add_zero, Nat.reduceAdd]; rfl) | rfl)) rfl rfl rfl H36 ?_
        clear H36; intro a37 H37
        refine plain (y_loadB rfl z_agg3 rfl (by repeat (first | exact Mh | apply Mt)) q_ix_c4_2) rfl rfl rfl H37 ?_
        clear H37; intro a38 H38
        refine st_buildSlice1 (xs := [.tmp 23, .tmp 25, .tmp 27]) rfl Tryd.underlying83 z_size3 z_zero3 rfl rfl rfl rfl rfl rfl rfl rfl rfl H38 ?_
        clear H38; intro b39 a39 wx39 H39
        refine st_call rfl z_call36 rfl rfl rfl rfl H39 (nlay [b.seq, b.first, b.before] _ _ _ rfl (by simp) (by intro x hx; simp only [List.mem_cons, List.not_mem_nil, or_false] at hx; rcases hx with rfl | rfl | rfl <;> first | exact wf.seq.2 | exact wf.first.2 | exact wf.before.2) (Rd.ofSep (rd_blkA (by repeat (first | exact Mh | apply Mt))) H39.sep)) ?_
        clear H39; intro v40 l40 a40 wx40 hf40 H40
        obtain rfl := hf40
        simp only [List.cons_append, List.nil_append] at H40
        obtain ⟨ArT, crT, hvrT, hRrT, hmrT⟩ := row_shape (v := v40) H40.sep (by repeat (first | exact Mh | apply Mt))
        subst hvrT
        refine plain (y_assign rfl rfl) rfl rfl rfl H40 ?_
        clear H40; intro a41 H41
        refine fin ?_
        refine then_n ?_
        refine wp_seq ?_
        refine wp_seq ?_
        refine reg ?_
        refine plain (y_fieldB rfl z_field42_3 rfl (by first | (simp only [Nat.zero_add, Nat.add_zero, Nat.reduceAdd]; rfl) | rfl)) rfl rfl rfl H41 ?_
        clear H41; intro a42 H42
        refine plain (y_loadB rfl z_agg40 rfl (by repeat (first | exact Mh | apply Mt)) q_ix_c4_3) rfl rfl rfl H42 ?_
        clear H42; intro a43 H43
        refine plain (y_len rfl Tryd.underlying40 rfl) rfl rfl rfl H43 ?_
        clear H43; intro a44 H44
        refine plain (y_move rfl rfl) rfl rfl rfl H44 ?_
        clear H44; intro a45 H45
        refine fin ?_
        refine then_n ?_
        refine wp_block ?_
        refine loop (ι := Nat × Value) (fun x => [(1, .pointer (some ⟨b1, 0, none⟩)), (4, x.2), (31, .slice A b.parts.length c), (32, .int .i64 (b.parts.length : Int)), (33, .int .i64 (x.1 : Int))]) (fun x => [It.row 9 1 x.2 (3 + x.1) (([Note.num b.seq, Note.num b.first, Note.num b.before] ++ (b.parts.take x.1).map Note.Part.laid).map str), It.blk b1 42 (Note.Batch.cells b A c)]) (fun x => x.1 ≤ b.parts.length ∧ (b.parts.take x.1).all Note.Part.ok = true) (fun x => b.parts.length - x.1) ((0, .slice ArT 3 crT)) ⟨Nat.zero_le _, rfl⟩ ((H45.drop (by first | exact S0 | exact S1 | repeat (first | exact S1 | exact S0 | apply S2 | apply S3))).weak ⟨rfl, rfl, rfl, rfl, rfl, trivial⟩ (ir2 rfl rfl rfl)) ?_
        clear H45; intro x a46 wx46 hok46 H46
        obtain ⟨k, v⟩ := x
        dsimp only at hok46 H46
        have hok := hok46
        obtain ⟨Av, cv, hv, hRv, hmv⟩ := row_shape (v := v) H46.sep (by repeat (first | exact Mh | apply Mt))
        subst hv
        refine wp_seq ?_
        refine reg ?_
        refine plain (y_lss rfl rfl rfl) rfl rfl rfl H46 ?_
        clear H46; intro a47 H47
        refine fin ?_
        refine then_n ?_
        refine wp_seq ?_
        refine cnd H47 rfl (fun hc48 => ?_) (fun hc48 => ?_) -- cond 3
        · skip
          try simp only [decide_eq_true_eq, decide_eq_false_iff_not, Bool.not_eq_true', Bool.not_eq_false', Bool.and_eq_true, Bool.not_eq_true, Bool.not_eq_false] at hc48
          refine wp_skip ?_
          refine then_n ?_
          refine wp_seq ?_
          refine wp_block ?_
          refine wp_seq ?_
          refine reg ?_
          refine plain (y_ixR rfl Tryd.underlying40 z_size75 rfl rfl (by omega) (by omega) (rd_old (by assumption) (by simp)) (by rw [Note.pc_len]; omega)) rfl rfl rfl H47 ?_
          clear H47; intro a49 H49
          refine plain (y_loadAS rfl z_agg75 z_size75 rfl (rd_old (by assumption) (by simp)) (show _ = Note.Part.cells (b.parts.getD k ⟨false, []⟩) from Note.pc_take k (by omega)) rfl (by decide)) rfl rfl rfl H49 ?_
          clear H49; intro a50 H50
          refine st_alloc rfl z_zeroN75 rfl rfl rfl H50 ?_
          clear H50; intro b51 a51 wx51 H51
          refine st_storeN rfl z_size75 rfl rfl (agg_cells _) (by repeat (first | exact Uh | apply Ut)) (q_one_c2 rfl rfl) q_len_c2 q_len_c2 q_spl_c2_0_c2 (by decide) rfl rfl H51 ?_
          clear H51; intro wx52 H52
          refine fin ?_
          refine then_n ?_
          refine wp_block ?_
          refine wp_seq ?_
          refine wp_seq ?_
          refine reg ?_
          refine plain (y_fieldB rfl z_field75_1 rfl (by first | (simp only [Nat.zero_add, Nat.add_zero, Nat.reduceAdd]; rfl) | rfl)) rfl rfl rfl H52 ?_
          clear H52; intro a53 H53
          refine plain (y_loadB rfl z_agg9 rfl (by repeat (first | exact Mh | apply Mt)) q_ix_c2_1) rfl rfl rfl H53 ?_
          clear H53; intro a54 H54
          refine plain (y_slen rfl Tryd.underlying9 rfl) rfl rfl rfl H54 ?_
          clear H54; intro a55 H55
          refine plain (y_gtr rfl rfl rfl) rfl rfl rfl H55 ?_
          clear H55; intro a56 H56
          refine plain (y_assign rfl rfl) rfl rfl rfl H56 ?_
          clear H56; intro a57 H57
          refine fin ?_
          refine then_n ?_
          refine cnd H57 rfl (fun hc58 => ?_) (fun hc58 => ?_) -- cond 4
          · skip
            try simp only [decide_eq_true_eq, decide_eq_false_iff_not, Bool.not_eq_true', Bool.not_eq_false', Bool.and_eq_true, Bool.not_eq_true, Bool.not_eq_false] at hc58
            refine wp_skip ?_
            refine then_n ?_
            refine cnd H57 rfl (fun hc59 => ?_) (fun hc59 => ?_) -- cond 5
            · skip
              try simp only [decide_eq_true_eq, decide_eq_false_iff_not, Bool.not_eq_true', Bool.not_eq_false', Bool.and_eq_true, Bool.not_eq_true, Bool.not_eq_false] at hc59
              refine wp_seq ?_
              refine reg ?_
              refine plain (y_assign rfl rfl) rfl rfl rfl H57 ?_
              clear H57; intro a60 H60
              refine plain (y_assign rfl rfl) rfl rfl rfl H60 ?_
              clear H60; intro a61 H61
              refine fin ?_
              refine then_n ?_
              refine wp_ret ?_
              refine inb_r ?_
              refine inb_r ?_
              refine then_r ?_
              refine then_r ?_
              refine inb_r ?_
              refine then_r ?_
              -- return 3
              refine ret2 rfl H61 rfl rfl ?_
              refine ⟨_, [], rfl, ⟨?_, rfl⟩, H61.sep.sub (List.nil_sublist _)⟩
              clear H61
              first | (rw [Note.writeBatch_bad (by intro h; first | omega | exact Bool.noConfusion (h.1.symm.trans (show Note.nums [b.seq, b.first, b.before] = false by assumption)))]) | (rw [Note.writeBatch_at (k := k) (by omega) (by first | exact Note.Part.ok_long (by omega) | exact Note.Part.ok_full (by assumption) (by assumption))]) | (rw [Note.writeBatch_ok (k := k) (by assumption) (by omega) hok.2 (by omega)])
            · (try simp only [decide_eq_true_eq, decide_eq_false_iff_not, Bool.not_eq_true', Bool.not_eq_false', Bool.and_eq_true, Bool.not_eq_true, Bool.not_eq_false] at hc59); (exfalso; omega)
          · skip
            try simp only [decide_eq_true_eq, decide_eq_false_iff_not, Bool.not_eq_true', Bool.not_eq_false', Bool.and_eq_true, Bool.not_eq_true, Bool.not_eq_false] at hc58
            refine reg ?_
            refine plain (y_fieldB rfl z_field75_0 rfl (by first | (simp only [Nat.zero_add, Nat.add_zero, Nat.reduceAdd]; rfl) | rfl)) rfl rfl rfl H57 ?_
            clear H57; intro a62 H62
            refine plain (y_loadB rfl z_agg4 rfl (by repeat (first | exact Mh | apply Mt)) q_ix_c2_0) rfl rfl rfl H62 ?_
            clear H62; intro a63 H63
            refine plain (y_move rfl rfl) rfl rfl rfl H63 ?_
            clear H63; intro a64 H64
            refine Sx.part (d := 50) H64 rfl (fun hg65 => ?_) (fun hg65 => ?_)
            · first
              | fail
              | skip
                clear H64; intro H66
                try simp only [decide_eq_true_eq, decide_eq_false_iff_not, Bool.not_eq_true', Bool.not_eq_false', Bool.and_eq_true, Bool.not_eq_true, Bool.not_eq_false] at hg65
                refine plain (y_fieldB rfl z_field75_1 rfl (by first | (simp only [Nat.zero_add, Nat.add_zero, Nat.reduceAdd]; rfl) | rfl)) rfl rfl rfl H66 ?_
                clear H66; intro a67 H67
                refine plain (y_loadB rfl z_agg9 rfl (by repeat (first | exact Mh | apply Mt)) q_ix_c2_1) rfl rfl rfl H67 ?_
                clear H67; intro a68 H68
                refine plain (y_sneq rfl rfl rfl) rfl rfl rfl H68 ?_
                clear H68; intro a69 H69
                refine plain (y_pick_t rfl rfl rfl) rfl rfl rfl H69 ?_
                clear H69; intro a70 H70
                refine plain (y_assign rfl rfl) rfl rfl rfl H70 ?_
                clear H70; intro a71 H71
                refine fin ?_
                refine then_n ?_
                refine cnd H71 rfl (fun hc72 => ?_) (fun hc72 => ?_) -- cond 6
                · skip
                  try simp only [decide_eq_true_eq, decide_eq_false_iff_not, Bool.not_eq_true', Bool.not_eq_false', Bool.and_eq_true, Bool.not_eq_true, Bool.not_eq_false] at hc72
                  refine wp_seq ?_
                  refine reg ?_
                  refine plain (y_assign rfl rfl) rfl rfl rfl H71 ?_
                  clear H71; intro a73 H73
                  refine plain (y_assign rfl rfl) rfl rfl rfl H73 ?_
                  clear H73; intro a74 H74
                  refine fin ?_
                  refine then_n ?_
                  refine wp_ret ?_
                  refine inb_r ?_
                  refine inb_r ?_
                  refine then_r ?_
                  refine then_r ?_
                  refine inb_r ?_
                  refine then_r ?_
                  -- return 4
                  refine ret2 rfl H74 rfl rfl ?_
                  refine ⟨_, [], rfl, ⟨?_, rfl⟩, H74.sep.sub (List.nil_sublist _)⟩
                  clear H74
                  first | (rw [Note.writeBatch_bad (by intro h; first | omega | exact Bool.noConfusion (h.1.symm.trans (show Note.nums [b.seq, b.first, b.before] = false by assumption)))]) | (rw [Note.writeBatch_at (k := k) (by omega) (by first | exact Note.Part.ok_long (by omega) | exact Note.Part.ok_full (by assumption) (by assumption))]) | (rw [Note.writeBatch_ok (k := k) (by assumption) (by omega) hok.2 (by omega)])
                · skip
                  try simp only [decide_eq_true_eq, decide_eq_false_iff_not, Bool.not_eq_true', Bool.not_eq_false', Bool.and_eq_true, Bool.not_eq_true, Bool.not_eq_false] at hc72
                  refine wp_seq ?_
                  refine reg ?_
                  refine plain (y_fieldB rfl z_field75_0 rfl (by first | (simp only [Nat.zero_add, Nat.add_zero, Nat.reduceAdd]; rfl) | rfl)) rfl rfl rfl H71 ?_
                  clear H71; intro a75 H75
                  refine plain (y_loadB rfl z_agg4 rfl (by repeat (first | exact Mh | apply Mt)) q_ix_c2_0) rfl rfl rfl H75 ?_
                  clear H75; intro a76 H76
                  refine plain (y_assign rfl rfl) rfl rfl rfl H76 ?_
                  clear H76; intro a77 H77
                  refine fin ?_
                  refine then_n ?_
                  refine cnd H77 rfl (fun hc78 => ?_) (fun hc78 => ?_) -- cond 7
                  · skip
                    try simp only [decide_eq_true_eq, decide_eq_false_iff_not, Bool.not_eq_true', Bool.not_eq_false', Bool.and_eq_true, Bool.not_eq_true, Bool.not_eq_false] at hc78
                    refine reg ?_
                    refine plain (y_move rfl rfl) rfl rfl rfl H77 ?_
                    clear H77; intro a79 H79
                    refine st_buildSlice1 (xs := [.const (.string ⟨#[2]⟩)]) rfl Tryd.underlying49 z_size9 z_zero9 rfl rfl rfl rfl rfl rfl rfl rfl rfl H79 ?_
                    clear H79; intro b80 a80 wx80 H80
                    refine st_append rfl z_slice49 z_notint49 rfl rfl (fun _ => (by repeat (first | exact Uh | apply Ut))) (fun w hs => Src.slice ((rd_blkA (by repeat (first | exact Mh | apply Mt))) w hs) rfl (by simp [Value.oneCell'])) (by unfold maxLen at *; first | omega | (simp only [List.length_cons, List.length_nil, List.length_append, List.length_map]; omega)) (by first | omega | (simp only [List.length_cons, List.length_nil, List.length_append, List.length_map]; omega)) rfl rfl rfl H80 ?_
                    clear H80; intro v81 a81 wx81 hnil81 H81
                    obtain ⟨Ar81, cr81, hvr81, hRr81, hmr81⟩ := row_shape (v := v81) H81.sep (by repeat (first | exact Mh | apply Mt))
                    subst hvr81
                    refine plain (y_assign rfl rfl) rfl rfl rfl H81 ?_
                    clear H81; intro a82 H82
                    refine fin ?_
                    refine inb_n ?_
                    refine inb_n ?_
                    refine then_n ?_
                    refine reg ?_
                    refine plain (y_add rfl rfl rfl (by first | exact w64 (by omega) (by omega) | rfl)) rfl rfl rfl H82 ?_
                    clear H82; intro a83 H83
                    refine plain (y_move rfl rfl) rfl rfl rfl H83 ?_
                    clear H83; intro a84 H84
                    refine fin ?_
                    refine then_n ?_
                    have hpk : (b.parts.getD k ⟨false, []⟩).ok = true := by rw [Note.Part.ok_is]; exact decide_eq_true (by simp_all)
                    refine ⟨(k + 1, (.slice Ar81 _ cr81)), by dsimp only; omega, ⟨by dsimp only; omega, Note.take_all ⟨false, []⟩ (by omega) hok.2 hpk⟩, (H84.drop (by first | exact S0 | exact S1 | repeat (first | exact S1 | exact S0 | apply S2 | apply S3))).weak ⟨rfl, rfl, rfl, rfl, fi rfl (by dsimp only; omega), trivial⟩ (ir2 (by first | rfl | (dsimp only; omega)) ?_ rfl)⟩
                    dsimp only
                    rw [Note.laid_step (t := _) (by omega) (show (b.parts.getD k ⟨false, []⟩).laid = [2] by unfold Note.Part.laid; rw [if_pos (by assumption)])]
                    exact Note.snoc_str _ _ _ rfl
                  · (try simp only [decide_eq_true_eq, decide_eq_false_iff_not, Bool.not_eq_true', Bool.not_eq_false', Bool.and_eq_true, Bool.not_eq_true, Bool.not_eq_false] at hc78); (exfalso; simp_all)
            · first
              | fail
              | skip
                clear H64; intro H85
                try simp only [decide_eq_true_eq, decide_eq_false_iff_not, Bool.not_eq_true', Bool.not_eq_false', Bool.and_eq_true, Bool.not_eq_true, Bool.not_eq_false] at hg65
                refine skip rfl rfl rfl H85 ?_
                clear H85; intro a86 H86
                refine skip rfl rfl rfl H86 ?_
                clear H86; intro a87 H87
                refine skip rfl rfl rfl H87 ?_
                clear H87; intro a88 H88
                refine plain (y_pick_f rfl rfl rfl) rfl rfl rfl H88 ?_
                clear H88; intro a89 H89
                refine plain (y_assign rfl rfl) rfl rfl rfl H89 ?_
                clear H89; intro a90 H90
                refine fin ?_
                refine then_n ?_
                refine cnd_f H90 rfl ?_
                refine wp_seq ?_
                refine reg ?_
                refine plain (y_fieldB rfl z_field75_0 rfl (by first | (simp only [Nat.zero_add, Nat.add_zero, Nat.reduceAdd]; rfl) | rfl)) rfl rfl rfl H90 ?_
                clear H90; intro a92 H92
                refine plain (y_loadB rfl z_agg4 rfl (by repeat (first | exact Mh | apply Mt)) q_ix_c2_0) rfl rfl rfl H92 ?_
                clear H92; intro a93 H93
                refine plain (y_assign rfl rfl) rfl rfl rfl H93 ?_
                clear H93; intro a94 H94
                refine fin ?_
                refine then_n ?_
                refine cnd H94 rfl (fun hc95 => ?_) (fun hc95 => ?_) -- cond 9
                · (try simp only [decide_eq_true_eq, decide_eq_false_iff_not, Bool.not_eq_true', Bool.not_eq_false', Bool.and_eq_true, Bool.not_eq_true, Bool.not_eq_false] at hc95); (exfalso; simp_all)
                · skip
                  try simp only [decide_eq_true_eq, decide_eq_false_iff_not, Bool.not_eq_true', Bool.not_eq_false', Bool.and_eq_true, Bool.not_eq_true, Bool.not_eq_false] at hc95
                  refine reg ?_
                  refine plain (y_move rfl rfl) rfl rfl rfl H94 ?_
                  clear H94; intro a96 H96
                  refine plain (y_fieldB rfl z_field75_1 rfl (by first | (simp only [Nat.zero_add, Nat.add_zero, Nat.reduceAdd]; rfl) | rfl)) rfl rfl rfl H96 ?_
                  clear H96; intro a97 H97
                  refine plain (y_loadB rfl z_agg9 rfl (by repeat (first | exact Mh | apply Mt)) q_ix_c2_1) rfl rfl rfl H97 ?_
                  clear H97; intro a98 H98
                  have hpt := wf.texts (b.parts.getD k ⟨false, []⟩) (by rw [Oct.getD_eq _ (by omega)]; exact List.getElem_mem _)
                  refine plain (y_sadd rfl rfl rfl (by simp only [List.length_cons, List.length_nil]; omega)) rfl rfl rfl H98 ?_
                  clear H98; intro a99 H99
                  refine st_buildSlice1 (xs := [.tmp 40]) rfl Tryd.underlying49 z_size9 z_zero9 rfl rfl rfl rfl rfl rfl rfl rfl rfl H99 ?_
                  clear H99; intro b100 a100 wx100 H100
                  refine st_append rfl z_slice49 z_notint49 rfl rfl (fun _ => (by repeat (first | exact Uh | apply Ut))) (fun w hs => Src.slice ((rd_blkA (by repeat (first | exact Mh | apply Mt))) w hs) rfl (by simp [Value.oneCell'])) (by unfold maxLen at *; first | omega | (simp only [List.length_cons, List.length_nil, List.length_append, List.length_map]; omega)) (by first | omega | (simp only [List.length_cons, List.length_nil, List.length_append, List.length_map]; omega)) rfl rfl rfl H100 ?_
                  clear H100; intro v101 a101 wx101 hnil101 H101
                  obtain ⟨Ar101, cr101, hvr101, hRr101, hmr101⟩ := row_shape (v := v101) H101.sep (by repeat (first | exact Mh | apply Mt))
                  subst hvr101
                  refine plain (y_assign rfl rfl) rfl rfl rfl H101 ?_
                  clear H101; intro a102 H102
                  refine fin ?_
                  refine inb_n ?_
                  refine inb_n ?_
                  refine then_n ?_
                  refine reg ?_
                  refine plain (y_add rfl rfl rfl (by first | exact w64 (by omega) (by omega) | rfl)) rfl rfl rfl H102 ?_
                  clear H102; intro a103 H103
                  refine plain (y_move rfl rfl) rfl rfl rfl H103 ?_
                  clear H103; intro a104 H104
                  refine fin ?_
                  refine then_n ?_
                  have hpk : (b.parts.getD k ⟨false, []⟩).ok = true := by rw [Note.Part.ok_is]; exact decide_eq_true (by refine ⟨fun h => ?_, fun _ => by omega⟩; simp_all)
                  refine ⟨(k + 1, (.slice Ar101 _ cr101)), by dsimp only; omega, ⟨by dsimp only; omega, Note.take_all ⟨false, []⟩ (by omega) hok.2 hpk⟩, (H104.drop (by first | exact S0 | exact S1 | repeat (first | exact S1 | exact S0 | apply S2 | apply S3))).weak ⟨rfl, rfl, rfl, rfl, fi rfl (by dsimp only; omega), trivial⟩ (ir2 (by first | rfl | (dsimp only; omega)) ?_ rfl)⟩
                  dsimp only
                  rw [Note.laid_step (t := _) (by omega) (show (b.parts.getD k ⟨false, []⟩).laid = 1 :: (b.parts.getD k ⟨false, []⟩).text by unfold Note.Part.laid; rw [if_neg (by simp_all)])]
                  exact Note.snoc_str _ _ _ rfl
        · skip
          try simp only [decide_eq_true_eq, decide_eq_false_iff_not, Bool.not_eq_true', Bool.not_eq_false', Bool.and_eq_true, Bool.not_eq_true, Bool.not_eq_false] at hc48
          refine wp_exit ?_
          refine then_x ?_
          refine then_x ?_
          refine inb_hit ?_
          refine then_n ?_
          refine wp_seq ?_
          refine reg ?_
          refine plain (y_move rfl rfl) rfl rfl rfl H47 ?_
          clear H47; intro a105 H105
          refine st_callg rfl z_call35 rfl rfl rfl rfl H105 (nwrite ([Note.num b.seq, Note.num b.first, Note.num b.before] ++ (b.parts.take k).map Note.Part.laid) _ _ _ (by simp; omega) (Rd.ofSep (rd_row (by repeat (first | exact Mh | apply Mt))) H105.sep) (by simp; omega)) ?_
          clear H105; intro a106 wx106 H106
          refine plain (y_extract rfl rfl rfl) rfl rfl rfl H106 ?_
          clear H106; intro a107 H107
          refine plain (y_extract rfl rfl rfl) rfl rfl rfl H107 ?_
          clear H107; intro a108 H108
          refine plain (y_assign rfl rfl) rfl rfl rfl H108 ?_
          clear H108; intro a109 H109
          refine plain (y_assign rfl rfl) rfl rfl rfl H109 ?_
          clear H109; intro a110 H110
          refine fin ?_
          refine then_n ?_
          refine wp_ret ?_
          -- return 5
          refine ret2 rfl H110 rfl rfl ?_
          refine ⟨_, [], rfl, ⟨?_, rfl⟩, H110.sep.sub (List.nil_sublist _)⟩
          clear H110
          first | (rw [Note.writeBatch_bad (by intro h; first | omega | exact Bool.noConfusion (h.1.symm.trans (show Note.nums [b.seq, b.first, b.before] = false by assumption)))]) | (rw [Note.writeBatch_at (k := k) (by omega) (by first | exact Note.Part.ok_long (by omega) | exact Note.Part.ok_full (by assumption) (by assumption))]) | (rw [Note.writeBatch_ok (k := k) (by assumption) (by omega) hok.2 (by omega)])

end Go.Proofs.YtnnhnnhdoipbaaaDoor.N_WBatch

set_option linter.unusedVariables false
set_option linter.unusedSimpArgs false
namespace Go.Proofs.YtnnhnnhdoipbaaaDoor.N_RBatch
open Go.Sx Go.RowKit Go.Proofs.YtnnhnnhdoipbaaaDoor.N_Num Go.Proofs.YtnnhnnhdoipbaaaDoor.N_Read Go.Proofs.YtnnhnnhdoipbaaaDoor.N_Lay Go.Proofs.YtnnhnnhdoipbaaaDoor.N_Fields

theorem z_field42_0 : fieldB Tryd.prog 42 0 = some 0 := by kernel_rfl
theorem z_field42_1 : fieldB Tryd.prog 42 1 = some 1 := by kernel_rfl
theorem z_field42_2 : fieldB Tryd.prog 42 2 = some 2 := by kernel_rfl
theorem z_size80 : sizeB Tryd.prog 80 = some 1 := by kernel_rfl
theorem z_zero80 : zeroL Tryd.prog 80 = some ([.pointer none]) := by kernel_rfl
theorem z_call51 : callB Tryd.prog 51 = true := by kernel_rfl
theorem z_agg3 : aggB Tryd.prog 3 = some false := by kernel_rfl
theorem q_ix_c4_0 {a0 a1 a2 a3 : Value} : (a0 :: a1 :: a2 :: a3 :: [])[0]? = some a0 := ix_0
theorem q_ix_c4_1 {a0 a1 a2 a3 : Value} : (a0 :: a1 :: a2 :: a3 :: [])[1]? = some a1 := (ix_c (o := 0) ix_0)
theorem q_ix_c4_2 {a0 a1 a2 a3 : Value} : (a0 :: a1 :: a2 :: a3 :: [])[2]? = some a2 := (ix_c (o := 1) (ix_c (o := 0) ix_0))
theorem z_size3 : sizeB Tryd.prog 3 = some 1 := by kernel_rfl
theorem z_zero3 : zeroL Tryd.prog 3 = some ([.int .i64 0]) := by kernel_rfl
theorem z_call47 : callB Tryd.prog 47 = true := by kernel_rfl
theorem z_size9 : sizeB Tryd.prog 9 = some 1 := by kernel_rfl
theorem z_agg9 : aggB Tryd.prog 9 = some false := by kernel_rfl
theorem z_size42 : sizeB Tryd.prog 42 = some 4 := by kernel_rfl
theorem q_len_c4 {a0 a1 a2 a3 : Value} : (a0 :: a1 :: a2 :: a3 :: []).length = 4 := (len_c (n := 3) (len_c (n := 2) (len_c (n := 1) (len_c (n := 0) len_n))))
theorem z_agg42 : aggB Tryd.prog 42 = some true := by kernel_rfl
theorem z_field42_3 : fieldB Tryd.prog 42 3 = some 3 := by kernel_rfl
theorem z_agg40 : aggB Tryd.prog 40 = some false := by kernel_rfl
theorem q_ix_c4_3 {a0 a1 a2 a3 : Value} : (a0 :: a1 :: a2 :: a3 :: [])[3]? = some a3 := (ix_c (o := 2) (ix_c (o := 1) (ix_c (o := 0) ix_0)))
theorem z_zeroN75 : zeroL Tryd.prog 75 = some ((.bool false :: (.string ⟨#[]⟩ :: []))) := by kernel_rfl
theorem q_len_c2 {a0 a1 : Value} : (a0 :: a1 :: []).length = 2 := (len_c (n := 1) (len_c (n := 0) len_n))
theorem z_size75 : sizeB Tryd.prog 75 = some 2 := by kernel_rfl
theorem q_ld_c4_0_4 {a0 a1 a2 a3 : Value} : ((a0 :: a1 :: a2 :: a3 :: []).drop 0).take 4 = a0 :: a1 :: a2 :: a3 :: [] := (ld_a (len_c (n := 3) (len_c (n := 2) (len_c (n := 1) (len_c (n := 0) len_n)))))

end Go.Proofs.YtnnhnnhdoipbaaaDoor.N_RBatch

set_option linter.unusedVariables false
set_option linter.unusedSimpArgs false
namespace Go.Proofs.YtnnhnnhdoipbaaaDoor.N_RefB
open Go.Sx Go.RowKit Go.Proofs.YtnnhnnhdoipbaaaDoor.N_Block Go.Proofs.YtnnhnnhdoipbaaaDoor.N_Sum Go.Proofs.YtnnhnnhdoipbaaaDoor.N_Ref Go.Proofs.YtnnhnnhdoipbaaaDoor.N_RSum Go.Proofs.YtnnhnnhdoipbaaaDoor.N_Leaf Go.Proofs.YtnnhnnhdoipbaaaDoor.N_Num Go.Proofs.YtnnhnnhdoipbaaaDoor.N_Key Go.Proofs.YtnnhnnhdoipbaaaDoor.N_Ref Go.Proofs.YtnnhnnhdoipbaaaDoor.N_RSum Go.Proofs.YtnnhnnhdoipbaaaDoor.N_Tag Go.Proofs.YtnnhnnhdoipbaaaDoor.N_Read Go.Proofs.YtnnhnnhdoipbaaaDoor.N_Lay Go.Proofs.YtnnhnnhdoipbaaaDoor.N_Eq Go.Proofs.YtnnhnnhdoipbaaaDoor.N_Ref0

theorem z_field25_0 : fieldB Tryd.prog 25 0 = some 0 := by kernel_rfl
theorem z_agg3 : aggB Tryd.prog 3 = some false := by kernel_rfl
theorem q_ix_c4b32_0 {a0 a1 a2 a3 : Value} {t4 : List UInt8} : (a0 :: a1 :: a2 :: a3 :: t4.map u8)[0]? = some a0 := ix_0
theorem z_call45 : callB Tryd.prog 45 = true := by kernel_rfl
theorem z_field25_1 : fieldB Tryd.prog 25 1 = some 1 := by kernel_rfl
theorem q_ix_c4b32_1 {a0 a1 a2 a3 : Value} {t4 : List UInt8} : (a0 :: a1 :: a2 :: a3 :: t4.map u8)[1]? = some a1 := (ix_c (o := 0) ix_0)
theorem z_field25_2 : fieldB Tryd.prog 25 2 = some 2 := by kernel_rfl
theorem q_ix_c4b32_2 {a0 a1 a2 a3 : Value} {t4 : List UInt8} : (a0 :: a1 :: a2 :: a3 :: t4.map u8)[2]? = some a2 := (ix_c (o := 1) (ix_c (o := 0) ix_0))
theorem z_field25_3 : fieldB Tryd.prog 25 3 = some 3 := by kernel_rfl
theorem q_ix_c4b32_3 {a0 a1 a2 a3 : Value} {t4 : List UInt8} : (a0 :: a1 :: a2 :: a3 :: t4.map u8)[3]? = some a3 := (ix_c (o := 2) (ix_c (o := 1) (ix_c (o := 0) ix_0)))
theorem z_agg25 : aggB Tryd.prog 25 = some true := by kernel_rfl
theorem z_size25 : sizeB Tryd.prog 25 = some 36 := by kernel_rfl
theorem q_ld_c4b32_0_36 {a0 a1 a2 a3 : Value} {t4 : List UInt8} (h4 : t4.length = 32) : ((a0 :: a1 :: a2 :: a3 :: t4.map u8).drop 0).take 36 = a0 :: a1 :: a2 :: a3 :: t4.map u8 := (ld_a (len_c (n := 35) (len_c (n := 34) (len_c (n := 33) (len_c (n := 32) (len_e (k := 32) h4))))))
theorem q_len_c4b32 {a0 a1 a2 a3 : Value} {t4 : List UInt8} (h4 : t4.length = 32) : (a0 :: a1 :: a2 :: a3 :: t4.map u8).length = 36 := (len_c (n := 35) (len_c (n := 34) (len_c (n := 33) (len_c (n := 32) (len_e (k := 32) h4)))))
theorem z_field25_4 : fieldB Tryd.prog 25 4 = some 4 := by kernel_rfl
theorem z_agg23 : aggB Tryd.prog 23 = some true := by kernel_rfl
theorem z_size23 : sizeB Tryd.prog 23 = some 32 := by kernel_rfl
theorem q_ld_c4b32_4_32 {a0 a1 a2 a3 : Value} {t4 : List UInt8} (h4 : t4.length = 32) : ((a0 :: a1 :: a2 :: a3 :: t4.map u8).drop 4).take 32 = t4.map u8 := (ld_c (o := 3) (ld_c (o := 2) (ld_c (o := 1) (ld_c (o := 0) (ld_a (len_e (k := 32) h4))))))
theorem q_len_b32 {t0 : List UInt8} (h0 : t0.length = 32) : (t0.map u8).length = 32 := (len_e (k := 32) h0)
theorem z_call39 : callB Tryd.prog 39 = true := by kernel_rfl
theorem z_size9 : sizeB Tryd.prog 9 = some 1 := by kernel_rfl
theorem z_zero9 : zeroL Tryd.prog 9 = some ([.string ⟨#[]⟩]) := by kernel_rfl
theorem z_call38 : callB Tryd.prog 38 = true := by kernel_rfl
theorem z_zeroN25 : zeroL Tryd.prog 25 = some ((.int .i64 0 :: (.int .i64 0 :: (.int .i64 0 :: (.int .i64 0 :: (List.replicate 32 (0 : UInt8)).map u8))))) := by kernel_rfl
theorem z_places25 : placesB Tryd.prog 25 = some [(0, 1), (1, 1), (2, 1), (3, 1), (4, 32)] := by kernel_rfl
theorem q_one_c4b32 {a0 a1 a2 a3 : Value} {t4 : List UInt8} (o0 : a0.oneCell' = true) (o1 : a1.oneCell' = true) (o2 : a2.oneCell' = true) (o3 : a3.oneCell' = true) : (a0 :: a1 :: a2 :: a3 :: t4.map u8).all (·.oneCell') = true := (one_c o0 (one_c o1 (one_c o2 (one_c o3 (one_u8 _)))))
theorem q_spl_c4b32_0_c4b32 {a0 a1 a2 a3 : Value} {t4 : List UInt8} {b0 b1 b2 b3 : Value} {s4 : List UInt8} (h4 : t4.length = 32) (g4 : s4.length = 32) : spl (a0 :: a1 :: a2 :: a3 :: t4.map u8) 0 (b0 :: b1 :: b2 :: b3 :: s4.map u8) = b0 :: b1 :: b2 :: b3 :: s4.map u8 := (spl_a (z := 36) (len_c (n := 35) (len_c (n := 34) (len_c (n := 33) (len_c (n := 32) (len_e (k := 32) h4))))) (len_c (n := 35) (len_c (n := 34) (len_c (n := 33) (len_c (n := 32) (len_e (k := 32) g4))))))
theorem z_zeroN23 : zeroL Tryd.prog 23 = some ((List.replicate 32 (0 : UInt8)).map u8) := by kernel_rfl
theorem q_one_b32 {t0 : List UInt8} : (t0.map u8).all (·.oneCell') = true := (one_u8 _)
theorem q_spl_b32_0_b32 {t0 : List UInt8} {s0 : List UInt8} (h0 : t0.length = 32) (g0 : s0.length = 32) : spl (t0.map u8) 0 (s0.map u8) = s0.map u8 := (spl_a (z := 32) (len_e (k := 32) h0) (len_e (k := 32) g0))
theorem q_ld_b32_0_32 {t0 : List UInt8} (h0 : t0.length = 32) : ((t0.map u8).drop 0).take 32 = t0.map u8 := (ld_a (len_e (k := 32) h0))
theorem q_spl_c4b32_4_b32 {a0 a1 a2 a3 : Value} {t4 : List UInt8} {s0 : List UInt8} (h4 : t4.length = 32) (g0 : s0.length = 32) : spl (a0 :: a1 :: a2 :: a3 :: t4.map u8) 4 (s0.map u8) = a0 :: a1 :: a2 :: a3 :: s0.map u8 := (spl_c (o := 3) (spl_c (o := 2) (spl_c (o := 1) (spl_c (o := 0) (spl_a (z := 32) (len_e (k := 32) h4) (len_e (k := 32) g0))))))
theorem z_agg9 : aggB Tryd.prog 9 = some false := by kernel_rfl
theorem z_size3 : sizeB Tryd.prog 3 = some 1 := by kernel_rfl
theorem q_spl_c4b32_0_c1 {a0 a1 a2 a3 : Value} {t4 : List UInt8} {b0 : Value} : spl (a0 :: a1 :: a2 :: a3 :: t4.map u8) 0 (b0 :: []) = b0 :: a1 :: a2 :: a3 :: t4.map u8 := spl_0
theorem q_spl_c4b32_1_c1 {a0 a1 a2 a3 : Value} {t4 : List UInt8} {b0 : Value} : spl (a0 :: a1 :: a2 :: a3 :: t4.map u8) 1 (b0 :: []) = a0 :: b0 :: a2 :: a3 :: t4.map u8 := (spl_c (o := 0) spl_0)
theorem q_spl_c4b32_2_c1 {a0 a1 a2 a3 : Value} {t4 : List UInt8} {b0 : Value} : spl (a0 :: a1 :: a2 :: a3 :: t4.map u8) 2 (b0 :: []) = a0 :: a1 :: b0 :: a3 :: t4.map u8 := (spl_c (o := 1) (spl_c (o := 0) spl_0))
end Go.Proofs.YtnnhnnhdoipbaaaDoor.N_RefB

set_option linter.unusedVariables false
set_option linter.unusedSimpArgs false
namespace Go.Proofs.YtnnhnnhdoipbaaaDoor.N_RefI
open Go.Sx Go.RowKit Go.Proofs.YtnnhnnhdoipbaaaDoor.N_Block Go.Proofs.YtnnhnnhdoipbaaaDoor.N_Sum Go.Proofs.YtnnhnnhdoipbaaaDoor.N_Ref Go.Proofs.YtnnhnnhdoipbaaaDoor.N_RSum Go.Proofs.YtnnhnnhdoipbaaaDoor.N_Leaf Go.Proofs.YtnnhnnhdoipbaaaDoor.N_Num Go.Proofs.YtnnhnnhdoipbaaaDoor.N_Key Go.Proofs.YtnnhnnhdoipbaaaDoor.N_Ref Go.Proofs.YtnnhnnhdoipbaaaDoor.N_RSum Go.Proofs.YtnnhnnhdoipbaaaDoor.N_Tag Go.Proofs.YtnnhnnhdoipbaaaDoor.N_Read Go.Proofs.YtnnhnnhdoipbaaaDoor.N_Lay Go.Proofs.YtnnhnnhdoipbaaaDoor.N_Eq Go.Proofs.YtnnhnnhdoipbaaaDoor.N_Ref0

theorem z_agg3 : aggB Tryd.prog 3 = some false := by kernel_rfl
theorem q_ix_c4_1 {a0 a1 a2 a3 : Value} : (a0 :: a1 :: a2 :: a3 :: [])[1]? = some a1 := (ix_c (o := 0) ix_0)
theorem z_call45 : callB Tryd.prog 45 = true := by kernel_rfl
theorem q_ix_c4_2 {a0 a1 a2 a3 : Value} : (a0 :: a1 :: a2 :: a3 :: [])[2]? = some a2 := (ix_c (o := 1) (ix_c (o := 0) ix_0))
theorem z_agg9 : aggB Tryd.prog 9 = some false := by kernel_rfl
theorem q_ix_c4_3 {a0 a1 a2 a3 : Value} : (a0 :: a1 :: a2 :: a3 :: [])[3]? = some a3 := (ix_c (o := 2) (ix_c (o := 1) (ix_c (o := 0) ix_0)))
theorem q_ix_c4_0 {a0 a1 a2 a3 : Value} : (a0 :: a1 :: a2 :: a3 :: [])[0]? = some a0 := ix_0
theorem q_ld_c4_0_4 {a0 a1 a2 a3 : Value} : ((a0 :: a1 :: a2 :: a3 :: []).drop 0).take 4 = a0 :: a1 :: a2 :: a3 :: [] := (ld_a (len_c (n := 3) (len_c (n := 2) (len_c (n := 1) (len_c (n := 0) len_n)))))
theorem q_len_c4 {a0 a1 a2 a3 : Value} : (a0 :: a1 :: a2 :: a3 :: []).length = 4 := (len_c (n := 3) (len_c (n := 2) (len_c (n := 1) (len_c (n := 0) len_n))))
theorem z_call39 : callB Tryd.prog 39 = true := by kernel_rfl
theorem z_size9 : sizeB Tryd.prog 9 = some 1 := by kernel_rfl
theorem z_zero9 : zeroL Tryd.prog 9 = some ([.string ⟨#[]⟩]) := by kernel_rfl
theorem z_call38 : callB Tryd.prog 38 = true := by kernel_rfl
theorem z_size3 : sizeB Tryd.prog 3 = some 1 := by kernel_rfl
end Go.Proofs.YtnnhnnhdoipbaaaDoor.N_RefI

set_option linter.unusedVariables false
set_option linter.unusedSimpArgs false
namespace Go.Proofs.YtnnhnnhdoipbaaaDoor.N_RefR
open Go.Sx Go.RowKit Go.Proofs.YtnnhnnhdoipbaaaDoor.N_Block Go.Proofs.YtnnhnnhdoipbaaaDoor.N_Sum Go.Proofs.YtnnhnnhdoipbaaaDoor.N_Ref Go.Proofs.YtnnhnnhdoipbaaaDoor.N_RSum Go.Proofs.YtnnhnnhdoipbaaaDoor.N_Leaf Go.Proofs.YtnnhnnhdoipbaaaDoor.N_Num Go.Proofs.YtnnhnnhdoipbaaaDoor.N_Key Go.Proofs.YtnnhnnhdoipbaaaDoor.N_Ref Go.Proofs.YtnnhnnhdoipbaaaDoor.N_RSum Go.Proofs.YtnnhnnhdoipbaaaDoor.N_Tag Go.Proofs.YtnnhnnhdoipbaaaDoor.N_Read Go.Proofs.YtnnhnnhdoipbaaaDoor.N_Lay Go.Proofs.YtnnhnnhdoipbaaaDoor.N_Eq Go.Proofs.YtnnhnnhdoipbaaaDoor.N_Ref0

theorem z_zeroN35 : zeroL Tryd.prog 35 = some ((.int .i64 0 :: (.int .i64 0 :: (.int .i64 0 :: (.string ⟨#[]⟩ :: ((List.replicate 32 (0 : UInt8)).map u8 ++ (List.replicate 32 (0 : UInt8)).map u8)))))) := by kernel_rfl
theorem z_call45 : callB Tryd.prog 45 = true := by kernel_rfl
theorem z_places35 : placesB Tryd.prog 35 = some [(0, 1), (1, 1), (2, 1), (3, 1), (4, 32), (36, 32)] := by kernel_rfl
theorem z_size35 : sizeB Tryd.prog 35 = some 68 := by kernel_rfl
theorem q_one_c4b32b32 {a0 a1 a2 a3 : Value} {t4 t5 : List UInt8} (o0 : a0.oneCell' = true) (o1 : a1.oneCell' = true) (o2 : a2.oneCell' = true) (o3 : a3.oneCell' = true) : (a0 :: a1 :: a2 :: a3 :: (t4.map u8 ++ (t5.map u8))).all (·.oneCell') = true := (one_c o0 (one_c o1 (one_c o2 (one_c o3 (one_b (one_u8 _))))))
theorem q_len_c4b32b32 {a0 a1 a2 a3 : Value} {t4 t5 : List UInt8} (h4 : t4.length = 32) (h5 : t5.length = 32) : (a0 :: a1 :: a2 :: a3 :: (t4.map u8 ++ (t5.map u8))).length = 68 := (len_c (n := 67) (len_c (n := 66) (len_c (n := 65) (len_c (n := 64) (len_b (k := 32) (n := 32) h4 (len_e (k := 32) h5))))))
theorem q_spl_c4b32b32_0_c4b32b32 {a0 a1 a2 a3 : Value} {t4 t5 : List UInt8} {b0 b1 b2 b3 : Value} {s4 s5 : List UInt8} (h4 : t4.length = 32) (h5 : t5.length = 32) (g4 : s4.length = 32) (g5 : s5.length = 32) : spl (a0 :: a1 :: a2 :: a3 :: (t4.map u8 ++ (t5.map u8))) 0 (b0 :: b1 :: b2 :: b3 :: (s4.map u8 ++ (s5.map u8))) = b0 :: b1 :: b2 :: b3 :: (s4.map u8 ++ (s5.map u8)) := (spl_a (z := 68) (len_c (n := 67) (len_c (n := 66) (len_c (n := 65) (len_c (n := 64) (len_b (k := 32) (n := 32) h4 (len_e (k := 32) h5)))))) (len_c (n := 67) (len_c (n := 66) (len_c (n := 65) (len_c (n := 64) (len_b (k := 32) (n := 32) g4 (len_e (k := 32) g5)))))))
theorem z_agg35 : aggB Tryd.prog 35 = some true := by kernel_rfl
theorem z_call39 : callB Tryd.prog 39 = true := by kernel_rfl
theorem z_size9 : sizeB Tryd.prog 9 = some 1 := by kernel_rfl
theorem z_zero9 : zeroL Tryd.prog 9 = some ([.string ⟨#[]⟩]) := by kernel_rfl
theorem z_call38 : callB Tryd.prog 38 = true := by kernel_rfl
theorem z_agg23 : aggB Tryd.prog 23 = some true := by kernel_rfl
theorem z_size23 : sizeB Tryd.prog 23 = some 32 := by kernel_rfl
theorem q_ld_b32_0_32 {t0 : List UInt8} (h0 : t0.length = 32) : ((t0.map u8).drop 0).take 32 = t0.map u8 := (ld_a (len_e (k := 32) h0))
theorem q_len_b32 {t0 : List UInt8} (h0 : t0.length = 32) : (t0.map u8).length = 32 := (len_e (k := 32) h0)
theorem q_spl_c4b32b32_0_c1 {a0 a1 a2 a3 : Value} {t4 t5 : List UInt8} {b0 : Value} : spl (a0 :: a1 :: a2 :: a3 :: (t4.map u8 ++ (t5.map u8))) 0 (b0 :: []) = b0 :: a1 :: a2 :: a3 :: (t4.map u8 ++ (t5.map u8)) := spl_0
theorem q_spl_c4b32b32_1_c1 {a0 a1 a2 a3 : Value} {t4 t5 : List UInt8} {b0 : Value} : spl (a0 :: a1 :: a2 :: a3 :: (t4.map u8 ++ (t5.map u8))) 1 (b0 :: []) = a0 :: b0 :: a2 :: a3 :: (t4.map u8 ++ (t5.map u8)) := (spl_c (o := 0) spl_0)
theorem q_spl_c4b32b32_2_c1 {a0 a1 a2 a3 : Value} {t4 t5 : List UInt8} {b0 : Value} : spl (a0 :: a1 :: a2 :: a3 :: (t4.map u8 ++ (t5.map u8))) 2 (b0 :: []) = a0 :: a1 :: b0 :: a3 :: (t4.map u8 ++ (t5.map u8)) := (spl_c (o := 1) (spl_c (o := 0) spl_0))
theorem q_spl_c4b32b32_3_c1 {a0 a1 a2 a3 : Value} {t4 t5 : List UInt8} {b0 : Value} : spl (a0 :: a1 :: a2 :: a3 :: (t4.map u8 ++ (t5.map u8))) 3 (b0 :: []) = a0 :: a1 :: a2 :: b0 :: (t4.map u8 ++ (t5.map u8)) := (spl_c (o := 2) (spl_c (o := 1) (spl_c (o := 0) spl_0)))
theorem q_spl_c4b32b32_4_b32 {a0 a1 a2 a3 : Value} {t4 t5 : List UInt8} {s0 : List UInt8} (h4 : t4.length = 32) (g0 : s0.length = 32) : spl (a0 :: a1 :: a2 :: a3 :: (t4.map u8 ++ (t5.map u8))) 4 (s0.map u8) = a0 :: a1 :: a2 :: a3 :: (s0.map u8 ++ (t5.map u8)) := (spl_c (o := 3) (spl_c (o := 2) (spl_c (o := 1) (spl_c (o := 0) (spl_h (z := 32) (len_e h4) (len_e g0))))))
theorem q_spl_c4b32b32_36_b32 {a0 a1 a2 a3 : Value} {t4 t5 : List UInt8} {s0 : List UInt8} (h4 : t4.length = 32) (h5 : t5.length = 32) (g0 : s0.length = 32) : spl (a0 :: a1 :: a2 :: a3 :: (t4.map u8 ++ (t5.map u8))) 36 (s0.map u8) = a0 :: a1 :: a2 :: a3 :: (t4.map u8 ++ (s0.map u8)) := (spl_c (o := 35) (spl_c (o := 34) (spl_c (o := 33) (spl_c (o := 32) (spl_b (k := 32) (o := 0) h4 rfl (spl_a (z := 32) (len_e (k := 32) h5) (len_e (k := 32) g0)))))))
theorem z_field35_4 : fieldB Tryd.prog 35 4 = some 4 := by kernel_rfl
theorem q_ld_c4b32b32_4_32 {a0 a1 a2 a3 : Value} {t4 t5 : List UInt8} (h4 : t4.length = 32) : ((a0 :: a1 :: a2 :: a3 :: (t4.map u8 ++ (t5.map u8))).drop 4).take 32 = t4.map u8 := (ld_c (o := 3) (ld_c (o := 2) (ld_c (o := 1) (ld_c (o := 0) (ld_h h4)))))
theorem z_field35_0 : fieldB Tryd.prog 35 0 = some 0 := by kernel_rfl
theorem z_agg3 : aggB Tryd.prog 3 = some false := by kernel_rfl
theorem q_ix_c4b32b32_0 {a0 a1 a2 a3 : Value} {t4 t5 : List UInt8} : (a0 :: a1 :: a2 :: a3 :: (t4.map u8 ++ (t5.map u8)))[0]? = some a0 := ix_0
theorem z_field35_1 : fieldB Tryd.prog 35 1 = some 1 := by kernel_rfl
theorem q_ix_c4b32b32_1 {a0 a1 a2 a3 : Value} {t4 t5 : List UInt8} : (a0 :: a1 :: a2 :: a3 :: (t4.map u8 ++ (t5.map u8)))[1]? = some a1 := (ix_c (o := 0) ix_0)
theorem z_field35_2 : fieldB Tryd.prog 35 2 = some 2 := by kernel_rfl
theorem q_ix_c4b32b32_2 {a0 a1 a2 a3 : Value} {t4 t5 : List UInt8} : (a0 :: a1 :: a2 :: a3 :: (t4.map u8 ++ (t5.map u8)))[2]? = some a2 := (ix_c (o := 1) (ix_c (o := 0) ix_0))
theorem z_field35_3 : fieldB Tryd.prog 35 3 = some 3 := by kernel_rfl
theorem z_agg9 : aggB Tryd.prog 9 = some false := by kernel_rfl
theorem q_ix_c4b32b32_3 {a0 a1 a2 a3 : Value} {t4 t5 : List UInt8} : (a0 :: a1 :: a2 :: a3 :: (t4.map u8 ++ (t5.map u8)))[3]? = some a3 := (ix_c (o := 2) (ix_c (o := 1) (ix_c (o := 0) ix_0)))
theorem q_ld_c4b32b32_0_68 {a0 a1 a2 a3 : Value} {t4 t5 : List UInt8} (h4 : t4.length = 32) (h5 : t5.length = 32) : ((a0 :: a1 :: a2 :: a3 :: (t4.map u8 ++ (t5.map u8))).drop 0).take 68 = a0 :: a1 :: a2 :: a3 :: (t4.map u8 ++ (t5.map u8)) := (ld_a (len_c (n := 67) (len_c (n := 66) (len_c (n := 65) (len_c (n := 64) (len_b (k := 32) (n := 32) h4 (len_e (k := 32) h5)))))))
theorem z_field35_5 : fieldB Tryd.prog 35 5 = some 36 := by kernel_rfl
theorem q_ld_c4b32b32_36_32 {a0 a1 a2 a3 : Value} {t4 t5 : List UInt8} (h4 : t4.length = 32) (h5 : t5.length = 32) : ((a0 :: a1 :: a2 :: a3 :: (t4.map u8 ++ (t5.map u8))).drop 36).take 32 = t5.map u8 := (ld_c (o := 35) (ld_c (o := 34) (ld_c (o := 33) (ld_c (o := 32) (ld_b (k := 32) (o := 0) h4 rfl (ld_a (len_e (k := 32) h5)))))))
theorem z_size3 : sizeB Tryd.prog 3 = some 1 := by kernel_rfl
end Go.Proofs.YtnnhnnhdoipbaaaDoor.N_RefR

set_option linter.unusedVariables false
set_option linter.unusedSimpArgs false
namespace Go.Proofs.YtnnhnnhdoipbaaaDoor.N_RWBatch
open Go.Sx Go.RowKit Go.Proofs.YtnnhnnhdoipbaaaDoor.N_Block Go.Proofs.YtnnhnnhdoipbaaaDoor.N_Sum Go.Proofs.YtnnhnnhdoipbaaaDoor.N_Ref Go.Proofs.YtnnhnnhdoipbaaaDoor.N_RSum Go.Proofs.YtnnhnnhdoipbaaaDoor.N_Leaf Go.Proofs.YtnnhnnhdoipbaaaDoor.N_Num Go.Proofs.YtnnhnnhdoipbaaaDoor.N_Key Go.Proofs.YtnnhnnhdoipbaaaDoor.N_Ref Go.Proofs.YtnnhnnhdoipbaaaDoor.N_RSum Go.Proofs.YtnnhnnhdoipbaaaDoor.N_Tag Go.Proofs.YtnnhnnhdoipbaaaDoor.N_Read Go.Proofs.YtnnhnnhdoipbaaaDoor.N_Lay Go.Proofs.YtnnhnnhdoipbaaaDoor.N_Eq Go.Proofs.YtnnhnnhdoipbaaaDoor.N_Ref0

theorem z_field75_0 : fieldB Tryd.prog 75 0 = some 0 := by kernel_rfl
theorem z_agg4 : aggB Tryd.prog 4 = some false := by kernel_rfl
theorem q_ix_c2_0 {a0 a1 : Value} : (a0 :: a1 :: [])[0]? = some a0 := ix_0
theorem z_field75_1 : fieldB Tryd.prog 75 1 = some 1 := by kernel_rfl
theorem z_agg9 : aggB Tryd.prog 9 = some false := by kernel_rfl
theorem q_ix_c2_1 {a0 a1 : Value} : (a0 :: a1 :: [])[1]? = some a1 := (ix_c (o := 0) ix_0)
theorem z_field42_0 : fieldB Tryd.prog 42 0 = some 0 := by kernel_rfl
theorem z_agg3 : aggB Tryd.prog 3 = some false := by kernel_rfl
theorem q_ix_c4_0 {a0 a1 a2 a3 : Value} : (a0 :: a1 :: a2 :: a3 :: [])[0]? = some a0 := ix_0
theorem z_call45 : callB Tryd.prog 45 = true := by kernel_rfl
theorem z_field42_1 : fieldB Tryd.prog 42 1 = some 1 := by kernel_rfl
theorem q_ix_c4_1 {a0 a1 a2 a3 : Value} : (a0 :: a1 :: a2 :: a3 :: [])[1]? = some a1 := (ix_c (o := 0) ix_0)
theorem z_field42_2 : fieldB Tryd.prog 42 2 = some 2 := by kernel_rfl
theorem q_ix_c4_2 {a0 a1 a2 a3 : Value} : (a0 :: a1 :: a2 :: a3 :: [])[2]? = some a2 := (ix_c (o := 1) (ix_c (o := 0) ix_0))
theorem z_field42_3 : fieldB Tryd.prog 42 3 = some 3 := by kernel_rfl
theorem z_agg40 : aggB Tryd.prog 40 = some false := by kernel_rfl
theorem q_ix_c4_3 {a0 a1 a2 a3 : Value} : (a0 :: a1 :: a2 :: a3 :: [])[3]? = some a3 := (ix_c (o := 2) (ix_c (o := 1) (ix_c (o := 0) ix_0)))
theorem z_call39 : callB Tryd.prog 39 = true := by kernel_rfl
theorem z_size9 : sizeB Tryd.prog 9 = some 1 := by kernel_rfl
theorem z_zero9 : zeroL Tryd.prog 9 = some ([.string ⟨#[]⟩]) := by kernel_rfl
theorem z_size75 : sizeB Tryd.prog 75 = some 2 := by kernel_rfl
theorem z_agg75 : aggB Tryd.prog 75 = some true := by kernel_rfl
theorem z_call48 : callB Tryd.prog 48 = true := by kernel_rfl
theorem z_slice49 : sliceB Tryd.prog 49 = some (9, 1, 16) := by kernel_rfl
theorem z_notint49 : notIntB Tryd.prog 49 = true := by kernel_rfl
theorem z_call38 : callB Tryd.prog 38 = true := by kernel_rfl

set_option maxRecDepth 100000 in
set_option maxHeartbeats 1000000 in
theorem rpart (p : Note.Part) (hp : p.text.length ≤ 140737488351232) (w : World) : Calls Tryd.prog 48 #[.agg (Note.Part.cells p).toArray] w (Gives (.tuple #[str p.laid, .bool p.ok]) [] w) := by
  have lz32 : (List.replicate 32 (0 : UInt8)).length = 32 := List.length_replicate
  refine enterL (args := [.agg (Note.Part.cells p).toArray]) Tryd.func48 rfl rfl (l := []) (Sep.refl _) ?_
  intro a0 H0
  refine wp_seq ?_
  refine reg ?_
  refine st_box rfl rfl (agg_cells _) rfl rfl rfl H0 ?_
  clear H0; intro b1 a1 wx1 H1
  refine plain (y_assign rfl rfl) rfl rfl rfl H1 ?_
  clear H1; intro a2 H2
  refine plain (y_assign rfl rfl) rfl rfl rfl H2 ?_
  clear H2; intro a3 H3
  refine fin ?_
  refine then_n ?_
  refine wp_seq ?_
  refine wp_seq ?_
  refine reg ?_
  refine plain (y_fieldB rfl z_field75_0 rfl (by first | (simp only [Nat.zero_add, Nat.add_zero, Nat.reduceAdd]; rfl) | rfl)) rfl rfl rfl H3 ?_
  clear H3; intro a4 H4
  refine plain (y_loadB rfl z_agg4 rfl (by repeat (first | exact Mh | apply Mt)) q_ix_c2_0) rfl rfl rfl H4 ?_
  clear H4; intro a5 H5
  refine fin ?_
  refine then_n ?_
  refine cnd H5 rfl (fun hc6 => ?_) (fun hc6 => ?_) -- cond 1
  · skip
    try simp only [decide_eq_true_eq, decide_eq_false_iff_not, Bool.not_eq_true', Bool.not_eq_false', Bool.and_eq_true, Bool.not_eq_true, Bool.not_eq_false] at hc6
    refine wp_seq ?_
    refine qreg (by kernel_rfl) (by kernel_rfl) H5 ?_
    have F7 := H5.fr
    clear H5
    refine qplain (y_fieldB rfl z_field75_1 rfl (by first | (simp only [Nat.zero_add, Nat.add_zero, Nat.reduceAdd]; rfl) | rfl)) rfl rfl rfl F7 ?_
    clear F7; intro a8 H8
    refine qplain (y_loadB rfl z_agg9 rfl (by repeat (first | exact Mh | apply Mt)) q_ix_c2_1) rfl rfl rfl H8 ?_
    clear H8; intro a9 H9
    refine qplain (y_seql rfl rfl rfl) rfl rfl rfl H9 ?_
    clear H9; intro a10 H10
    refine qplain (y_assign rfl rfl) rfl rfl rfl H10 ?_
    clear H10; intro a11 H11
    refine qplain (y_assign rfl rfl) rfl rfl rfl H11 ?_
    clear H11; intro a12 H12
    refine qfin H12 ?_
    clear H12; intro wx13 H13
    refine then_n ?_
    refine wp_ret ?_
    refine then_r ?_
    -- return 1
    refine ret2 rfl H13 rfl rfl ?_
    refine ⟨_, [], rfl, ⟨?_, rfl⟩, H13.sep.sub (List.nil_sublist _)⟩
    obtain ⟨d, t⟩ := p
    have : d = true := by assumption
    subst this
    rfl
  · skip
    try simp only [decide_eq_true_eq, decide_eq_false_iff_not, Bool.not_eq_true', Bool.not_eq_false', Bool.and_eq_true, Bool.not_eq_true, Bool.not_eq_false] at hc6
    refine wp_skip ?_
    refine then_n ?_
    refine wp_seq ?_
    refine qreg (by kernel_rfl) (by kernel_rfl) H5 ?_
    have F14 := H5.fr
    clear H5
    refine qplain (y_fieldB rfl z_field75_1 rfl (by first | (simp only [Nat.zero_add, Nat.add_zero, Nat.reduceAdd]; rfl) | rfl)) rfl rfl rfl F14 ?_
    clear F14; intro a15 H15
    refine qplain (y_loadB rfl z_agg9 rfl (by repeat (first | exact Mh | apply Mt)) q_ix_c2_1) rfl rfl rfl H15 ?_
    clear H15; intro a16 H16
    refine qplain (y_sadd rfl rfl rfl (by simp only [List.length_cons, List.length_nil]; omega)) rfl rfl rfl H16 ?_
    clear H16; intro a17 H17
    refine qplain (y_fieldB rfl z_field75_1 rfl (by first | (simp only [Nat.zero_add, Nat.add_zero, Nat.reduceAdd]; rfl) | rfl)) rfl rfl rfl H17 ?_
    clear H17; intro a18 H18
    refine qplain (y_loadB rfl z_agg9 rfl (by repeat (first | exact Mh | apply Mt)) q_ix_c2_1) rfl rfl rfl H18 ?_
    clear H18; intro a19 H19
    refine qplain (y_slen rfl Tryd.underlying9 rfl) rfl rfl rfl H19 ?_
    clear H19; intro a20 H20
    refine qplain (y_leq rfl rfl rfl) rfl rfl rfl H20 ?_
    clear H20; intro a21 H21
    refine qplain (y_assign rfl rfl) rfl rfl rfl H21 ?_
    clear H21; intro a22 H22
    refine qplain (y_assign rfl rfl) rfl rfl rfl H22 ?_
    clear H22; intro a23 H23
    refine qfin H23 ?_
    clear H23; intro wx24 H24
    refine then_n ?_
    refine wp_ret ?_
    -- return 2
    refine ret2 rfl H24 rfl rfl ?_
    refine ⟨_, [], rfl, ⟨?_, rfl⟩, H24.sep.sub (List.nil_sublist _)⟩
    obtain ⟨d, t⟩ := p
    have : d = false := by assumption
    subst this
    show Value.tuple #[_, Value.bool (decide _)] = Value.tuple #[_, Value.bool (decide _)]
    congr 4
    simp
    omega
set_option maxRecDepth 100000 in
set_option maxHeartbeats 2000000 in
theorem rwbatch (b : Note.Batch) (wf : Note.Batch.Wf b) (A : Option Addr) (c : Nat) {w : World} (hR : Rd w A (Note.pc b.parts))  : Calls Tryd.prog 22 #[.agg (Note.Batch.cells b A c).toArray] w (Gives (.tuple #[str (Note.writeBatch b).1, .int .i64 (Note.writeBatch b).2]) [] w) := by
  have hpl := wf.len
  have hn3 := Note.nums3 b.seq b.first b.before
  have lz32 : (List.replicate 32 (0 : UInt8)).length = 32 := List.length_replicate
  refine enterL (args := [.agg (Note.Batch.cells b A c).toArray]) Tryd.func22 rfl rfl (l := []) (Sep.refl _) ?_
  intro a0 H0
  refine wp_seq ?_
  refine reg ?_
  refine st_box rfl rfl (agg_cells _) rfl rfl rfl H0 ?_
  clear H0; intro b1 a1 wx1 H1
  refine plain (y_assign rfl rfl) rfl rfl rfl H1 ?_
  clear H1; intro a2 H2
  refine plain (y_assign rfl rfl) rfl rfl rfl H2 ?_
  clear H2; intro a3 H3
  refine fin ?_
  refine then_n ?_
  refine wp_seq ?_
  refine wp_seq ?_
  refine reg ?_
  refine plain (y_fieldB rfl z_field42_0 rfl (by first | (simp only [Nat.zero_add, Nat.add_zero, Nat.reduceAdd]; rfl) | rfl)) rfl rfl rfl H3 ?_
  clear H3; intro a4 H4
  refine plain (y_loadB rfl z_agg3 rfl (by repeat (first | exact Mh | apply Mt)) q_ix_c4_0) rfl rfl rfl H4 ?_
  clear H4; intro a5 H5
  refine st_callg rfl z_call45 rfl rfl rfl rfl H5 (rwithin _ _ _) ?_
  clear H5; intro a6 wx6 H6
  refine plain ((by first | exact y_not_d rfl rfl | exact y_not rfl rfl)) rfl rfl rfl H6 ?_
  clear H6; intro a7 H7
  refine plain (y_move rfl rfl) rfl rfl rfl H7 ?_
  clear H7; intro a8 H8
  refine Sx.part (d := 12) H8 rfl (fun hg9 => ?_) (fun hg9 => ?_)
  · first
    | fail
    | skip
      clear H8; intro H10
      try simp only [decide_eq_true_eq, decide_eq_false_iff_not, Bool.not_eq_true', Bool.not_eq_false', Bool.and_eq_true, Bool.not_eq_true, Bool.not_eq_false] at hg9
      refine skip rfl rfl rfl H10 ?_
      clear H10; intro a11 H11
      refine skip rfl rfl rfl H11 ?_
      clear H11; intro a12 H12
      refine skip rfl rfl rfl H12 ?_
      clear H12; intro a13 H13
      refine skip rfl rfl rfl H13 ?_
      clear H13; intro a14 H14
      refine plain (y_pick_t rfl rfl rfl) rfl rfl rfl H14 ?_
      clear H14; intro a15 H15
      refine plain (y_move rfl rfl) rfl rfl rfl H15 ?_
      clear H15; intro a16 H16
      refine skip rfl rfl rfl H16 ?_
      clear H16; intro a17 H17
      refine skip rfl rfl rfl H17 ?_
      clear H17; intro a18 H18
      refine skip rfl rfl rfl H18 ?_
      clear H18; intro a19 H19
      refine skip rfl rfl rfl H19 ?_
      clear H19; intro a20 H20
      refine plain (y_pick_t rfl rfl rfl) rfl rfl rfl H20 ?_
      clear H20; intro a21 H21
      refine plain (y_move rfl rfl) rfl rfl rfl H21 ?_
      clear H21; intro a22 H22
      refine skip rfl rfl rfl H22 ?_
      clear H22; intro a23 H23
      refine skip rfl rfl rfl H23 ?_
      clear H23; intro a24 H24
      refine skip rfl rfl rfl H24 ?_
      clear H24; intro a25 H25
      refine skip rfl rfl rfl H25 ?_
      clear H25; intro a26 H26
      refine plain (y_pick_t rfl rfl rfl) rfl rfl rfl H26 ?_
      clear H26; intro a27 H27
      refine fin ?_
      refine then_n ?_
      refine cnd_t H27 rfl ?_
      refine wp_seq ?_
      refine reg ?_
      refine plain (y_assign rfl rfl) rfl rfl rfl H27 ?_
      clear H27; intro a29 H29
      refine plain (y_assign rfl rfl) rfl rfl rfl H29 ?_
      clear H29; intro a30 H30
      refine fin ?_
      refine then_n ?_
      refine wp_ret ?_
      refine then_r ?_
      -- return 1
      refine ret2 rfl H30 rfl rfl ?_
      refine ⟨_, [], rfl, ⟨?_, rfl⟩, H30.sep.sub (List.nil_sublist _)⟩
      clear H30
      first | (rw [Note.writeBatch_bad (by rw [hn3]; simp only [decide_eq_true_eq]; omega)]) | (rw [Note.writeBatch_at (k := k) (by omega) (by assumption)]) | (rw [Note.writeBatch_ok (k := k) (by rw [hn3]; exact decide_eq_true (by omega)) (by omega) hok.2 (by omega)])
  · first
    | fail
    | skip
      clear H8; intro H31
      try simp only [decide_eq_true_eq, decide_eq_false_iff_not, Bool.not_eq_true', Bool.not_eq_false', Bool.and_eq_true, Bool.not_eq_true, Bool.not_eq_false] at hg9
      refine plain (y_fieldB rfl z_field42_1 rfl (by first | (simp only [Nat.zero_add, Nat.add_zero, Nat.reduceAdd]; rfl) | rfl)) rfl rfl rfl H31 ?_
      clear H31; intro a32 H32
      refine plain (y_loadB rfl z_agg3 rfl (by repeat (first | exact Mh | apply Mt)) q_ix_c4_1) rfl rfl rfl H32 ?_
      clear H32; intro a33 H33
      refine st_callg rfl z_call45 rfl rfl rfl rfl H33 (rwithin _ _ _) ?_
      clear H33; intro a34 wx34 H34
      refine plain ((by first | exact y_not_d rfl rfl | exact y_not rfl rfl)) rfl rfl rfl H34 ?_
      clear H34; intro a35 H35
      refine plain (y_pick_f rfl rfl rfl) rfl rfl rfl H35 ?_
      clear H35; intro a36 H36
      refine plain (y_move rfl rfl) rfl rfl rfl H36 ?_
      clear H36; intro a37 H37
      refine Sx.part (d := 18) H37 rfl (fun hg38 => ?_) (fun hg38 => ?_)
      · first
        | fail
        | skip
          clear H37; intro H39
          try simp only [decide_eq_true_eq, decide_eq_false_iff_not, Bool.not_eq_true', Bool.not_eq_false', Bool.and_eq_true, Bool.not_eq_true, Bool.not_eq_false] at hg38
          refine skip rfl rfl rfl H39 ?_
          clear H39; intro a40 H40
          refine skip rfl rfl rfl H40 ?_
          clear H40; intro a41 H41
          refine skip rfl rfl rfl H41 ?_
          clear H41; intro a42 H42
          refine skip rfl rfl rfl H42 ?_
          clear H42; intro a43 H43
          refine plain (y_pick_t rfl rfl rfl) rfl rfl rfl H43 ?_
          clear H43; intro a44 H44
          refine plain (y_move rfl rfl) rfl rfl rfl H44 ?_
          clear H44; intro a45 H45
          refine skip rfl rfl rfl H45 ?_
          clear H45; intro a46 H46
          refine skip rfl rfl rfl H46 ?_
          clear H46; intro a47 H47
          refine skip rfl rfl rfl H47 ?_
          clear H47; intro a48 H48
          refine skip rfl rfl rfl H48 ?_
          clear H48; intro a49 H49
          refine plain (y_pick_t rfl rfl rfl) rfl rfl rfl H49 ?_
          clear H49; intro a50 H50
          refine fin ?_
          refine then_n ?_
          refine cnd_t H50 rfl ?_
          refine wp_seq ?_
          refine reg ?_
          refine plain (y_assign rfl rfl) rfl rfl rfl H50 ?_
          clear H50; intro a52 H52
          refine plain (y_assign rfl rfl) rfl rfl rfl H52 ?_
          clear H52; intro a53 H53
          refine fin ?_
          refine then_n ?_
          refine wp_ret ?_
          refine then_r ?_
          -- return 2
          refine ret2 rfl H53 rfl rfl ?_
          refine ⟨_, [], rfl, ⟨?_, rfl⟩, H53.sep.sub (List.nil_sublist _)⟩
          clear H53
          first | (rw [Note.writeBatch_bad (by rw [hn3]; simp only [decide_eq_true_eq]; omega)]) | (rw [Note.writeBatch_at (k := k) (by omega) (by assumption)]) | (rw [Note.writeBatch_ok (k := k) (by rw [hn3]; exact decide_eq_true (by omega)) (by omega) hok.2 (by omega)])
      · first
        | fail
        | skip
          clear H37; intro H54
          try simp only [decide_eq_true_eq, decide_eq_false_iff_not, Bool.not_eq_true', Bool.not_eq_false', Bool.and_eq_true, Bool.not_eq_true, Bool.not_eq_false] at hg38
          refine plain (y_fieldB rfl z_field42_2 rfl (by first | (simp only [Nat.zero_add, Nat.add_zero, Nat.reduceAdd]; rfl) | rfl)) rfl rfl rfl H54 ?_
          clear H54; intro a55 H55
          refine plain (y_loadB rfl z_agg3 rfl (by repeat (first | exact Mh | apply Mt)) q_ix_c4_2) rfl rfl rfl H55 ?_
          clear H55; intro a56 H56
          refine st_callg rfl z_call45 rfl rfl rfl rfl H56 (rwithin _ _ _) ?_
          clear H56; intro a57 wx57 H57
          refine plain ((by first | exact y_not_d rfl rfl | exact y_not rfl rfl)) rfl rfl rfl H57 ?_
          clear H57; intro a58 H58
          refine plain (y_pick_f rfl rfl rfl) rfl rfl rfl H58 ?_
          clear H58; intro a59 H59
          refine plain (y_move rfl rfl) rfl rfl rfl H59 ?_
          clear H59; intro a60 H60
          refine Sx.part (d := 24) H60 rfl (fun hg61 => ?_) (fun hg61 => ?_)
          · first
            | fail
            | skip
              clear H60; intro H62
              try simp only [decide_eq_true_eq, decide_eq_false_iff_not, Bool.not_eq_true', Bool.not_eq_false', Bool.and_eq_true, Bool.not_eq_true, Bool.not_eq_false] at hg61
              refine skip rfl rfl rfl H62 ?_
              clear H62; intro a63 H63
              refine skip rfl rfl rfl H63 ?_
              clear H63; intro a64 H64
              refine skip rfl rfl rfl H64 ?_
              clear H64; intro a65 H65
              refine skip rfl rfl rfl H65 ?_
              clear H65; intro a66 H66
              refine plain (y_pick_t rfl rfl rfl) rfl rfl rfl H66 ?_
              clear H66; intro a67 H67
              refine fin ?_
              refine then_n ?_
              refine cnd_t H67 rfl ?_
              refine wp_seq ?_
              refine reg ?_
              refine plain (y_assign rfl rfl) rfl rfl rfl H67 ?_
              clear H67; intro a69 H69
              refine plain (y_assign rfl rfl) rfl rfl rfl H69 ?_
              clear H69; intro a70 H70
              refine fin ?_
              refine then_n ?_
              refine wp_ret ?_
              refine then_r ?_
              -- return 3
              refine ret2 rfl H70 rfl rfl ?_
              refine ⟨_, [], rfl, ⟨?_, rfl⟩, H70.sep.sub (List.nil_sublist _)⟩
              clear H70
              first | (rw [Note.writeBatch_bad (by rw [hn3]; simp only [decide_eq_true_eq]; omega)]) | (rw [Note.writeBatch_at (k := k) (by omega) (by assumption)]) | (rw [Note.writeBatch_ok (k := k) (by rw [hn3]; exact decide_eq_true (by omega)) (by omega) hok.2 (by omega)])
          · first
            | fail
            | skip
              clear H60; intro H71
              try simp only [decide_eq_true_eq, decide_eq_false_iff_not, Bool.not_eq_true', Bool.not_eq_false', Bool.and_eq_true, Bool.not_eq_true, Bool.not_eq_false] at hg61
              refine plain (y_fieldB rfl z_field42_3 rfl (by first | (simp only [Nat.zero_add, Nat.add_zero, Nat.reduceAdd]; rfl) | rfl)) rfl rfl rfl H71 ?_
              clear H71; intro a72 H72
              refine plain (y_loadB rfl z_agg40 rfl (by repeat (first | exact Mh | apply Mt)) q_ix_c4_3) rfl rfl rfl H72 ?_
              clear H72; intro a73 H73
              refine plain (y_len rfl Tryd.underlying40 rfl) rfl rfl rfl H73 ?_
              clear H73; intro a74 H74
              refine plain (y_gtr rfl rfl rfl) rfl rfl rfl H74 ?_
              clear H74; intro a75 H75
              refine plain (y_pick_f rfl rfl rfl) rfl rfl rfl H75 ?_
              clear H75; intro a76 H76
              refine fin ?_
              refine then_n ?_
              refine cnd H76 rfl (fun hc77 => ?_) (fun hc77 => ?_) -- cond 4
              · skip
                try simp only [decide_eq_true_eq, decide_eq_false_iff_not, Bool.not_eq_true', Bool.not_eq_false', Bool.and_eq_true, Bool.not_eq_true, Bool.not_eq_false] at hc77
                refine wp_seq ?_
                refine reg ?_
                refine plain (y_assign rfl rfl) rfl rfl rfl H76 ?_
                clear H76; intro a78 H78
                refine plain (y_assign rfl rfl) rfl rfl rfl H78 ?_
                clear H78; intro a79 H79
                refine fin ?_
                refine then_n ?_
                refine wp_ret ?_
                refine then_r ?_
                -- return 4
                refine ret2 rfl H79 rfl rfl ?_
                refine ⟨_, [], rfl, ⟨?_, rfl⟩, H79.sep.sub (List.nil_sublist _)⟩
                clear H79
                first | (rw [Note.writeBatch_bad (by rw [hn3]; simp only [decide_eq_true_eq]; omega)]) | (rw [Note.writeBatch_at (k := k) (by omega) (by assumption)]) | (rw [Note.writeBatch_ok (k := k) (by rw [hn3]; exact decide_eq_true (by omega)) (by omega) hok.2 (by omega)])
              · skip
                try simp only [decide_eq_true_eq, decide_eq_false_iff_not, Bool.not_eq_true', Bool.not_eq_false', Bool.and_eq_true, Bool.not_eq_true, Bool.not_eq_false] at hc77
                refine wp_skip ?_
                refine then_n ?_
                refine wp_seq ?_
                refine hreg _ (fun _ h => h) (by kernel_rfl) H76 ?_
                clear H76; intro wx80 H80
                refine htake 0 rfl (by kernel_rfl) (y_fieldB rfl z_field42_0 rfl (by first | (simp only [Nat.zero_add, Nat.add_zero, Nat.reduceAdd]; rfl) | rfl)) rfl rfl rfl (fun _ h => (h.sub (by first | exact S0 | exact S1 | repeat (first | exact S1 | exact S0 | apply S2 | apply S3)))) H80 ?_
                clear H80; intro a81 H81
                refine htake 1 rfl (by kernel_rfl) (y_loadB rfl z_agg3 rfl (by repeat (first | exact Mh | apply Mt)) q_ix_c4_0) rfl rfl rfl (fun _ h => (h.sub (by first | exact S0 | exact S1 | repeat (first | exact S1 | exact S0 | apply S2 | apply S3)))) H81 ?_
                clear H81; intro a82 H82
                refine htake 3 rfl (by kernel_rfl) (y_fieldB rfl z_field42_1 rfl (by first | (simp only [Nat.zero_add, Nat.add_zero, Nat.reduceAdd]; rfl) | rfl)) rfl rfl rfl (fun _ h => (h.sub (by first | exact S0 | exact S1 | repeat (first | exact S1 | exact S0 | apply S2 | apply S3)))) H82 ?_
                clear H82; intro a83 H83
                refine htake 4 rfl (by kernel_rfl) (y_loadB rfl z_agg3 rfl (by repeat (first | exact Mh | apply Mt)) q_ix_c4_1) rfl rfl rfl (fun _ h => (h.sub (by first | exact S0 | exact S1 | repeat (first | exact S1 | exact S0 | apply S2 | apply S3)))) H83 ?_
                clear H83; intro a84 H84
                refine htake 6 rfl (by kernel_rfl) (y_fieldB rfl z_field42_2 rfl (by first | (simp only [Nat.zero_add, Nat.add_zero, Nat.reduceAdd]; rfl) | rfl)) rfl rfl rfl (fun _ h => (h.sub (by first | exact S0 | exact S1 | repeat (first | exact S1 | exact S0 | apply S2 | apply S3)))) H84 ?_
                clear H84; intro a85 H85
                refine htake 7 rfl (by kernel_rfl) (y_loadB rfl z_agg3 rfl (by repeat (first | exact Mh | apply Mt)) q_ix_c4_2) rfl rfl rfl (fun _ h => (h.sub (by first | exact S0 | exact S1 | repeat (first | exact S1 | exact S0 | apply S2 | apply S3)))) H85 ?_
                clear H85; intro a86 H86
                refine hgo 2 rfl (by kernel_rfl) ?_
                refine st_callg rfl z_call39 rfl rfl rfl rfl H86 (rtext _ (by first | exact wf.seq.2 | exact wf.first.2 | exact wf.before.2) _) ?_
                clear H86; intro a87 wx87 H87
                refine hfin (H87.sep.sub (by first | exact S0 | exact S1 | repeat (first | exact S1 | exact S0 | apply S2 | apply S3))) ?_
                refine hgo 5 rfl (by kernel_rfl) ?_
                refine st_callg rfl z_call39 rfl rfl rfl rfl H87 (rtext _ (by first | exact wf.seq.2 | exact wf.first.2 | exact wf.before.2) _) ?_
                clear H87; intro a88 wx88 H88
                refine hfin (H88.sep.sub (by first | exact S0 | exact S1 | repeat (first | exact S1 | exact S0 | apply S2 | apply S3))) ?_
                refine hgo 8 rfl (by kernel_rfl) ?_
                refine st_callg rfl z_call39 rfl rfl rfl rfl H88 (rtext _ (by first | exact wf.seq.2 | exact wf.first.2 | exact wf.before.2) _) ?_
                clear H88; intro a89 wx89 H89
                refine hfin (H89.sep.sub (by first | exact S0 | exact S1 | repeat (first | exact S1 | exact S0 | apply S2 | apply S3))) ?_
                refine hgo 9 rfl (by kernel_rfl) ?_
                refine st_buildSlice1 (xs := [.tmp 32, .tmp 35, .tmp 38]) rfl Tryd.underlying49 z_size9 z_zero9 rfl rfl rfl rfl rfl rfl rfl rfl rfl H89 ?_
                clear H89; intro b90 a90 wx90 H90
                refine hfin (H90.sep.sub (by first | exact S0 | exact S1 | repeat (first | exact S1 | exact S0 | apply S2 | apply S3))) ?_
                refine htake 10 rfl (by kernel_rfl) (y_assign rfl rfl) rfl rfl rfl (fun _ h => (h.sub (by first | exact S0 | exact S1 | repeat (first | exact S1 | exact S0 | apply S2 | apply S3)))) H90 ?_
                clear H90; intro a91 H91
                refine hdone (by kernel_rfl) ?_
                refine then_n ?_
                refine wp_seq ?_
                refine wp_seq ?_
                refine reg ?_
                refine plain (y_assign rfl rfl) rfl rfl rfl H91 ?_
                clear H91; intro a92 H92
                refine fin ?_
                refine then_n ?_
                refine wp_block ?_
                replace H92 := H92.asRow (b := b90) (size := 1) (m := 3) (by repeat (first | exact Uh | apply Ut)) rfl (by unfold maxLen; omega)
                refine loop (ι := Nat × Value) (fun x => [(1, .pointer (some ⟨b1, 0, none⟩)), (4, x.2), (5, .int .i64 (x.1 : Int))]) (fun x => [It.row 9 1 x.2 (3 + x.1) (([Note.num b.seq, Note.num b.first, Note.num b.before] ++ (b.parts.take x.1).map Note.Part.laid).map str), It.blk b1 42 (Note.Batch.cells b A c)]) (fun x => x.1 ≤ b.parts.length ∧ (b.parts.take x.1).all Note.Part.ok = true) (fun x => b.parts.length - x.1) ((0, .slice (some ⟨b90, 0, none⟩) 3 3)) ⟨Nat.zero_le _, rfl⟩ ((H92.drop (by first | exact S0 | exact S1 | repeat (first | exact S1 | exact S0 | apply S2 | apply S3))).weak ⟨rfl, rfl, rfl, trivial⟩ (ir2 rfl rfl rfl)) ?_
                clear H92; intro x a93 wx93 hok93 H93
                obtain ⟨k, v⟩ := x
                dsimp only at hok93 H93
                have hok := hok93
                obtain ⟨Av, cv, hv, hRv, hmv⟩ := row_shape (v := v) H93.sep (by repeat (first | exact Mh | apply Mt))
                subst hv
                refine wp_seq ?_
                refine wp_seq ?_
                refine reg ?_
                refine plain (y_move rfl rfl) rfl rfl rfl H93 ?_
                clear H93; intro a94 H94
                refine plain (y_fieldB rfl z_field42_3 rfl (by first | (simp only [Nat.zero_add, Nat.add_zero, Nat.reduceAdd]; rfl) | rfl)) rfl rfl rfl H94 ?_
                clear H94; intro a95 H95
                refine plain (y_loadB rfl z_agg40 rfl (by repeat (first | exact Mh | apply Mt)) q_ix_c4_3) rfl rfl rfl H95 ?_
                clear H95; intro a96 H96
                refine plain (y_len rfl Tryd.underlying40 rfl) rfl rfl rfl H96 ?_
                clear H96; intro a97 H97
                refine plain (y_lss rfl rfl rfl) rfl rfl rfl H97 ?_
                clear H97; intro a98 H98
                refine fin ?_
                refine then_n ?_
                refine cnd H98 rfl (fun hc99 => ?_) (fun hc99 => ?_) -- cond 5
                · skip
                  try simp only [decide_eq_true_eq, decide_eq_false_iff_not, Bool.not_eq_true', Bool.not_eq_false', Bool.and_eq_true, Bool.not_eq_true, Bool.not_eq_false] at hc99
                  refine wp_skip ?_
                  refine then_n ?_
                  refine wp_seq ?_
                  refine wp_block ?_
                  refine wp_seq ?_
                  refine reg ?_
                  refine plain (y_fieldB rfl z_field42_3 rfl (by first | (simp only [Nat.zero_add, Nat.add_zero, Nat.reduceAdd]; rfl) | rfl)) rfl rfl rfl H98 ?_
                  clear H98; intro a100 H100
                  refine plain (y_loadB rfl z_agg40 rfl (by repeat (first | exact Mh | apply Mt)) q_ix_c4_3) rfl rfl rfl H100 ?_
                  clear H100; intro a101 H101
                  refine plain (y_move rfl rfl) rfl rfl rfl H101 ?_
                  clear H101; intro a102 H102
                  refine plain (y_ixR rfl Tryd.underlying40 z_size75 rfl rfl (by omega) (by omega) (rd_old (by assumption) (by simp)) (by rw [Note.pc_len]; omega)) rfl rfl rfl H102 ?_
                  clear H102; intro a103 H103
                  refine plain (y_loadAS rfl z_agg75 z_size75 rfl (rd_old (by assumption) (by simp)) (show _ = Note.Part.cells (b.parts.getD k ⟨false, []⟩) from Note.pc_take k (by omega)) rfl (by decide)) rfl rfl rfl H103 ?_
                  clear H103; intro a104 H104
                  refine st_callg rfl z_call48 rfl rfl rfl rfl H104 (rpart (b.parts.getD k ⟨false, []⟩) (wf.texts _ (by rw [Oct.getD_eq _ (by omega)]; exact List.getElem_mem _)) _) ?_
                  clear H104; intro a105 wx105 H105
                  refine plain (y_move rfl rfl) rfl rfl rfl H105 ?_
                  clear H105; intro a106 H106
                  refine plain (y_extract rfl rfl rfl) rfl rfl rfl H106 ?_
                  clear H106; intro a107 H107
                  refine plain (y_extract rfl rfl rfl) rfl rfl rfl H107 ?_
                  clear H107; intro a108 H108
                  refine plain (y_assign rfl rfl) rfl rfl rfl H108 ?_
                  clear H108; intro a109 H109
                  refine plain (y_assign rfl rfl) rfl rfl rfl H109 ?_
                  clear H109; intro a110 H110
                  refine fin ?_
                  refine then_n ?_
                  refine wp_seq ?_
                  refine wp_seq ?_
                  refine reg ?_
                  refine plain (y_move rfl rfl) rfl rfl rfl H110 ?_
                  clear H110; intro a111 H111
                  refine plain ((by first | exact y_not_d rfl rfl | exact y_not rfl rfl)) rfl rfl rfl H111 ?_
                  clear H111; intro a112 H112
                  refine fin ?_
                  refine then_n ?_
                  refine cnd H112 rfl (fun hc113 => ?_) (fun hc113 => ?_) -- cond 6
                  · skip
                    try simp only [decide_eq_true_eq, decide_eq_false_iff_not, Bool.not_eq_true', Bool.not_eq_false', Bool.and_eq_true, Bool.not_eq_true, Bool.not_eq_false] at hc113
                    refine wp_seq ?_
                    refine reg ?_
                    refine plain (y_assign rfl rfl) rfl rfl rfl H112 ?_
                    clear H112; intro a114 H114
                    refine plain (y_assign rfl rfl) rfl rfl rfl H114 ?_
                    clear H114; intro a115 H115
                    refine fin ?_
                    refine then_n ?_
                    refine wp_ret ?_
                    refine then_r ?_
                    refine inb_r ?_
                    refine then_r ?_
                    refine then_r ?_
                    refine inb_r ?_
                    refine then_r ?_
                    -- return 5
                    refine ret2 rfl H115 rfl rfl ?_
                    refine ⟨_, [], rfl, ⟨?_, rfl⟩, H115.sep.sub (List.nil_sublist _)⟩
                    clear H115
                    first | (rw [Note.writeBatch_bad (by rw [hn3]; simp only [decide_eq_true_eq]; omega)]) | (rw [Note.writeBatch_at (k := k) (by omega) (by assumption)]) | (rw [Note.writeBatch_ok (k := k) (by rw [hn3]; exact decide_eq_true (by omega)) (by omega) hok.2 (by omega)])
                  · skip
                    try simp only [decide_eq_true_eq, decide_eq_false_iff_not, Bool.not_eq_true', Bool.not_eq_false', Bool.and_eq_true, Bool.not_eq_true, Bool.not_eq_false] at hc113
                    refine wp_skip ?_
                    refine then_n ?_
                    refine reg ?_
                    refine plain (y_move rfl rfl) rfl rfl rfl H112 ?_
                    clear H112; intro a116 H116
                    refine plain (y_move rfl rfl) rfl rfl rfl H116 ?_
                    clear H116; intro a117 H117
                    refine st_buildSlice1 (xs := [.tmp 59]) rfl Tryd.underlying49 z_size9 z_zero9 rfl rfl rfl rfl rfl rfl rfl rfl rfl H117 ?_
                    clear H117; intro b118 a118 wx118 H118
                    refine st_append rfl z_slice49 z_notint49 rfl rfl (fun _ => (by repeat (first | exact Uh | apply Ut))) (fun w hs => Src.slice ((rd_blkA (by repeat (first | exact Mh | apply Mt))) w hs) rfl (by simp [Value.oneCell'])) (by unfold maxLen at *; first | omega | (simp only [List.length_cons, List.length_nil, List.length_append, List.length_map]; omega)) (by first | omega | (simp only [List.length_cons, List.length_nil, List.length_append, List.length_map]; omega)) rfl rfl rfl H118 ?_
                    clear H118; intro v119 a119 wx119 hnil119 H119
                    obtain ⟨Ar119, cr119, hvr119, hRr119, hmr119⟩ := row_shape (v := v119) H119.sep (by repeat (first | exact Mh | apply Mt))
                    subst hvr119
                    refine plain (y_assign rfl rfl) rfl rfl rfl H119 ?_
                    clear H119; intro a120 H120
                    refine fin ?_
                    refine inb_n ?_
                    refine then_n ?_
                    refine reg ?_
                    refine plain (y_move rfl rfl) rfl rfl rfl H120 ?_
                    clear H120; intro a121 H121
                    refine plain (y_add rfl rfl rfl (by first | exact w64 (by omega) (by omega) | rfl)) rfl rfl rfl H121 ?_
                    clear H121; intro a122 H122
                    refine plain (y_assign rfl rfl) rfl rfl rfl H122 ?_
                    clear H122; intro a123 H123
                    refine fin ?_
                    refine then_n ?_
                    have hpk : (b.parts.getD k ⟨false, []⟩).ok = true := by assumption
                    refine ⟨(k + 1, (.slice Ar119 _ cr119)), by dsimp only; omega, ⟨by dsimp only; omega, Note.take_all ⟨false, []⟩ (by omega) hok.2 hpk⟩, (H123.drop (by first | exact S0 | exact S1 | repeat (first | exact S1 | exact S0 | apply S2 | apply S3))).weak ⟨rfl, rfl, fi rfl (by dsimp only; omega), trivial⟩ (ir2 (by first | rfl | (dsimp only; omega)) ?_ rfl)⟩
                    dsimp only
                    rw [Note.laid_step (t := _) (by omega) (rfl : _ = (b.parts.getD k ⟨false, []⟩).laid)]
                    exact Note.snoc_str _ _ _ rfl
                · skip
                  try simp only [decide_eq_true_eq, decide_eq_false_iff_not, Bool.not_eq_true', Bool.not_eq_false', Bool.and_eq_true, Bool.not_eq_true, Bool.not_eq_false] at hc99
                  refine wp_exit ?_
                  refine then_x ?_
                  refine then_x ?_
                  refine inb_hit ?_
                  refine then_n ?_
                  refine wp_seq ?_
                  refine reg ?_
                  refine plain (y_move rfl rfl) rfl rfl rfl H98 ?_
                  clear H98; intro a124 H124
                  refine st_callg rfl z_call38 rfl rfl rfl rfl H124 (rlist ([Note.num b.seq, Note.num b.first, Note.num b.before] ++ (b.parts.take k).map Note.Part.laid) _ _ _ (by simp; omega) (Rd.ofSep (rd_row (by repeat (first | exact Mh | apply Mt))) H124.sep) (by simp; omega)) ?_
                  clear H124; intro a125 wx125 H125
                  refine plain (y_extract rfl rfl rfl) rfl rfl rfl H125 ?_
                  clear H125; intro a126 H126
                  refine plain (y_extract rfl rfl rfl) rfl rfl rfl H126 ?_
                  clear H126; intro a127 H127
                  refine plain (y_assign rfl rfl) rfl rfl rfl H127 ?_
                  clear H127; intro a128 H128
                  refine plain (y_assign rfl rfl) rfl rfl rfl H128 ?_
                  clear H128; intro a129 H129
                  refine fin ?_
                  refine then_n ?_
                  refine wp_ret ?_
                  -- return 6
                  refine ret2 rfl H129 rfl rfl ?_
                  refine ⟨_, [], rfl, ⟨?_, rfl⟩, H129.sep.sub (List.nil_sublist _)⟩
                  clear H129
                  first | (rw [Note.writeBatch_bad (by rw [hn3]; simp only [decide_eq_true_eq]; omega)]) | (rw [Note.writeBatch_at (k := k) (by omega) (by assumption)]) | (rw [Note.writeBatch_ok (k := k) (by rw [hn3]; exact decide_eq_true (by omega)) (by omega) hok.2 (by omega)])

end Go.Proofs.YtnnhnnhdoipbaaaDoor.N_RWBatch

set_option linter.unusedVariables false
set_option linter.unusedSimpArgs false
namespace Go.Proofs.YtnnhnnhdoipbaaaDoor.N_RRBatch
open Go.Sx Go.RowKit Go.Proofs.YtnnhnnhdoipbaaaDoor.N_Block Go.Proofs.YtnnhnnhdoipbaaaDoor.N_Sum Go.Proofs.YtnnhnnhdoipbaaaDoor.N_Ref Go.Proofs.YtnnhnnhdoipbaaaDoor.N_RSum Go.Proofs.YtnnhnnhdoipbaaaDoor.N_Leaf Go.Proofs.YtnnhnnhdoipbaaaDoor.N_Num Go.Proofs.YtnnhnnhdoipbaaaDoor.N_Key Go.Proofs.YtnnhnnhdoipbaaaDoor.N_Ref Go.Proofs.YtnnhnnhdoipbaaaDoor.N_RSum Go.Proofs.YtnnhnnhdoipbaaaDoor.N_Tag Go.Proofs.YtnnhnnhdoipbaaaDoor.N_Read Go.Proofs.YtnnhnnhdoipbaaaDoor.N_Lay Go.Proofs.YtnnhnnhdoipbaaaDoor.N_Eq Go.Proofs.YtnnhnnhdoipbaaaDoor.N_Ref0 Go.Proofs.YtnnhnnhdoipbaaaDoor.N_RWBatch

theorem z_size42 : sizeB Tryd.prog 42 = some 4 := by kernel_rfl
theorem q_len_c4 {a0 a1 a2 a3 : Value} : (a0 :: a1 :: a2 :: a3 :: []).length = 4 := (len_c (n := 3) (len_c (n := 2) (len_c (n := 1) (len_c (n := 0) len_n))))
theorem z_agg42 : aggB Tryd.prog 42 = some true := by kernel_rfl
theorem z_size3 : sizeB Tryd.prog 3 = some 1 := by kernel_rfl
theorem z_agg3 : aggB Tryd.prog 3 = some false := by kernel_rfl
theorem z_size9 : sizeB Tryd.prog 9 = some 1 := by kernel_rfl
theorem z_agg9 : aggB Tryd.prog 9 = some false := by kernel_rfl
theorem z_zeroN75 : zeroL Tryd.prog 75 = some ((.bool false :: (.string ⟨#[]⟩ :: []))) := by kernel_rfl
theorem q_len_c2 {a0 a1 : Value} : (a0 :: a1 :: []).length = 2 := (len_c (n := 1) (len_c (n := 0) len_n))
theorem z_size75 : sizeB Tryd.prog 75 = some 2 := by kernel_rfl
theorem q_one_c2 {a0 a1 : Value} (o0 : a0.oneCell' = true) (o1 : a1.oneCell' = true) : (a0 :: a1 :: []).all (·.oneCell') = true := (one_c o0 (one_c o1 one_n))
theorem q_spl_c2_0_c2 {a0 a1 : Value} {b0 b1 : Value} : spl (a0 :: a1 :: []) 0 (b0 :: b1 :: []) = b0 :: b1 :: [] := (spl_a (z := 2) (len_c (n := 1) (len_c (n := 0) len_n)) (len_c (n := 1) (len_c (n := 0) len_n)))
theorem z_field75_0 : fieldB Tryd.prog 75 0 = some 0 := by kernel_rfl
theorem z_agg4 : aggB Tryd.prog 4 = some false := by kernel_rfl
theorem q_ix_c2_0 {a0 a1 : Value} : (a0 :: a1 :: [])[0]? = some a0 := ix_0
theorem z_field75_1 : fieldB Tryd.prog 75 1 = some 1 := by kernel_rfl
theorem z_agg75 : aggB Tryd.prog 75 = some true := by kernel_rfl
theorem z_call48 : callB Tryd.prog 48 = true := by kernel_rfl
theorem z_field42_3 : fieldB Tryd.prog 42 3 = some 3 := by kernel_rfl
theorem z_agg40 : aggB Tryd.prog 40 = some false := by kernel_rfl
theorem q_ix_c4_3 {a0 a1 a2 a3 : Value} : (a0 :: a1 :: a2 :: a3 :: [])[3]? = some a3 := (ix_c (o := 2) (ix_c (o := 1) (ix_c (o := 0) ix_0)))
theorem z_field42_0 : fieldB Tryd.prog 42 0 = some 0 := by kernel_rfl
theorem q_ix_c4_0 {a0 a1 a2 a3 : Value} : (a0 :: a1 :: a2 :: a3 :: [])[0]? = some a0 := ix_0
theorem z_call45 : callB Tryd.prog 45 = true := by kernel_rfl
theorem z_field42_1 : fieldB Tryd.prog 42 1 = some 1 := by kernel_rfl
theorem q_ix_c4_1 {a0 a1 a2 a3 : Value} : (a0 :: a1 :: a2 :: a3 :: [])[1]? = some a1 := (ix_c (o := 0) ix_0)
theorem z_field42_2 : fieldB Tryd.prog 42 2 = some 2 := by kernel_rfl
theorem q_ix_c4_2 {a0 a1 a2 a3 : Value} : (a0 :: a1 :: a2 :: a3 :: [])[2]? = some a2 := (ix_c (o := 1) (ix_c (o := 0) ix_0))
theorem q_ld_c4_0_4 {a0 a1 a2 a3 : Value} : ((a0 :: a1 :: a2 :: a3 :: []).drop 0).take 4 = a0 :: a1 :: a2 :: a3 :: [] := (ld_a (len_c (n := 3) (len_c (n := 2) (len_c (n := 1) (len_c (n := 0) len_n)))))

end Go.Proofs.YtnnhnnhdoipbaaaDoor.N_RRBatch

set_option linter.unusedVariables false
set_option linter.unusedSimpArgs false
namespace Go.Proofs.YtnnhnnhdoipbaaaDoor.N_Aw
open Go.Sx Go.RowKit Go.Proofs.YtnnhnnhdoipbaaaDoor.N_Block Go.Proofs.YtnnhnnhdoipbaaaDoor.N_Sum Go.Proofs.YtnnhnnhdoipbaaaDoor.N_Ref Go.Proofs.YtnnhnnhdoipbaaaDoor.N_RSum Go.Proofs.YtnnhnnhdoipbaaaDoor.N_Leaf Go.Proofs.YtnnhnnhdoipbaaaDoor.N_Num Go.Proofs.YtnnhnnhdoipbaaaDoor.N_Key Go.Proofs.YtnnhnnhdoipbaaaDoor.N_Ref Go.Proofs.YtnnhnnhdoipbaaaDoor.N_RSum Go.Proofs.YtnnhnnhdoipbaaaDoor.N_Tag Go.Proofs.YtnnhnnhdoipbaaaDoor.N_Read Go.Proofs.YtnnhnnhdoipbaaaDoor.N_Lay Go.Proofs.YtnnhnnhdoipbaaaDoor.N_Eq Go.Proofs.YtnnhnnhdoipbaaaDoor.N_Ref0 Go.Proofs.YtnnhnnhdoipbaaaDoor.N_Rec Go.Proofs.YtnnhnnhdoipbaaaDoor.N_RRec Go.Proofs.YtnnhnnhdoipbaaaDoor.N_Fields Go.Proofs.YtnnhnnhdoipbaaaDoor.N_RBid Go.Proofs.YtnnhnnhdoipbaaaDoor.N_Sign Go.Proofs.YtnnhnnhdoipbaaaDoor.N_Item Go.Proofs.YtnnhnnhdoipbaaaDoor.N_WBatch Go.Proofs.YtnnhnnhdoipbaaaDoor.N_RBatch Go.Proofs.YtnnhnnhdoipbaaaDoor.N_RefB Go.Proofs.YtnnhnnhdoipbaaaDoor.N_RefI Go.Proofs.YtnnhnnhdoipbaaaDoor.N_RefR Go.Proofs.YtnnhnnhdoipbaaaDoor.N_RWBatch Go.Proofs.YtnnhnnhdoipbaaaDoor.N_RRBatch

theorem z_zeroN25 : zeroL Tryd.prog 25 = some ((.int .i64 0 :: (.int .i64 0 :: (.int .i64 0 :: (.int .i64 0 :: (List.replicate 32 (0 : UInt8)).map u8))))) := by kernel_rfl
theorem z_places25 : placesB Tryd.prog 25 = some [(0, 1), (1, 1), (2, 1), (3, 1), (4, 32)] := by kernel_rfl
theorem q_len_c4b32 {a0 a1 a2 a3 : Value} {t4 : List UInt8} (h4 : t4.length = 32) : (a0 :: a1 :: a2 :: a3 :: t4.map u8).length = 36 := (len_c (n := 35) (len_c (n := 34) (len_c (n := 33) (len_c (n := 32) (len_e (k := 32) h4)))))
theorem q_spl_c4b32_0_c1 {a0 a1 a2 a3 : Value} {t4 : List UInt8} {b0 : Value} : spl (a0 :: a1 :: a2 :: a3 :: t4.map u8) 0 (b0 :: []) = b0 :: a1 :: a2 :: a3 :: t4.map u8 := spl_0
theorem q_spl_c4b32_1_c1 {a0 a1 a2 a3 : Value} {t4 : List UInt8} {b0 : Value} : spl (a0 :: a1 :: a2 :: a3 :: t4.map u8) 1 (b0 :: []) = a0 :: b0 :: a2 :: a3 :: t4.map u8 := (spl_c (o := 0) spl_0)
theorem q_spl_c4b32_2_c1 {a0 a1 a2 a3 : Value} {t4 : List UInt8} {b0 : Value} : spl (a0 :: a1 :: a2 :: a3 :: t4.map u8) 2 (b0 :: []) = a0 :: a1 :: b0 :: a3 :: t4.map u8 := (spl_c (o := 1) (spl_c (o := 0) spl_0))
theorem z_call12 : callB Tryd.prog 12 = true := by kernel_rfl
theorem z_size25 : sizeB Tryd.prog 25 = some 36 := by kernel_rfl
theorem q_one_c4b32 {a0 a1 a2 a3 : Value} {t4 : List UInt8} (o0 : a0.oneCell' = true) (o1 : a1.oneCell' = true) (o2 : a2.oneCell' = true) (o3 : a3.oneCell' = true) : (a0 :: a1 :: a2 :: a3 :: t4.map u8).all (·.oneCell') = true := (one_c o0 (one_c o1 (one_c o2 (one_c o3 (one_u8 _)))))
theorem q_spl_c4b32_0_c4b32 {a0 a1 a2 a3 : Value} {t4 : List UInt8} {b0 b1 b2 b3 : Value} {s4 : List UInt8} (h4 : t4.length = 32) (g4 : s4.length = 32) : spl (a0 :: a1 :: a2 :: a3 :: t4.map u8) 0 (b0 :: b1 :: b2 :: b3 :: s4.map u8) = b0 :: b1 :: b2 :: b3 :: s4.map u8 := (spl_a (z := 36) (len_c (n := 35) (len_c (n := 34) (len_c (n := 33) (len_c (n := 32) (len_e (k := 32) h4))))) (len_c (n := 35) (len_c (n := 34) (len_c (n := 33) (len_c (n := 32) (len_e (k := 32) g4))))))
theorem z_agg25 : aggB Tryd.prog 25 = some true := by kernel_rfl
theorem q_ld_c4b32_0_36 {a0 a1 a2 a3 : Value} {t4 : List UInt8} (h4 : t4.length = 32) : ((a0 :: a1 :: a2 :: a3 :: t4.map u8).drop 0).take 36 = a0 :: a1 :: a2 :: a3 :: t4.map u8 := (ld_a (len_c (n := 35) (len_c (n := 34) (len_c (n := 33) (len_c (n := 32) (len_e (k := 32) h4))))))
theorem z_call10 : callB Tryd.prog 10 = true := by kernel_rfl
theorem z_call26 : callB Tryd.prog 26 = true := by kernel_rfl
theorem z_zeroN23 : zeroL Tryd.prog 23 = some ((List.replicate 32 (0 : UInt8)).map u8) := by kernel_rfl
theorem z_size5 : sizeB Tryd.prog 5 = some 1 := by kernel_rfl
theorem z_call19 : callB Tryd.prog 19 = true := by kernel_rfl
theorem z_zeroN35 : zeroL Tryd.prog 35 = some ((.int .i64 0 :: (.int .i64 0 :: (.int .i64 0 :: (.string ⟨#[]⟩ :: ((List.replicate 32 (0 : UInt8)).map u8 ++ (List.replicate 32 (0 : UInt8)).map u8)))))) := by kernel_rfl
theorem z_size35 : sizeB Tryd.prog 35 = some 68 := by kernel_rfl
theorem q_one_c4b32b32 {a0 a1 a2 a3 : Value} {t4 t5 : List UInt8} (o0 : a0.oneCell' = true) (o1 : a1.oneCell' = true) (o2 : a2.oneCell' = true) (o3 : a3.oneCell' = true) : (a0 :: a1 :: a2 :: a3 :: (t4.map u8 ++ (t5.map u8))).all (·.oneCell') = true := (one_c o0 (one_c o1 (one_c o2 (one_c o3 (one_b (one_u8 _))))))
theorem q_len_c4b32b32 {a0 a1 a2 a3 : Value} {t4 t5 : List UInt8} (h4 : t4.length = 32) (h5 : t5.length = 32) : (a0 :: a1 :: a2 :: a3 :: (t4.map u8 ++ (t5.map u8))).length = 68 := (len_c (n := 67) (len_c (n := 66) (len_c (n := 65) (len_c (n := 64) (len_b (k := 32) (n := 32) h4 (len_e (k := 32) h5))))))
theorem q_spl_c4b32b32_0_c4b32b32 {a0 a1 a2 a3 : Value} {t4 t5 : List UInt8} {b0 b1 b2 b3 : Value} {s4 s5 : List UInt8} (h4 : t4.length = 32) (h5 : t5.length = 32) (g4 : s4.length = 32) (g5 : s5.length = 32) : spl (a0 :: a1 :: a2 :: a3 :: (t4.map u8 ++ (t5.map u8))) 0 (b0 :: b1 :: b2 :: b3 :: (s4.map u8 ++ (s5.map u8))) = b0 :: b1 :: b2 :: b3 :: (s4.map u8 ++ (s5.map u8)) := (spl_a (z := 68) (len_c (n := 67) (len_c (n := 66) (len_c (n := 65) (len_c (n := 64) (len_b (k := 32) (n := 32) h4 (len_e (k := 32) h5)))))) (len_c (n := 67) (len_c (n := 66) (len_c (n := 65) (len_c (n := 64) (len_b (k := 32) (n := 32) g4 (len_e (k := 32) g5)))))))
theorem z_call15 : callB Tryd.prog 15 = true := by kernel_rfl
theorem z_field35_5 : fieldB Tryd.prog 35 5 = some 36 := by kernel_rfl
theorem z_agg23 : aggB Tryd.prog 23 = some true := by kernel_rfl
theorem z_size23 : sizeB Tryd.prog 23 = some 32 := by kernel_rfl
theorem q_ld_c4b32b32_36_32 {a0 a1 a2 a3 : Value} {t4 t5 : List UInt8} (h4 : t4.length = 32) (h5 : t5.length = 32) : ((a0 :: a1 :: a2 :: a3 :: (t4.map u8 ++ (t5.map u8))).drop 36).take 32 = t5.map u8 := (ld_c (o := 35) (ld_c (o := 34) (ld_c (o := 33) (ld_c (o := 32) (ld_b (k := 32) (o := 0) h4 rfl (ld_a (len_e (k := 32) h5)))))))
theorem q_len_b32 {t0 : List UInt8} (h0 : t0.length = 32) : (t0.map u8).length = 32 := (len_e (k := 32) h0)

set_option maxRecDepth 100000 in
set_option maxHeartbeats 2000000 in
theorem awake5 {w : World} (hG : Glob 0 Sha.K w) : Calls Tryd.prog 14 #[] w (Gives (.bool true) [] w) := by
  obtain ⟨sb, hsb⟩ : ∃ x, x = Note.signBid Note.b0 := ⟨_, rfl⟩
  obtain ⟨lk, hlk⟩ : ∃ x, x = Note.link Note.Z 0 1 5 [97] := ⟨_, rfl⟩
  have hs2 : sb.2 = 0 := by rw [hsb]; exact Note.aw_sign
  have hsl : sb.1.tag.length = 32 := by rw [hsb]; exact Note.sb_len
  have hsw : (Note.writeBid sb.1).2 = 0 := by rw [hsb]; exact Note.aw_write
  have hsr : Note.readBid (Note.writeBid sb.1).1 = (sb.1, 0) := by rw [hsb]; exact Note.aw_read
  have hsc : Note.checkBid sb.1 = 0 := by rw [hsb]; exact Note.aw_check
  have wfs : Note.Bid.Wf sb.1 := by rw [hsb]; exact Note.bid_wf Note.sb_ok Note.sb_len
  have hl2 : lk.2 = 0 := by rw [hlk, Note.aw_link]
  have hlp : lk.1.prev.length = 32 := by rw [hlk]; exact Note.linkF_prev _ rfl
  have hlh : lk.1.hash.length = 32 := by rw [hlk]; exact Note.linkF_hash _ _ _ _ _
  have hln : lk.1.hash ≠ List.replicate 32 0 := by rw [hlk]; exact Note.aw_hash
  have hrl : (Note.readBid (Note.writeBid sb.1).1).1.tag.length = 32 := Note.readBid_len
  have hsg : ∀ {w : World}, Glob 0 Sha.K w → Calls Tryd.prog 12 #[.agg (Note.Bid.cells Note.b0).toArray] w (Gives (.tuple #[.agg (Note.Bid.cells sb.1).toArray, .int .i64 sb.2]) [] w) := fun hG => by rw [hsb]; exact nsign Note.b0 (Note.bid_wf Note.b0_ok rfl) hG
  have hlg : ∀ {w : World}, Glob 0 Sha.K w → Calls Tryd.prog 19 #[.agg (Note.Z.map u8).toArray, .int .i64 0, .int .i64 1, .int .i64 5, str [97]] w (Gives (.tuple #[.agg (Note.Receipt.cells lk.1).toArray, .int .i64 lk.2]) [] w) := fun hG => by rw [hlk]; exact nlinkF Note.Z rfl 0 1 5 (by omega) (by omega) (by omega) [97] (by simp) hG
  clear hsb hlk
  have lz32 : (List.replicate 32 (0 : UInt8)).length = 32 := List.length_replicate
  refine enterL (args := []) Tryd.func14 rfl rfl (l := []) (Sep.refl _) ?_
  intro a0 H0
  refine wp_seq ?_
  refine reg ?_
  refine plain (y_assign rfl rfl) rfl rfl rfl H0 ?_
  clear H0; intro a1 H1
  refine fin ?_
  refine then_n ?_
  refine wp_seq ?_
  refine reg ?_
  refine plain (y_build rfl z_zeroN25 z_places25 rfl (lay_1 (off := 0) (n := 36) rfl (q_len_c4b32 (by assumption)) (by decide) q_spl_c4b32_0_c1 (lay_1 (off := 1) (n := 36) rfl (q_len_c4b32 (by assumption)) (by decide) q_spl_c4b32_1_c1 (lay_1 (off := 2) (n := 36) rfl (q_len_c4b32 (by assumption)) (by decide) q_spl_c4b32_2_c1 lay_n (by rfl)) (by rfl)) (by rfl))) rfl rfl rfl H1 ?_
  clear H1; intro a2 H2
  refine st_callg rfl z_call12 rfl rfl rfl rfl H2 (hsg (hG.frm H2.sep.frm (by simp))) ?_
  clear H2; intro a3 wx3 H3
  refine plain (y_move rfl rfl) rfl rfl rfl H3 ?_
  clear H3; intro a4 H4
  refine plain (y_extract rfl rfl rfl) rfl rfl rfl H4 ?_
  clear H4; intro a5 H5
  refine plain (y_extract rfl rfl rfl) rfl rfl rfl H5 ?_
  clear H5; intro a6 H6
  refine st_alloc rfl z_zeroN25 rfl rfl rfl H6 ?_
  clear H6; intro b7 a7 wx7 H7
  refine st_storeN rfl z_size25 rfl rfl (agg_cells _) (by repeat (first | exact Uh | apply Ut)) (q_one_c4b32 rfl rfl rfl rfl) (q_len_c4b32 (by assumption)) (q_len_c4b32 (by assumption)) (q_spl_c4b32_0_c4b32 (by assumption) (by assumption)) (by decide) rfl rfl H7 ?_
  clear H7; intro wx8 H8
  refine plain (y_assign rfl rfl) rfl rfl rfl H8 ?_
  clear H8; intro a9 H9
  refine fin ?_
  refine then_n ?_
  refine wp_seq ?_
  refine reg ?_
  refine plain (y_loadAB rfl z_agg25 z_size25 rfl (by repeat (first | exact Mh | apply Mt)) (q_ld_c4b32_0_36 (by assumption)) (q_len_c4b32 (by assumption))) rfl rfl rfl H9 ?_
  clear H9; intro a10 H10
  refine st_callg rfl z_call10 rfl rfl rfl rfl H10 (nwbid sb.1 wfs _) ?_
  clear H10; intro a11 wx11 H11
  refine plain (y_move rfl rfl) rfl rfl rfl H11 ?_
  clear H11; intro a12 H12
  refine plain (y_extract rfl rfl rfl) rfl rfl rfl H12 ?_
  clear H12; intro a13 H13
  refine plain (y_extract rfl rfl rfl) rfl rfl rfl H13 ?_
  clear H13; intro a14 H14
  refine plain (y_assign rfl rfl) rfl rfl rfl H14 ?_
  clear H14; intro a15 H15
  refine plain (y_assign rfl rfl) rfl rfl rfl H15 ?_
  clear H15; intro a16 H16
  refine fin ?_
  refine then_n ?_
  refine wp_seq ?_
  refine reg ?_
  refine plain (y_move rfl rfl) rfl rfl rfl H16 ?_
  clear H16; intro a17 H17
  refine st_callg rfl z_call26 rfl rfl rfl rfl H17 (nreadbid (Note.writeBid sb.1).1 (by have := Note.wbid_len (b := sb.1); omega)) ?_
  clear H17; intro a18 wx18 H18
  refine plain (y_move rfl rfl) rfl rfl rfl H18 ?_
  clear H18; intro a19 H19
  refine plain (y_extract rfl rfl rfl) rfl rfl rfl H19 ?_
  clear H19; intro a20 H20
  refine plain (y_extract rfl rfl rfl) rfl rfl rfl H20 ?_
  clear H20; intro a21 H21
  refine st_alloc rfl z_zeroN25 rfl rfl rfl H21 ?_
  clear H21; intro b22 a22 wx22 H22
  refine st_storeN rfl z_size25 rfl rfl (agg_cells _) (by repeat (first | exact Uh | apply Ut)) (q_one_c4b32 rfl rfl rfl rfl) (q_len_c4b32 (by assumption)) (q_len_c4b32 (by assumption)) (q_spl_c4b32_0_c4b32 (by assumption) (by assumption)) (by decide) rfl rfl H22 ?_
  clear H22; intro wx23 H23
  refine plain (y_assign rfl rfl) rfl rfl rfl H23 ?_
  clear H23; intro a24 H24
  refine fin ?_
  refine then_n ?_
  refine wp_seq ?_
  refine reg ?_
  refine plain (y_buildA rfl z_zeroN23 Tryd.underlying23 z_size5 rfl lay_n) rfl rfl rfl H24 ?_
  clear H24; intro a25 H25
  refine st_callg rfl z_call19 rfl rfl rfl rfl H25 (hlg (hG.frm H25.sep.frm (by simp))) ?_
  clear H25; intro a26 wx26 H26
  refine plain (y_move rfl rfl) rfl rfl rfl H26 ?_
  clear H26; intro a27 H27
  refine plain (y_extract rfl rfl rfl) rfl rfl rfl H27 ?_
  clear H27; intro a28 H28
  refine plain (y_extract rfl rfl rfl) rfl rfl rfl H28 ?_
  clear H28; intro a29 H29
  refine st_alloc rfl z_zeroN35 rfl rfl rfl H29 ?_
  clear H29; intro b30 a30 wx30 H30
  refine st_storeN rfl z_size35 rfl rfl (agg_cells _) (by repeat (first | exact Uh | apply Ut)) (q_one_c4b32b32 rfl rfl rfl rfl) (q_len_c4b32b32 (by assumption) (by assumption)) (q_len_c4b32b32 (by assumption) (by assumption)) (q_spl_c4b32b32_0_c4b32b32 (by assumption) (by assumption) (by assumption) (by assumption)) (by decide) rfl rfl H30 ?_
  clear H30; intro wx31 H31
  refine plain (y_assign rfl rfl) rfl rfl rfl H31 ?_
  clear H31; intro a32 H32
  refine fin ?_
  refine then_n ?_
  refine wp_seq ?_
  refine reg ?_
  refine plain (y_move rfl rfl) rfl rfl rfl H32 ?_
  clear H32; intro a33 H33
  refine plain (y_eql rfl rfl rfl) rfl rfl rfl H33 ?_
  clear H33; intro a34 H34
  refine plain (y_move rfl rfl) rfl rfl rfl H34 ?_
  clear H34; intro a35 H35
  have H37 := H35.know (d := 31) (v := .bool true) rfl (congrArg Value.bool (decide_eq_true (hs2)))
  clear H35
  refine plain (y_move rfl rfl) rfl rfl rfl H37 ?_
  clear H37; intro a38 H38
  refine plain (y_eql rfl rfl rfl) rfl rfl rfl H38 ?_
  clear H38; intro a39 H39
  refine plain (y_pick_t rfl rfl rfl) rfl rfl rfl H39 ?_
  clear H39; intro a40 H40
  refine plain (y_move rfl rfl) rfl rfl rfl H40 ?_
  clear H40; intro a41 H41
  have H43 := H41.know (d := 35) (v := .bool true) rfl (congrArg Value.bool (decide_eq_true (hsw)))
  clear H41
  refine plain (y_move rfl rfl) rfl rfl rfl H43 ?_
  clear H43; intro a44 H44
  refine plain (y_eql rfl rfl rfl) rfl rfl rfl H44 ?_
  clear H44; intro a45 H45
  refine plain (y_pick_t rfl rfl rfl) rfl rfl rfl H45 ?_
  clear H45; intro a46 H46
  refine plain (y_move rfl rfl) rfl rfl rfl H46 ?_
  clear H46; intro a47 H47
  have H49 := H47.know (d := 39) (v := .bool true) rfl (congrArg Value.bool (decide_eq_true (by rw [hsr])))
  clear H47
  refine plain (y_loadAB rfl z_agg25 z_size25 rfl (by repeat (first | exact Mh | apply Mt)) (q_ld_c4b32_0_36 (by assumption)) (q_len_c4b32 (by assumption))) rfl rfl rfl H49 ?_
  clear H49; intro a50 H50
  refine plain (y_loadAB rfl z_agg25 z_size25 rfl (by repeat (first | exact Mh | apply Mt)) (q_ld_c4b32_0_36 (by assumption)) (q_len_c4b32 (by assumption))) rfl rfl rfl H50 ?_
  clear H50; intro a51 H51
  refine plain (y_teql rfl (by kernel_rfl) rfl rfl (eqr_Bid sb.1 (Note.readBid (Note.writeBid sb.1).1).1 hsl hrl)) rfl rfl rfl H51 ?_
  clear H51; intro a52 H52
  refine plain (y_pick_t rfl rfl rfl) rfl rfl rfl H52 ?_
  clear H52; intro a53 H53
  refine plain (y_move rfl rfl) rfl rfl rfl H53 ?_
  clear H53; intro a54 H54
  have H56 := H54.know (d := 44) (v := .bool true) rfl (congrArg Value.bool (decide_eq_true (by rw [hsr])))
  clear H54
  refine plain (y_loadAB rfl z_agg25 z_size25 rfl (by repeat (first | exact Mh | apply Mt)) (q_ld_c4b32_0_36 (by assumption)) (q_len_c4b32 (by assumption))) rfl rfl rfl H56 ?_
  clear H56; intro a57 H57
  refine st_callg rfl z_call15 rfl rfl rfl rfl H57 (ncheck sb.1 wfs (hG.frm H57.sep.frm (by simp))) ?_
  clear H57; intro a58 wx58 H58
  refine plain (y_eql rfl rfl rfl) rfl rfl rfl H58 ?_
  clear H58; intro a59 H59
  refine plain (y_pick_t rfl rfl rfl) rfl rfl rfl H59 ?_
  clear H59; intro a60 H60
  refine plain (y_move rfl rfl) rfl rfl rfl H60 ?_
  clear H60; intro a61 H61
  have H63 := H61.know (d := 49) (v := .bool true) rfl (congrArg Value.bool (decide_eq_true (hsc)))
  clear H61
  refine plain (y_move rfl rfl) rfl rfl rfl H63 ?_
  clear H63; intro a64 H64
  refine plain (y_eql rfl rfl rfl) rfl rfl rfl H64 ?_
  clear H64; intro a65 H65
  refine plain (y_pick_t rfl rfl rfl) rfl rfl rfl H65 ?_
  clear H65; intro a66 H66
  refine plain (y_move rfl rfl) rfl rfl rfl H66 ?_
  clear H66; intro a67 H67
  have H69 := H67.know (d := 53) (v := .bool true) rfl (congrArg Value.bool (decide_eq_true (hl2)))
  clear H67
  refine plain (y_fieldB rfl z_field35_5 rfl (by first | (simp only [Nat.zero_add, Nat.add_zero, Nat.reduceAdd]; rfl) | rfl)) rfl rfl rfl H69 ?_
  clear H69; intro a70 H70
  refine plain (y_loadAB rfl z_agg23 z_size23 rfl (by repeat (first | exact Mh | apply Mt)) (q_ld_c4b32b32_36_32 (by assumption) (by assumption)) (q_len_b32 (by assumption))) rfl rfl rfl H70 ?_
  clear H70; intro a71 H71
  refine plain (y_buildA rfl z_zeroN23 Tryd.underlying23 z_size5 rfl lay_n) rfl rfl rfl H71 ?_
  clear H71; intro a72 H72
  refine plain (y_hneq rfl Tryd.eqGuardType23 Tryd.underlying23 Tryd.underlying5 z_size5 rfl rfl (by assumption) (by assumption)) rfl rfl rfl H72 ?_
  clear H72; intro a73 H73
  refine plain (y_pick_t rfl rfl rfl) rfl rfl rfl H73 ?_
  clear H73; intro a74 H74
  refine plain (y_assign rfl rfl) rfl rfl rfl H74 ?_
  clear H74; intro a75 H75
  refine fin ?_
  refine then_n ?_
  refine wp_ret ?_
  -- return 1
  refine ret1 rfl H75 rfl ?_
  exact ⟨_, [], rfl, ⟨congrArg Value.bool (decide_eq_true hln), rfl⟩, H75.sep.sub (List.nil_sublist _)⟩

end Go.Proofs.YtnnhnnhdoipbaaaDoor.N_Aw

set_option linter.unusedVariables false
set_option linter.unusedSimpArgs false
namespace Go.Proofs.YtnnhnnhdoipbaaaDoor.N_L1
open Go.Sx Go.RowKit Go.Proofs.YtnnhnnhdoipbaaaDoor.N_Block Go.Proofs.YtnnhnnhdoipbaaaDoor.N_Sum Go.Proofs.YtnnhnnhdoipbaaaDoor.N_Ref Go.Proofs.YtnnhnnhdoipbaaaDoor.N_RSum Go.Proofs.YtnnhnnhdoipbaaaDoor.N_Leaf Go.Proofs.YtnnhnnhdoipbaaaDoor.N_Num Go.Proofs.YtnnhnnhdoipbaaaDoor.N_Key Go.Proofs.YtnnhnnhdoipbaaaDoor.N_Ref Go.Proofs.YtnnhnnhdoipbaaaDoor.N_RSum Go.Proofs.YtnnhnnhdoipbaaaDoor.N_Tag Go.Proofs.YtnnhnnhdoipbaaaDoor.N_Read Go.Proofs.YtnnhnnhdoipbaaaDoor.N_Lay Go.Proofs.YtnnhnnhdoipbaaaDoor.N_Eq Go.Proofs.YtnnhnnhdoipbaaaDoor.N_Ref0 Go.Proofs.YtnnhnnhdoipbaaaDoor.N_Rec Go.Proofs.YtnnhnnhdoipbaaaDoor.N_RRec Go.Proofs.YtnnhnnhdoipbaaaDoor.N_Fields Go.Proofs.YtnnhnnhdoipbaaaDoor.N_RBid Go.Proofs.YtnnhnnhdoipbaaaDoor.N_Sign Go.Proofs.YtnnhnnhdoipbaaaDoor.N_Item Go.Proofs.YtnnhnnhdoipbaaaDoor.N_WBatch Go.Proofs.YtnnhnnhdoipbaaaDoor.N_RBatch Go.Proofs.YtnnhnnhdoipbaaaDoor.N_RefB Go.Proofs.YtnnhnnhdoipbaaaDoor.N_RefI Go.Proofs.YtnnhnnhdoipbaaaDoor.N_RefR Go.Proofs.YtnnhnnhdoipbaaaDoor.N_RWBatch Go.Proofs.YtnnhnnhdoipbaaaDoor.N_RRBatch Go.Proofs.YtnnhnnhdoipbaaaDoor.N_Aw

theorem z_agg25 : aggB Tryd.prog 25 = some true := by kernel_rfl
theorem z_size25 : sizeB Tryd.prog 25 = some 36 := by kernel_rfl
theorem q_ld_c4b32_0_36 {a0 a1 a2 a3 : Value} {t4 : List UInt8} (h4 : t4.length = 32) : ((a0 :: a1 :: a2 :: a3 :: t4.map u8).drop 0).take 36 = a0 :: a1 :: a2 :: a3 :: t4.map u8 := (ld_a (len_c (n := 35) (len_c (n := 34) (len_c (n := 33) (len_c (n := 32) (len_e (k := 32) h4))))))
theorem q_len_c4b32 {a0 a1 a2 a3 : Value} {t4 : List UInt8} (h4 : t4.length = 32) : (a0 :: a1 :: a2 :: a3 :: t4.map u8).length = 36 := (len_c (n := 35) (len_c (n := 34) (len_c (n := 33) (len_c (n := 32) (len_e (k := 32) h4)))))
theorem z_call10 : callB Tryd.prog 10 = true := by kernel_rfl
theorem z_call12 : callB Tryd.prog 12 = true := by kernel_rfl
theorem z_zeroN25 : zeroL Tryd.prog 25 = some ((.int .i64 0 :: (.int .i64 0 :: (.int .i64 0 :: (.int .i64 0 :: (List.replicate 32 (0 : UInt8)).map u8))))) := by kernel_rfl
theorem q_one_c4b32 {a0 a1 a2 a3 : Value} {t4 : List UInt8} (o0 : a0.oneCell' = true) (o1 : a1.oneCell' = true) (o2 : a2.oneCell' = true) (o3 : a3.oneCell' = true) : (a0 :: a1 :: a2 :: a3 :: t4.map u8).all (·.oneCell') = true := (one_c o0 (one_c o1 (one_c o2 (one_c o3 (one_u8 _)))))
theorem q_spl_c4b32_0_c4b32 {a0 a1 a2 a3 : Value} {t4 : List UInt8} {b0 b1 b2 b3 : Value} {s4 : List UInt8} (h4 : t4.length = 32) (g4 : s4.length = 32) : spl (a0 :: a1 :: a2 :: a3 :: t4.map u8) 0 (b0 :: b1 :: b2 :: b3 :: s4.map u8) = b0 :: b1 :: b2 :: b3 :: s4.map u8 := (spl_a (z := 36) (len_c (n := 35) (len_c (n := 34) (len_c (n := 33) (len_c (n := 32) (len_e (k := 32) h4))))) (len_c (n := 35) (len_c (n := 34) (len_c (n := 33) (len_c (n := 32) (len_e (k := 32) g4))))))
theorem z_call14 : callB Tryd.prog 14 = true := by kernel_rfl
theorem z_call15 : callB Tryd.prog 15 = true := by kernel_rfl
theorem z_agg35 : aggB Tryd.prog 35 = some true := by kernel_rfl
theorem z_size35 : sizeB Tryd.prog 35 = some 68 := by kernel_rfl
theorem q_ld_c4b32b32_0_68 {a0 a1 a2 a3 : Value} {t4 t5 : List UInt8} (h4 : t4.length = 32) (h5 : t5.length = 32) : ((a0 :: a1 :: a2 :: a3 :: (t4.map u8 ++ (t5.map u8))).drop 0).take 68 = a0 :: a1 :: a2 :: a3 :: (t4.map u8 ++ (t5.map u8)) := (ld_a (len_c (n := 67) (len_c (n := 66) (len_c (n := 65) (len_c (n := 64) (len_b (k := 32) (n := 32) h4 (len_e (k := 32) h5)))))))
theorem q_len_c4b32b32 {a0 a1 a2 a3 : Value} {t4 t5 : List UInt8} (h4 : t4.length = 32) (h5 : t5.length = 32) : (a0 :: a1 :: a2 :: a3 :: (t4.map u8 ++ (t5.map u8))).length = 68 := (len_c (n := 67) (len_c (n := 66) (len_c (n := 65) (len_c (n := 64) (len_b (k := 32) (n := 32) h4 (len_e (k := 32) h5))))))
theorem z_field35_4 : fieldB Tryd.prog 35 4 = some 4 := by kernel_rfl
theorem z_agg23 : aggB Tryd.prog 23 = some true := by kernel_rfl
theorem z_size23 : sizeB Tryd.prog 23 = some 32 := by kernel_rfl
theorem q_ld_c4b32b32_4_32 {a0 a1 a2 a3 : Value} {t4 t5 : List UInt8} (h4 : t4.length = 32) : ((a0 :: a1 :: a2 :: a3 :: (t4.map u8 ++ (t5.map u8))).drop 4).take 32 = t4.map u8 := (ld_c (o := 3) (ld_c (o := 2) (ld_c (o := 1) (ld_c (o := 0) (ld_h h4)))))
theorem q_len_b32 {t0 : List UInt8} (h0 : t0.length = 32) : (t0.map u8).length = 32 := (len_e (k := 32) h0)
theorem z_field35_0 : fieldB Tryd.prog 35 0 = some 0 := by kernel_rfl
theorem z_agg3 : aggB Tryd.prog 3 = some false := by kernel_rfl
theorem q_ix_c4b32b32_0 {a0 a1 a2 a3 : Value} {t4 t5 : List UInt8} : (a0 :: a1 :: a2 :: a3 :: (t4.map u8 ++ (t5.map u8)))[0]? = some a0 := ix_0
theorem z_field35_1 : fieldB Tryd.prog 35 1 = some 1 := by kernel_rfl
theorem q_ix_c4b32b32_1 {a0 a1 a2 a3 : Value} {t4 t5 : List UInt8} : (a0 :: a1 :: a2 :: a3 :: (t4.map u8 ++ (t5.map u8)))[1]? = some a1 := (ix_c (o := 0) ix_0)
theorem z_field35_2 : fieldB Tryd.prog 35 2 = some 2 := by kernel_rfl
theorem q_ix_c4b32b32_2 {a0 a1 a2 a3 : Value} {t4 t5 : List UInt8} : (a0 :: a1 :: a2 :: a3 :: (t4.map u8 ++ (t5.map u8)))[2]? = some a2 := (ix_c (o := 1) (ix_c (o := 0) ix_0))
theorem z_field35_3 : fieldB Tryd.prog 35 3 = some 3 := by kernel_rfl
theorem z_agg9 : aggB Tryd.prog 9 = some false := by kernel_rfl
theorem q_ix_c4b32b32_3 {a0 a1 a2 a3 : Value} {t4 t5 : List UInt8} : (a0 :: a1 :: a2 :: a3 :: (t4.map u8 ++ (t5.map u8)))[3]? = some a3 := (ix_c (o := 2) (ix_c (o := 1) (ix_c (o := 0) ix_0)))
theorem z_call19 : callB Tryd.prog 19 = true := by kernel_rfl
theorem z_zeroN35 : zeroL Tryd.prog 35 = some ((.int .i64 0 :: (.int .i64 0 :: (.int .i64 0 :: (.string ⟨#[]⟩ :: ((List.replicate 32 (0 : UInt8)).map u8 ++ (List.replicate 32 (0 : UInt8)).map u8)))))) := by kernel_rfl
theorem q_one_c4b32b32 {a0 a1 a2 a3 : Value} {t4 t5 : List UInt8} (o0 : a0.oneCell' = true) (o1 : a1.oneCell' = true) (o2 : a2.oneCell' = true) (o3 : a3.oneCell' = true) : (a0 :: a1 :: a2 :: a3 :: (t4.map u8 ++ (t5.map u8))).all (·.oneCell') = true := (one_c o0 (one_c o1 (one_c o2 (one_c o3 (one_b (one_u8 _))))))
theorem q_spl_c4b32b32_0_c4b32b32 {a0 a1 a2 a3 : Value} {t4 t5 : List UInt8} {b0 b1 b2 b3 : Value} {s4 s5 : List UInt8} (h4 : t4.length = 32) (h5 : t5.length = 32) (g4 : s4.length = 32) (g5 : s5.length = 32) : spl (a0 :: a1 :: a2 :: a3 :: (t4.map u8 ++ (t5.map u8))) 0 (b0 :: b1 :: b2 :: b3 :: (s4.map u8 ++ (s5.map u8))) = b0 :: b1 :: b2 :: b3 :: (s4.map u8 ++ (s5.map u8)) := (spl_a (z := 68) (len_c (n := 67) (len_c (n := 66) (len_c (n := 65) (len_c (n := 64) (len_b (k := 32) (n := 32) h4 (len_e (k := 32) h5)))))) (len_c (n := 67) (len_c (n := 66) (len_c (n := 65) (len_c (n := 64) (len_b (k := 32) (n := 32) g4 (len_e (k := 32) g5)))))))
theorem q_ld_c4_0_4 {a0 a1 a2 a3 : Value} : ((a0 :: a1 :: a2 :: a3 :: []).drop 0).take 4 = a0 :: a1 :: a2 :: a3 :: [] := (ld_a (len_c (n := 3) (len_c (n := 2) (len_c (n := 1) (len_c (n := 0) len_n)))))
theorem q_len_c4 {a0 a1 a2 a3 : Value} : (a0 :: a1 :: a2 :: a3 :: []).length = 4 := (len_c (n := 3) (len_c (n := 2) (len_c (n := 1) (len_c (n := 0) len_n))))
theorem z_agg42 : aggB Tryd.prog 42 = some true := by kernel_rfl
theorem z_size42 : sizeB Tryd.prog 42 = some 4 := by kernel_rfl
theorem z_call21 : callB Tryd.prog 21 = true := by kernel_rfl
theorem z_call22 : callB Tryd.prog 22 = true := by kernel_rfl

set_option maxRecDepth 100000 in
set_option maxHeartbeats 1000000 in
theorem notesBatches (b : Note.Batch) (wf : Note.Batch.Wf b) (A : Option Addr) (c : Nat) {w : World} (hR : Rd w A (Note.pc b.parts)) (hG : Glob 0 Sha.K w) : Calls Tryd.prog 5 #[.agg (Note.Batch.cells b A c).toArray] w (Gives (.bool true) [] w) := by
  have lz32 : (List.replicate 32 (0 : UInt8)).length = 32 := List.length_replicate
  refine enterL (args := [.agg (Note.Batch.cells b A c).toArray]) Tryd.func5 rfl rfl (l := []) (Sep.refl _) ?_
  intro a0 H0
  refine wp_seq ?_
  refine reg ?_
  refine st_box rfl rfl (agg_cells _) rfl rfl rfl H0 ?_
  clear H0; intro b1 a1 wx1 H1
  refine plain (y_assign rfl rfl) rfl rfl rfl H1 ?_
  clear H1; intro a2 H2
  refine fin ?_
  refine then_n ?_
  refine wp_seq ?_
  refine reg ?_
  refine plain (y_loadAB rfl z_agg42 z_size42 rfl (by repeat (first | exact Mh | apply Mt)) q_ld_c4_0_4 q_len_c4) rfl rfl rfl H2 ?_
  clear H2; intro a3 H3
  refine st_callg rfl z_call21 rfl rfl rfl rfl H3 (nwbatch b wf A c (Rd.frm hR H3.sep.frm (by simp))) ?_
  clear H3; intro a4 wx4 H4
  refine plain (y_move rfl rfl) rfl rfl rfl H4 ?_
  clear H4; intro a5 H5
  refine plain (y_extract rfl rfl rfl) rfl rfl rfl H5 ?_
  clear H5; intro a6 H6
  refine plain (y_extract rfl rfl rfl) rfl rfl rfl H6 ?_
  clear H6; intro a7 H7
  refine plain (y_assign rfl rfl) rfl rfl rfl H7 ?_
  clear H7; intro a8 H8
  refine plain (y_assign rfl rfl) rfl rfl rfl H8 ?_
  clear H8; intro a9 H9
  refine fin ?_
  refine then_n ?_
  refine wp_seq ?_
  refine reg ?_
  refine plain (y_loadAB rfl z_agg42 z_size42 rfl (by repeat (first | exact Mh | apply Mt)) q_ld_c4_0_4 q_len_c4) rfl rfl rfl H9 ?_
  clear H9; intro a10 H10
  refine st_callg rfl z_call22 rfl rfl rfl rfl H10 (rwbatch b wf A c (Rd.frm hR H10.sep.frm (by simp))) ?_
  clear H10; intro a11 wx11 H11
  refine plain (y_move rfl rfl) rfl rfl rfl H11 ?_
  clear H11; intro a12 H12
  refine plain (y_extract rfl rfl rfl) rfl rfl rfl H12 ?_
  clear H12; intro a13 H13
  refine plain (y_extract rfl rfl rfl) rfl rfl rfl H13 ?_
  clear H13; intro a14 H14
  refine plain (y_assign rfl rfl) rfl rfl rfl H14 ?_
  clear H14; intro a15 H15
  refine plain (y_assign rfl rfl) rfl rfl rfl H15 ?_
  clear H15; intro a16 H16
  refine fin ?_
  refine then_n ?_
  refine wp_seq ?_
  refine reg ?_
  refine st_callg rfl z_call14 rfl rfl rfl rfl H16 (awake5 (hG.frm H16.sep.frm (by simp))) ?_
  clear H16; intro a17 wx17 H17
  refine plain (y_move rfl rfl) rfl rfl rfl H17 ?_
  clear H17; intro a18 H18
  refine plain (y_move rfl rfl) rfl rfl rfl H18 ?_
  clear H18; intro a19 H19
  refine plain (y_move rfl rfl) rfl rfl rfl H19 ?_
  clear H19; intro a20 H20
  refine plain (y_seql rfl rfl rfl) rfl rfl rfl H20 ?_
  clear H20; intro a21 H21
  refine plain (y_pick_t rfl rfl rfl) rfl rfl rfl H21 ?_
  clear H21; intro a22 H22
  refine plain (y_move rfl rfl) rfl rfl rfl H22 ?_
  clear H22; intro a23 H23
  have H25 := H23.know (d := 23) (v := .bool true) rfl (congrArg Value.bool (decide_eq_true (rfl)))
  clear H23
  refine plain (y_move rfl rfl) rfl rfl rfl H25 ?_
  clear H25; intro a26 H26
  refine plain (y_move rfl rfl) rfl rfl rfl H26 ?_
  clear H26; intro a27 H27
  refine plain (y_eql rfl rfl rfl) rfl rfl rfl H27 ?_
  clear H27; intro a28 H28
  refine plain (y_pick_t rfl rfl rfl) rfl rfl rfl H28 ?_
  clear H28; intro a29 H29
  refine plain (y_assign rfl rfl) rfl rfl rfl H29 ?_
  clear H29; intro a30 H30
  refine fin ?_
  refine then_n ?_
  refine wp_ret ?_
  -- return 1
  refine ret1 rfl H30 rfl ?_
  exact ⟨_, [], rfl, ⟨congrArg Value.bool (decide_eq_true rfl), rfl⟩, H30.sep.sub (List.nil_sublist _)⟩

end Go.Proofs.YtnnhnnhdoipbaaaDoor.N_L1

set_option linter.unusedVariables false
set_option linter.unusedSimpArgs false
namespace Go.Proofs.YtnnhnnhdoipbaaaDoor.N_Rd
open Go.Sx Go.RowKit

theorem rd_Part {H : Type} {enc : TypeId × Value → H} {W : World} {sp : Nat → Bool} {held : Bool} {cs : List Value} (h : Trw enc Tryd.prog W sp held 75 cs) : ∃ (x : Note.Part), cs = Note.Part.cells x ∧ x.text.length ≤ 140737488351232 := by
  have hp := h.pieces Tryd.underlying75 [1, 1] (by kernel_rfl)
  obtain ⟨v0, e0⟩ := (h.field Tryd.underlying75 0 rfl (o := 0) rfl (T := 4) rfl (k := 1) (by kernel_rfl)).bool Tryd.underlying4
  obtain ⟨v1, e1, w1⟩ := (h.field Tryd.underlying75 1 rfl (o := 1) rfl (T := 9) rfl (k := 1) (by kernel_rfl)).str Tryd.underlying9
  refine ⟨⟨v0, v1⟩, ?_, w1⟩
  rw [hp]
  simp only [Sx.pieces, Nat.zero_add, Nat.reduceAdd, e0, e1]
  first | rfl | simp [Note.Part.cells]
theorem rd_Batch {H : Type} {enc : TypeId × Value → H} {W : World} {sp : Nat → Bool} {held : Bool} {cs : List Value} (h : Trw enc Tryd.prog W sp held 42 cs) : ∃ (x : Note.Batch) (A3 : Option Addr) (c3 : Nat), cs = Note.Batch.cells x A3 c3 ∧ Note.Batch.Wf x ∧ Rd W A3 (Note.pc x.parts) := by
  have hp := h.pieces Tryd.underlying42 [1, 1, 1, 1] (by kernel_rfl)
  obtain ⟨v0, e0, w0⟩ := (h.field Tryd.underlying42 0 rfl (o := 0) rfl (T := 3) rfl (k := 1) (by kernel_rfl)).i64 Tryd.underlying3
  obtain ⟨v1, e1, w1⟩ := (h.field Tryd.underlying42 1 rfl (o := 1) rfl (T := 3) rfl (k := 1) (by kernel_rfl)).i64 Tryd.underlying3
  obtain ⟨v2, e2, w2⟩ := (h.field Tryd.underlying42 2 rfl (o := 2) rfl (T := 3) rfl (k := 1) (by kernel_rfl)).i64 Tryd.underlying3
  obtain ⟨A3, m3, c3, e3, hmc3, hm3, rows3, hr3, hR3, hrow3⟩ := ((h.field Tryd.underlying42 3 rfl (o := 3) rfl (T := 40) rfl (k := 1) (by kernel_rfl))).sliceC Tryd.underlying40 (by rw [show Tryd.prog.cellsOf 75 = 2 by kernel_rfl]; decide)
  obtain ⟨v3, rfl, w3⟩ := rows_map (f := Note.Part.cells) (rows := rows3) (fun r hr => rd_Part (hrow3 r hr).2)
  simp only [List.length_map] at hr3
  subst hr3
  refine ⟨⟨v0, v1, v2, v3⟩, A3, c3, ?_, ⟨w0, w1, w2, hm3, w3⟩, hR3⟩
  rw [hp]
  simp only [Sx.pieces, Nat.zero_add, Nat.reduceAdd, e0, e1, e2, e3]
  first | rfl | simp [Note.Batch.cells]
end Go.Proofs.YtnnhnnhdoipbaaaDoor.N_Rd
